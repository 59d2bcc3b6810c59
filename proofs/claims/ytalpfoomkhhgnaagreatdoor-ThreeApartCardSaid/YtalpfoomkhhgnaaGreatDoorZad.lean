/- wire: put, Put. Conditions: as each theorem states. -/
import Derived.Test.YtalpfoomkhhgnaaGreatDoorZac
import Derived.Test.YtalpfoomkhhgnaaGreatDoorZaa
import Derived.Test.YtalpfoomkhhgnaaGreatDoorZab
import Derived.Deep.QuietTactic
import Derived.Lib.QuietBelow
import Derived.Deep.Upon

set_option linter.unusedVariables false
set_option linter.unusedSimpArgs false

/-! Objects as bytes, bytes as objects: in plain Lean. Conditions: as each theorem states. -/
namespace Go.Proofs.YtalpfoomkhhgnaaGreatDoor
open Go Go.RowKit

/-- A row of a tree. -/
structure Itm where
  mode : Int
  name : B8
  id : B8
/-- An object. -/
structure Ob where
  kind : Int
  data : B8
  items : List Itm
  tree : B8
  parents : List B8
  stamp : Int
  author : Int
  msg : B8
def ob0 : Ob := ⟨0, [], [], [], [], 0, 0, []⟩
def risesB : List B8 → Bool
  | a :: b :: l => ltB a b && risesB (b :: l)
  | _ => true
def itemOk (x : Itm) : Bool := decide (1 ≤ x.mode) && (decide (x.mode ≤ 4) && (nameB x.name && validB x.id))
def itemsOk (l : List Itm) : Bool := l.all itemOk && (risesB (l.map (·.name)) && decide (l.length ≤ 256))
def parsOk (l : List B8) : Bool := l.all validB && (risesB l && decide (l.length ≤ 2))
def msgOk (s : B8) : Bool := s.all (fun c => decide (32 ≤ c.toNat) && decide (c.toNat ≤ 126)) && decide (s.length ≤ 200)
def noCom (o : Ob) : Bool := (o.tree == []) && ((o.parents.length == 0) && ((o.stamp == 0) && ((o.author == 0) && (o.msg == []))))
def mayO (o : Ob) : Bool :=
  if o.kind = 1 then decide (o.data.length ≤ 20000) && ((o.items.length == 0) && noCom o)
  else if o.kind = 2 then (o.data.length == 0) && (itemsOk o.items && noCom o)
  else if o.kind = 3 then (o.data.length == 0) && ((o.items.length == 0) && (validB o.tree && (parsOk o.parents && ((decide (0 ≤ o.stamp) && decide (o.stamp ≤ 1099511627776)) && ((decide (0 ≤ o.author) && decide (o.author ≤ 255)) && msgOk o.msg)))))
  else false
def rawH (id : B8) : B8 := (unhexM id).getD []
def encItem (x : Itm) : B8 := UInt8.ofNat x.mode.toNat :: (putN x.name.length ++ (x.name ++ rawH x.id))
def encTail (o : Ob) : B8 :=
  if o.kind = 1 then o.data
  else if o.kind = 2 then putN o.items.length ++ o.items.flatMap encItem
  else rawH o.tree ++ (UInt8.ofNat o.parents.length :: (o.parents.flatMap rawH ++ (putN o.stamp.toNat ++ (putN o.author.toNat ++ (putN o.msg.length ++ o.msg)))))
def encO (o : Ob) : B8 := UInt8.ofNat o.kind.toNat :: encTail o
def encodeM (o : Ob) : B8 × Int := if mayO o = true then (encO o, 0) else ([], 1)

/-! ### Reading -/
/-- Bytes that are read; whether they were too few. -/
structure Src where
  b : B8
  bad : Bool
def takeS (s : Src) (n : Nat) : Src × B8 := if s.bad = true ∨ s.b.length < n then (⟨s.b, true⟩, []) else (⟨s.b.drop n, s.bad⟩, s.b.take n)
def oneS (s : Src) : Src × Nat := ((takeS s 1).1, ((takeS s 1).2.headD 0).toNat)
/-- A number; nb: what is bad tells none. -/
def numS (nb : Bool) (s : Src) : Src × Nat := if (getW s.b).2.2 ≠ 0 ∨ (nb = true ∧ s.bad = true) then (⟨s.b, true⟩, 0) else ((takeS s (getW s.b).2.1).1, (getW s.b).1)
def hashS (s : Src) : Src × B8 := ((takeS s 32).1, hexM (takeS s 32).2)
def itemS (nb : Bool) (s : Src) : Src × Itm :=
  ((hashS (takeS (numS nb (oneS s).1).1 (numS nb (oneS s).1).2).1).1, ⟨(oneS s).2, (takeS (numS nb (oneS s).1).1 (numS nb (oneS s).1).2).2, (hashS (takeS (numS nb (oneS s).1).1 (numS nb (oneS s).1).2).1).2⟩)
def itemsS (nb : Bool) : Nat → Src → List Itm → Src × List Itm
  | 0, s, l => (s, l)
  | n + 1, s, l => if s.bad = true then (s, l) else itemsS nb n (itemS nb s).1 (l ++ [(itemS nb s).2])
def parsS : Nat → Src → List B8 → Src × List B8
  | 0, s, l => (s, l)
  | n + 1, s, l => if s.bad = true then (s, l) else parsS n (hashS s).1 (l ++ [(hashS s).2])
/-- A commit, behind its parents. -/
def endS (nb : Bool) (kind : Int) (tree : B8) (x : Src × List B8) : Src × Ob :=
  ((takeS (numS nb (numS nb (numS nb x.1).1).1).1 (numS nb (numS nb (numS nb x.1).1).1).2).1,
    ⟨kind, [], [], tree, x.2, (numS nb x.1).2, (numS nb (numS nb x.1).1).2, (takeS (numS nb (numS nb (numS nb x.1).1).1).1 (numS nb (numS nb (numS nb x.1).1).1).2).2⟩)
def readS (nb : Bool) (kind : Int) (b : B8) : Src × Ob :=
  if kind = 1 then (⟨[], false⟩, ⟨kind, b, [], [], [], 0, 0, []⟩)
  else if kind = 2 then
    ((itemsS nb (numS nb ⟨b, false⟩).2 (numS nb ⟨b, false⟩).1 []).1, ⟨kind, [], (itemsS nb (numS nb ⟨b, false⟩).2 (numS nb ⟨b, false⟩).1 []).2, [], [], 0, 0, []⟩)
  else if kind = 3 then endS nb kind (hashS ⟨b, false⟩).2 (parsS (oneS (hashS ⟨b, false⟩).1).2 (oneS (hashS ⟨b, false⟩).1).1 [])
  else (⟨b, false⟩, ⟨kind, [], [], [], [], 0, 0, []⟩)
def decodeM : B8 → Ob × Int
  | [] => (ob0, 2)
  | c :: l => if mayO (readS false c.toNat l).2 = true ∧ encO (readS false c.toNat l).2 = c :: l then ((readS false c.toNat l).2, 0) else (ob0, 4)

/-! ### There and back -/
end Go.Proofs.YtalpfoomkhhgnaaGreatDoor

/-! What the store's calls do, in plain Lean. Conditions: as each theorem states. -/
namespace Go.Proofs.YtalpfoomkhhgnaaGreatDoor
open Go Go.RowKit
def putObjM (m : Fs) (o : Ob) : Fs × B8 × Int := if (encodeM o).2 ≠ 0 then (m, [], (encodeM o).2) else putO m (encodeM o).1
def getO (m : Fs) (id : B8) : Fs × B8 × Int :=
  if validB id = false then (m, [], 6)
  else if (readM m (placeO id)).2.2 ≠ 0 then ((readM m (placeO id)).1, [], (readM m (placeO id)).2.2)
  else if shaM (readM m (placeO id)).2.1.data ≠ id then ((readM m (placeO id)).1, [], 5)
  else ((readM m (placeO id)).1, (readM m (placeO id)).2.1.data, 0)
/-- How many reads there were behind a Get. -/
def gotN (n : Int) (id : B8) : Int := if validB id = true then n + 1 else n
def dropO (m : Fs) (id : B8) : Fs × Int := if validB id = false then (m, 6) else removeM m (placeO id)
def cleanO (m : Fs) : Fs × Int := if (removeM m tempP).2 ≠ 7 then removeM m tempP else ((removeM m tempP).1, 0)
def hasO (m : Fs) (id : B8) : Bool := decide ((getO m id).2.2 = 0)
end Go.Proofs.YtalpfoomkhhgnaaGreatDoor

/-! The places of a store of objects: their names, what stands there; in plain Lean. Conditions: as each theorem states. -/
namespace Go.Proofs.YtalpfoomkhhgnaaGreatDoor
open Go Go.RowKit

end Go.Proofs.YtalpfoomkhhgnaaGreatDoor

/-! A scan of what stands in the working directory, in plain Lean: what it tells where nothing fails. Conditions: as each theorem states. -/
namespace Go.Proofs.YtalpfoomkhhgnaaGreatDoor
open Go Go.RowKit

def lookD (l : Files) (p : B8) : B8 := match look l p with
  | some f => f.data
  | none => []
/-- A row of a table. -/
structure Rw where
  path : B8
  mode : Int
  id : B8
def blobO (d : B8) : Ob := ⟨1, d, [], [], [], 0, 0, []⟩
def trustX (ix : Files) (wr : Int) (p : B8) (t : Int) : Bool := match look ix p with
  | some k => decide (k.time = t) && decide (k.time < wr)
  | none => false
def hashX1 (m : Fs) (d : B8) : Fs × Nat × B8 × Int := if 4096 < d.length then (m, 0, [], 3) else ((putObjM m (blobO d)).1, 1, (putObjM m (blobO d)).2.1, (putObjM m (blobO d)).2.2)
/-- A file's hash: the file system, how many were worked out, the hash, what is wrong. -/
def hashX (m : Fs) (ix : Files) (wr : Int) (p : B8) (f : Fi) : Fs × Nat × B8 × Int :=
  if trustX ix wr p f.time = true then
    if hasO m (lookD ix p) = true then ((getO m (lookD ix p)).1, 0, lookD ix p, 0) else hashX1 (getO m (lookD ix p)).1 f.data
  else hashX1 m f.data
structure Sc where
  m : Fs
  rows : List Rw
  ix : Files
  n : Nat
def dirW : B8 := [119, 47]
def wP : B8 := [119]
def cutW (p : B8) : B8 := Lib.trimPrefix p dirW
def hashStep (ix : Files) (wr : Int) (x : Sc) (p : B8) (r : Fs × Fi) : Sc × Int :=
  if (hashX r.1 ix wr (cutW p) r.2).2.2.2 ≠ 0 then ({ x with m := (hashX r.1 ix wr (cutW p) r.2).1 }, (hashX r.1 ix wr (cutW p) r.2).2.2.2)
  else (⟨(hashX r.1 ix wr (cutW p) r.2).1, x.rows ++ [⟨cutW p, r.2.mode, (hashX r.1 ix wr (cutW p) r.2).2.2.1⟩], putF x.ix (cutW p) ⟨0, (hashX r.1 ix wr (cutW p) r.2).2.2.1, r.2.time⟩, x.n + (hashX r.1 ix wr (cutW p) r.2).2.1⟩, 0)
def scanStep (ix : Files) (wr : Int) (pats : List B8) (x : Sc) (p : B8) : Sc × Int :=
  if ignB pats (cutW p) = true then (x, 0)
  else if 256 ≤ x.rows.length then (x, 14)
  else if (readM x.m p).2.2 = 7 then ({ x with m := (readM x.m p).1 }, 0)
  else if (readM x.m p).2.2 ≠ 0 then ({ x with m := (readM x.m p).1 }, (readM x.m p).2.2)
  else hashStep ix wr x p ((readM x.m p).1, (readM x.m p).2.1)
def scanL (ix : Files) (wr : Int) (pats : List B8) : List B8 → Sc → Sc × Int
  | [], x => (x, 0)
  | p :: l, x => if (scanStep ix wr pats x p).2 ≠ 0 then scanStep ix wr pats x p else scanL ix wr pats l (scanStep ix wr pats x p).1
def scanGo (m : Fs) (ix : Files) (wr : Int) (pats : List B8) : Sc × Int :=
  if (listM m wP).2.2 ≠ 0 then (⟨(listM m wP).1, [], [], 0⟩, (listM m wP).2.2) else scanL ix wr pats (listM m wP).2.1 ⟨(listM m wP).1, [], [], 0⟩

/-! ### Nothing planned, nothing down -/
/-- Each file is a user's, or what was begun, or lies where its hash says. -/
def XW (F : Files) : Prop := ∀ e ∈ F, isUnder wP e.1 = true ∨ e.1 = tempP ∨ e.1 = placeO (shaM e.2.data)
structure Ca (m : Fs) : Prop where
  plan : m.plan = []
  down : m.down = false
  ok : OkM m
  xw : XW m.now
def SameW (F G : Files) : Prop := (∀ p, isUnder wP p = true → look G p = look F p) ∧ (pathsL G).filter (isUnder wP) = (pathsL F).filter (isUnder wP)
def HasF (F : Files) (id : B8) : Prop := ∃ f, look F (placeO id) = some f ∧ shaM f.data = id
theorem SameW.refl (F : Files) : SameW F F := ⟨fun _ _ => rfl, rfl⟩
theorem SameW.trans {F G H : Files} (h : SameW F G) (k : SameW G H) : SameW F H := ⟨fun p hp => (k.1 p hp).trans (h.1 p hp), k.2.trans h.2⟩
/-- What a call of the store leaves. -/
structure Goes (m m' : Fs) : Prop where
  ca : Ca m'
  same : SameW m.now m'.now
  time : m.time ≤ m'.time
  has : ∀ id, HasF m.now id → HasF m'.now id
theorem Goes.trans {a b c : Fs} (h : Goes a b) (k : Goes b c) : Goes a c := ⟨k.ca, h.same.trans k.same, Nat.le_trans h.time k.time, fun id hi => k.has id (h.has id hi)⟩
theorem ok_calls {m : Fs} (h : OkM m) (c : Nat) : OkM { m with calls := c } := h.same rfl rfl rfl h.lusers (Nat.le_refl _)
theorem Ca.calls {m : Fs} (h : Ca m) (c : Nat) : Ca { m with calls := c } := ⟨h.plan, h.down, ok_calls h.ok c, h.xw⟩
theorem Ca.call {m : Fs} (h : Ca m) : callM m = ({ m with calls := m.calls + 1 }, false, 0) := call_calm h.plan h.down
/-! ### A scan where nothing is planned -/
def hashB (d : B8) : B8 := shaM (1 :: d)
/-- An index tells the hashes of what stands there. -/
def IxOk (F : Files) (ix : Files) : Prop := ∀ p k, look ix p = some k → ∀ f, look F (dirW ++ p) = some f → f.time = k.time → k.data = hashB f.data
def rowOf (F : Files) (p : B8) : Rw := match look F p with
  | some f => ⟨cutW p, f.mode, hashB f.data⟩
  | none => ⟨cutW p, 0, []⟩
def takenL (pats : List B8) (l : List B8) : List B8 := l.filter fun p => !ignB pats (cutW p)
/-- What holds within a scan, F being what stood there at its start. -/
structure ScOk (m0 : Fs) (F : Files) (x : Sc) : Prop where
  goes : Goes m0 x.m
  same : SameW F x.m.now
  rows : ∀ r ∈ x.rows, HasF x.m.now r.id ∧ ∃ d, r.id = hashB d
  ix : ∀ p k, look x.ix p = some k → ∃ f, look F (dirW ++ p) = some f ∧ k.time = f.time ∧ k.data = hashB f.data
end Go.Proofs.YtalpfoomkhhgnaaGreatDoor

/-! What differs between two tables; a row is set, in plain Lean. Conditions: as each theorem states. -/
namespace Go.Proofs.YtalpfoomkhhgnaaGreatDoor
open Go Go.RowKit

def entG (l : List Rw) (p : B8) : Int × B8 := match l.find? (fun r => r.path == p) with
  | some r => (r.mode, r.id)
  | none => (0, [])
structure Chg where
  path : B8
  old : Int × B8
  new : Int × B8
def pathsT (a b : List Rw) : List B8 := uniqT (a.map (·.path) ++ b.map (·.path))
def difL (a b : List Rw) (l : List B8) : List Chg := (l.filter fun p => entG a p != entG b p).map fun p => ⟨p, entG a p, entG b p⟩
def statM (a b : List Rw) : List Chg := difL a b (pathsT a b)
/-- A row is set: what is done so far; whether it is set. -/
def setStep (n : Rw) (x : List Rw × Bool) (r : Rw) : List Rw × Bool :=
  ((x.1 ++ (if (!x.2 && !ltB r.path n.path) = true then [n] else [])) ++ (if r.path = n.path then [] else [r]), x.2 || !ltB r.path n.path)
def setEndR (n : Rw) (x : List Rw × Bool) : List Rw := if x.2 = true then x.1 else x.1 ++ [n]
def setR (l : List Rw) (n : Rw) : List Rw := setEndR n (l.foldl (setStep n) ([], decide (n.mode = 0)))

/-- A table: its paths rise, each row is of something. -/
structure Tb (l : List Rw) : Prop where
  rise : riseT (l.map (·.path))
  mode : ∀ r ∈ l, r.mode ≠ 0
theorem lt_irr (a : B8) : ltB a a = false := by
  unfold ltB
  rw [decide_eq_false_iff_not]
  exact List.lt_irrefl a
theorem lt_trans' {a b c : B8} (h1 : ltB a b = true) (h2 : ltB b c = true) : ltB a c = true := by
  unfold ltB at h1 h2 ⊢
  rw [decide_eq_true_eq] at h1 h2 ⊢
  exact List.lt_trans h1 h2
theorem lt_ne {a b : B8} (h : ltB a b = true) : a ≠ b := fun e => by rw [e, lt_irr] at h; cases h
theorem lt_asym {a b : B8} (h : ltB a b = true) : ltB b a = false := by
  cases hq : ltB b a with
  | false => rfl
  | true => have := lt_trans' h hq; rw [lt_irr] at this; cases this
theorem lt_tri {a b : B8} (h1 : ltB a b = false) (h2 : a ≠ b) : ltB b a = true := by
  cases hq : ltB b a with
  | true => rfl
  | false => exact (h2 (leT_anti (by unfold leT; rw [hq]; rfl) (by unfold leT; rw [h1]; rfl))).elim
theorem Tb.tail {r : Rw} {l : List Rw} (h : Tb (r :: l)) : Tb l := ⟨(List.pairwise_cons.1 h.rise).2, fun x hx => h.mode x (by simp [hx])⟩
theorem Tb.head {r : Rw} {l : List Rw} (h : Tb (r :: l)) : ∀ x ∈ l, ltB r.path x.path = true := fun x hx => (List.pairwise_cons.1 h.rise).1 _ (List.mem_map.2 ⟨x, hx, rfl⟩)
theorem ent_none {l : List Rw} {p : B8} (h : ∀ r ∈ l, r.path ≠ p) : entG l p = (0, []) := by
  unfold entG
  rw [List.find?_eq_none.2 (fun r hr => by simpa using h r hr)]
def below (p : B8) (l : List Rw) : List Rw := l.filter fun r => ltB r.path p
def above (p : B8) (l : List Rw) : List Rw := l.filter fun r => ltB p r.path
/-- What differs, done to the one table, makes the other one. -/
def doneR (a : List Rw) (L : List Chg) : List Rw := L.foldl (fun l c => setR l ⟨c.path, c.new.1, c.new.2⟩) a
end Go.Proofs.YtalpfoomkhhgnaaGreatDoor

/-! Tables' rows in memory. No conditions of its own. -/
namespace Go.Proofs.YtalpfoomkhhgnaaGreatDoor
open Go Go.RowKit

def rwC (r : Rw) : List Value := [S8 r.path, .int .i64 r.mode, S8 r.id]
/-- The slice holds these rows. -/
def IsRws (w : World) (v : Value) (l : List Rw) : Prop := Row w v l.length (l.flatMap rwC)
theorem IsRws.ext {w w' : World} {v : Value} {l : List Rw} (h : IsRws w v l) (hx : Ext w w') : IsRws w' v l := Row.ext h hx
theorem IsRws.nil (w : World) : IsRws w (.slice none 0 0) [] := Row.nil w
theorem flat_rw : ∀ (l : List Rw) (k : Nat) (x : Rw), l[k]? = some x → (l.flatMap rwC)[3 * k]? = some (S8 x.path) ∧ (l.flatMap rwC)[3 * k + 1]? = some (.int .i64 x.mode) ∧ (l.flatMap rwC)[3 * k + 2]? = some (S8 x.id)
  | [], k, x, h => by simp at h
  | y :: l, 0, x, h => by
    simp only [List.getElem?_cons_zero, Option.some.injEq] at h
    subst h
    exact ⟨rfl, rfl, rfl⟩
  | y :: l, k + 1, x, h => by
    have ih := flat_rw l k x (by simpa using h)
    have e : (y :: l).flatMap rwC = S8 y.path :: .int .i64 y.mode :: S8 y.id :: l.flatMap rwC := by rw [List.flatMap_cons]; rfl
    rw [e, show 3 * (k + 1) = 3 * k + 1 + 1 + 1 by omega]
    exact ih
theorem IsRws.get {w : World} {v : Value} {l : List Rw} (h : IsRws w v l) : ∃ a cap, v = .slice a l.length cap ∧ l.length ≤ cap ∧ l.length ≤ 140737488355328 ∧ cap ≤ 9223372036854775807 ∧
    ∀ (k : Nat) x, l[k]? = some x → ∃ b o, a = some ⟨b, o, none⟩ ∧ w.cell? ⟨b, o + 3 * k, none⟩ = some (S8 x.path) ∧ w.cell? ⟨b, o + 3 * k + 1, none⟩ = some (.int .i64 x.mode) ∧ w.cell? ⟨b, o + 3 * k + 2, none⟩ = some (S8 x.id) := by
  obtain ⟨a, cap, rfl, h1, h2, h3, h4⟩ := h
  refine ⟨a, cap, rfl, h1, h3, h2, fun k x hk => ?_⟩
  obtain ⟨e0, e1, e2⟩ := flat_rw l k x hk
  obtain ⟨b, o, ha, hc⟩ := h4 (fun h0 => by rw [h0] at e0; simp at e0)
  exact ⟨b, o, ha, hc _ _ e0, by have := hc _ _ e1; rwa [← Nat.add_assoc] at this, by have := hc _ _ e2; rwa [← Nat.add_assoc] at this⟩

end Go.Proofs.YtalpfoomkhhgnaaGreatDoor

/-! Tables: what may be one, entries, paths, what is set into a list that rises; in plain Lean. Conditions: as each theorem states. -/
namespace Go.Proofs.YtalpfoomkhhgnaaGreatDoor
open Go Go.RowKit

def zRw : Rw := ⟨[], 0, []⟩
theorem ent_at {l : List Rw} {k : Nat} {x : Rw} (h : ∀ r ∈ l.take k, r.path ≠ x.path) (hx : l[k]? = some x) : entG l x.path = (x.mode, x.id) := by
  obtain ⟨hlt, he⟩ := List.getElem?_eq_some_iff.1 hx
  have e : l = l.take k ++ x :: l.drop (k + 1) := by
    rw [← he, List.getElem_cons_drop, List.take_append_drop]
  unfold entG
  rw [e, List.find?_append, List.find?_eq_none.2 (fun r hr => by simpa using h r hr)]
  simp
theorem ne_snoc {l : List Rw} {k : Nat} {x : Rw} {p : B8} (h : ∀ r ∈ l.take k, r.path ≠ p) (hx : l[k]? = some x) (hp : x.path ≠ p) : ∀ r ∈ l.take (k + 1), r.path ≠ p := by
  rw [List.take_add_one, hx]
  intro r hr
  rcases List.mem_append.1 hr with hr | hr
  · exact h r hr
  · obtain rfl : r = x := by simpa using hr
    exact hp

/-! ### Entries -/
def entStep (m : Files) (r : Rw) : Files := if (look m r.path).isSome = true then m else putF m r.path ⟨r.mode, r.id, 0⟩
def entF (l : List Rw) : Files := l.foldl entStep []
theorem take_snocR {α : Type} {l : List α} {k : Nat} {x : α} (h : l[k]? = some x) : l.take (k + 1) = l.take k ++ [x] := by rw [List.take_add_one, h]; rfl
/-! ### Paths -/
def pathsLs (ls : List (List Rw)) : List B8 := ls.flatMap fun l => l.map (·.path)
theorem pathsLs_snoc {ls : List (List Rw)} {k : Nat} {l : List Rw} (h : ls[k]? = some l) : pathsLs (ls.take (k + 1)) = pathsLs (ls.take k) ++ l.map (·.path) := by
  unfold pathsLs
  rw [take_snocR h, List.flatMap_append]
  simp
def statStep (a b : List Rw) (p : B8) : List Chg := if (entG a p != entG b p) = true then [⟨p, entG a p, entG b p⟩] else []
/-! ### A text set into a list that rises -/
theorem rise_lt {U : List B8} (h : riseT U) {i j : Nat} {x y : B8} (hx : U[i]? = some x) (hy : U[j]? = some y) (hij : i < j) : ltB x y = true := by
  obtain ⟨h1, rfl⟩ := List.getElem?_eq_some_iff.1 hx
  obtain ⟨h2, rfl⟩ := List.getElem?_eq_some_iff.1 hy
  exact List.pairwise_iff_getElem.1 h i j h1 h2 hij
/-! ### What may be a table, by the document -/
def parL (s : B8) (k : Nat) : List B8 := ((List.range k).filter fun i => s.getD i 0 == 47).map s.take
def parR (s : B8) : List B8 := if pathB s = true then parL s s.length else []
def mayR0 (l : List Rw) (k : Nat) (x : Rw) : Bool := pathB (dirW ++ x.path) && (decide (1 ≤ x.mode) && (decide (x.mode ≤ 3) && (validB x.id && (decide (k = 0) || ltB (l.getD (k - 1) zRw).path x.path))))
def mayRow (l : List Rw) (k : Nat) (x : Rw) : Bool := mayR0 l k x && (parR x.path).all fun p => (entG l p).1 == 0
def mayT (l : List Rw) : Bool := decide (l.length ≤ 256) && (List.range l.length).all fun k => mayRow l k (l.getD k zRw)
theorem getD_at {l : List Rw} {k : Nat} {x : Rw} (h : l[k]? = some x) : l.getD k zRw = x := by rw [List.getD_eq_getElem?_getD, h]; rfl
/-! ### Set, row by row -/
end Go.Proofs.YtalpfoomkhhgnaaGreatDoor

/-! What is set in a table: in plain Lean. Conditions: as each theorem states. -/
namespace Go.Proofs.YtalpfoomkhhgnaaGreatDoor
open Go Go.RowKit

def delR (l : List Rw) (p : B8) : List Rw := l.filter fun r => !(r.path == p)
def outR (l : List Rw) (p : B8) (e : Int × B8) : List Rw := delR l p ++ (if e.1 = 0 then [] else [⟨p, e.1, e.2⟩])
def RiseR (l : List Rw) : Prop := l.Pairwise fun a b => ltB a.path b.path = true
/-- The rows sorted. -/
def IsSet (l : List Rw) (p : B8) (e : Int × B8) (s : List Rw) : Prop := (∀ x, x ∈ s ↔ x ∈ outR l p e) ∧ s.length = (outR l p e).length ∧ RiseR s

theorem mem_delR {l : List Rw} {p : B8} {x : Rw} : x ∈ delR l p ↔ x ∈ l ∧ x.path ≠ p := by
  unfold delR
  rw [List.mem_filter]
  simp
theorem mem_outR {l : List Rw} {p : B8} {e : Int × B8} {x : Rw} : x ∈ outR l p e ↔ (x ∈ l ∧ x.path ≠ p) ∨ (e.1 ≠ 0 ∧ x = ⟨p, e.1, e.2⟩) := by
  unfold outR
  rw [List.mem_append, mem_delR]
  by_cases h : e.1 = 0
  · simp [h]
  · simp [h]
theorem rise_inj {l : List Rw} (h : RiseR l) : ∀ {x y : Rw}, x ∈ l → y ∈ l → x.path = y.path → x = y := by
  induction l with
  | nil => intro x y hx; cases hx
  | cons r l ih =>
    have h' := List.pairwise_cons.1 h
    intro x y hx hy he
    rcases List.mem_cons.1 hx with hx1 | hx1
    · rcases List.mem_cons.1 hy with hy1 | hy1
      · rw [hx1, hy1]
      · rw [hx1] at he; exact (lt_ne (h'.1 _ hy1) he).elim
    · rcases List.mem_cons.1 hy with hy1 | hy1
      · rw [hy1] at he; exact (lt_ne (h'.1 _ hx1) he.symm).elim
      · exact ih h'.2 hx1 hy1 he
theorem riseR_ext : ∀ {a b : List Rw}, RiseR a → RiseR b → (∀ x, x ∈ a ↔ x ∈ b) → a = b
  | [], [], _, _, _ => rfl
  | [], y :: b, _, _, h => by have := (h y).2 (by simp); cases this
  | x :: a, [], _, _, h => by have := (h x).1 (by simp); cases this
  | x :: a, y :: b, ha, hb, h => by
    have ha' := List.pairwise_cons.1 ha
    have hb' := List.pairwise_cons.1 hb
    have hne : ∀ {u v : B8}, ltB u v = true → ltB v u = true → False := fun h1 h2 => by rw [lt_asym h1] at h2; cases h2
    have hxy : x = y := by
      rcases List.mem_cons.1 ((h x).1 (by simp)) with h1 | h1
      · exact h1
      · rcases List.mem_cons.1 ((h y).2 (by simp)) with h2 | h2
        · exact h2.symm
        · exact (hne (ha'.1 _ h2) (hb'.1 _ h1)).elim
    subst hxy
    rw [riseR_ext ha'.2 hb'.2 (fun z => by
      have hz := h z
      simp only [List.mem_cons] at hz
      constructor
      · intro hza
        rcases hz.1 (.inr hza) with e | hm
        · subst e; exact (lt_ne (ha'.1 _ hza) rfl).elim
        · exact hm
      · intro hzb
        rcases hz.2 (.inr hzb) with e | hm
        · subst e; exact (lt_ne (hb'.1 _ hzb) rfl).elim
        · exact hm)]
theorem entR_mem {l : List Rw} (h : RiseR l) {x : Rw} (hx : x ∈ l) : entG l x.path = (x.mode, x.id) := by
  unfold entG
  cases hf : l.find? (fun r => r.path == x.path) with
  | none => exact ((by simpa using List.find?_eq_none.1 hf x hx) : False).elim
  | some r =>
    have h1 : r.path = x.path := by simpa using List.find?_some hf
    have h2 := rise_inj h (List.mem_of_find?_eq_some hf) hx h1
    rw [h2]
theorem entR_none {l : List Rw} {p : B8} (h : ∀ x ∈ l, x.path ≠ p) : entG l p = (0, []) := by
  unfold entG
  rw [List.find?_eq_none.2 (fun r hr => by simpa using h r hr)]
theorem entR_cases {l : List Rw} (h : RiseR l) (p : B8) : (∃ x ∈ l, x.path = p ∧ entG l p = (x.mode, x.id)) ∨ ((∀ x ∈ l, x.path ≠ p) ∧ entG l p = (0, [])) := by
  by_cases hx : ∃ x ∈ l, x.path = p
  · obtain ⟨x, h1, rfl⟩ := hx
    exact .inl ⟨x, h1, rfl, entR_mem h h1⟩
  · have h1 : ∀ x ∈ l, x.path ≠ p := fun x hx' he => hx ⟨x, hx', he⟩
    exact .inr ⟨h1, entR_none h1⟩
theorem set_get {l s : List Rw} {p : B8} {e : Int × B8} (hs : IsSet l p e s) : entG s p = if e.1 = 0 then (0, []) else e := by
  by_cases h : e.1 = 0
  · rw [if_pos h]
    refine entR_none fun x hx he => ?_
    rcases mem_outR.1 ((hs.1 x).1 hx) with h1 | h1
    · exact h1.2 he
    · exact h1.1 h
  · rw [if_neg h]
    exact entR_mem hs.2.2 (x := ⟨p, e.1, e.2⟩) ((hs.1 _).2 (mem_outR.2 (.inr ⟨h, rfl⟩)))
theorem set_other {l s : List Rw} {p q : B8} {e : Int × B8} (hl : RiseR l) (hs : IsSet l p e s) (hq : q ≠ p) : entG s q = entG l q := by
  rcases entR_cases hl q with ⟨x, h1, h2, h3⟩ | ⟨h1, h2⟩
  · have hx : x ∈ s := (hs.1 x).2 (mem_outR.2 (.inl ⟨h1, by rw [h2]; exact hq⟩))
    rw [h3, ← h2]
    exact entR_mem hs.2.2 hx
  · rw [h2]
    refine entR_none fun x hx he => ?_
    rcases mem_outR.1 ((hs.1 x).1 hx) with h3 | h3
    · exact h1 x h3.1 he
    · rw [h3.2] at he; exact hq he.symm
/-- Out of what a sort tells. -/
theorem isSet_of {l s : List Rw} {p : B8} {e : Int × B8} (hl : RiseR l) (hp : s.Perm (outR l p e)) (hs : s.Pairwise fun a b => ltB b.path a.path = false) : IsSet l p e s := by
  have hd : (outR l p e).Pairwise fun a b => a.path ≠ b.path := by
    unfold outR
    rw [List.pairwise_append]
    refine ⟨?_, ?_, fun a ha b hb => ?_⟩
    · exact List.Pairwise.filter _ (List.Pairwise.imp (fun h => lt_ne h) hl)
    · split
      · exact List.Pairwise.nil
      · exact List.pairwise_singleton _ _
    · split at hb
      · cases hb
      · obtain rfl := List.mem_singleton.1 hb
        exact (mem_delR.1 ha).2
  have hd2 : s.Pairwise fun a b => a.path ≠ b.path := (List.Perm.pairwise_iff (fun h => Ne.symm h) hp).2 hd
  exact ⟨fun x => hp.mem_iff, hp.length_eq, List.Pairwise.imp₂ (fun a b h1 h2 => lt_tri h1 (fun he => h2 he.symm)) hs hd2⟩
end Go.Proofs.YtalpfoomkhhgnaaGreatDoor

/-! Words of 32 bits: what the machine's operations make of them. Conditions: as each theorem states. -/
namespace Go.Proofs.YtalpfoomkhhgnaaGreatDoor
open Go Go.RowKit

abbrev U32 (x : UInt32) : Value := .int .u32 (x.toNat : Int)
theorem bv_u32 (x : UInt32) : BitVec.ofInt 32 (x.toNat : Int) = x.toBitVec := by
  apply BitVec.eq_of_toNat_eq
  have := x.toNat_lt
  rw [BitVec.toNat_ofInt]
  show ((x.toNat : Int) % 4294967296).toNat = x.toNat
  omega
theorem wrap_u32 (n : Nat) (h : n < 4294967296) : IntKind.wrap .u32 (n : Int) = (n : Int) := by
  unfold IntKind.wrap IntKind.bits IntKind.signed
  simp
  omega
theorem bits_and32 (x y : UInt32) : bits .and .u32 (x.toNat : Int) (y.toNat : Int) = ((x &&& y).toNat : Int) := by
  have h := (x &&& y).toNat_lt
  unfold bits
  show IntKind.wrap .u32 ((BitVec.ofInt 32 (x.toNat : Int) &&& BitVec.ofInt 32 (y.toNat : Int)).toNat : Int) = _
  rw [bv_u32, bv_u32]
  exact wrap_u32 _ h
theorem bits_or32 (x y : UInt32) : bits .or .u32 (x.toNat : Int) (y.toNat : Int) = ((x ||| y).toNat : Int) := by
  have h := (x ||| y).toNat_lt
  unfold bits
  show IntKind.wrap .u32 ((BitVec.ofInt 32 (x.toNat : Int) ||| BitVec.ofInt 32 (y.toNat : Int)).toNat : Int) = _
  rw [bv_u32, bv_u32]
  exact wrap_u32 _ h
theorem bits_xor32 (x y : UInt32) : bits .xor .u32 (x.toNat : Int) (y.toNat : Int) = ((x ^^^ y).toNat : Int) := by
  have h := (x ^^^ y).toNat_lt
  unfold bits
  show IntKind.wrap .u32 ((BitVec.ofInt 32 (x.toNat : Int) ^^^ BitVec.ofInt 32 (y.toNat : Int)).toNat : Int) = _
  rw [bv_u32, bv_u32]
  exact wrap_u32 _ h
theorem bits_not32 (x : UInt32) : bits .xor .u32 4294967295 (x.toNat : Int) = ((~~~x).toNat : Int) := by
  have h := (~~~x).toNat_lt
  unfold bits
  show IntKind.wrap .u32 ((BitVec.ofInt 32 4294967295 ^^^ BitVec.ofInt 32 (x.toNat : Int)).toNat : Int) = _
  rw [bv_u32]
  have he : (BitVec.ofInt 32 4294967295 ^^^ x.toBitVec) = ~~~ x.toBitVec := by
    rw [show BitVec.ofInt 32 4294967295 = BitVec.allOnes 32 from rfl, BitVec.allOnes_xor]
  rw [he]
  exact wrap_u32 _ h
theorem add32 (x y : UInt32) : ((x.toNat : Int) + (y.toNat : Int)) % 4294967296 = ((x + y).toNat : Int) := by
  rw [UInt32.toNat_add]
  omega
theorem shr32 (x : UInt32) (k : Nat) (hk : k < 32) : (x.toNat : Int) / (2 ^ k : Int) = ((x >>> UInt32.ofNat k).toNat : Int) := by
  have hn : (UInt32.ofNat k).toNat = k := by simp; omega
  rw [UInt32.toNat_shiftRight, hn, Nat.mod_eq_of_lt hk, Nat.shiftRight_eq_div_pow]
  simp
theorem shl32 (x : UInt32) (k : Nat) (hk : k < 32) : ((x.toNat : Int) * (2 ^ k : Int)) % 4294967296 = ((x <<< UInt32.ofNat k).toNat : Int) := by
  have hn : (UInt32.ofNat k).toNat = k := by simp; omega
  rw [UInt32.toNat_shiftLeft, hn, Nat.mod_eq_of_lt hk, Nat.shiftLeft_eq]
  simp
end Go.Proofs.YtalpfoomkhhgnaaGreatDoor

/-! sha.Hex, Unhex, Valid: bytes as hexadecimal digits, and back. Conditions: at most 30000000 of them. -/
namespace Go.Proofs.YtalpfoomkhhgnaaGreatDoor
open Go Go.RowKit

theorem and15 : ∀ n : Nat, n < 256 → bits BinOp.and IntKind.u8 (n : Int) 15 = ((n % 16 : Nat) : Int) := by decide +kernel
theorem hex_hi (y : UInt8) (h : (y.toNat : Int) / 16 < 16) : Value.int .u8 ((digitsB.toArray[((y.toNat : Int) / 16).toNat]'(by simp [digitsB]; omega)).toNat : Int) = .int .u8 (digitsB.getD (y.toNat / 16) 0).toNat := by
  have e : ((y.toNat : Int) / 16).toNat = y.toNat / 16 := by omega
  have h16 : y.toNat / 16 < digitsB.length := by have := y.toNat_lt; simp [digitsB]; omega
  simp only [e, List.getElem_toArray, List.getD_eq_getElem?_getD, h16, List.getElem?_eq_getElem, Option.getD_some]
theorem hex_lo (y : UInt8) (h : ((y.toNat % 16 : Nat) : Int) < 16) : Value.int .u8 ((digitsB.toArray[(((y.toNat % 16 : Nat) : Int)).toNat]'(by simp [digitsB]; omega)).toNat : Int) = .int .u8 (digitsB.getD (y.toNat % 16) 0).toNat := by
  have e : (((y.toNat % 16 : Nat) : Int)).toNat = y.toNat % 16 := by omega
  have h16 : y.toNat % 16 < digitsB.length := by simp [digitsB]; omega
  simp only [e, List.getElem_toArray, List.getD_eq_getElem?_getD, h16, List.getElem?_eq_getElem, Option.getD_some]
theorem hex_snoc {l : B8} {k : Nat} (h : k < l.length) {y : UInt8} (hy : l.getD k 0 = y) : hexM (l.take (k + 1)) = hexM (l.take k) ++ [digitsB.getD (y.toNat / 16) 0, digitsB.getD (y.toNat % 16) 0] := by
  rw [List.take_succ_eq_append_getElem h]
  have : l[k] = y := by rw [← hy]; simp [h]
  simp [hexM, this]

/-! ### Unhex -/
theorem index_dig : ∀ n : Fin 256, Lib.indexByte digitsB (UInt8.ofNat n) = if digM (UInt8.ofNat n) < 16 then (digM (UInt8.ofNat n) : Int) else -1 := by decide +kernel
theorem index_digM (c : UInt8) : Lib.indexByte digitsB c = if digM c < 16 then (digM c : Int) else -1 := by
  have := index_dig ⟨c.toNat, c.toNat_lt⟩
  simpa using this
theorem or16 : ∀ a b : Fin 16, bits BinOp.or IntKind.i64 ((a.val : Int) * 16) (b.val : Int) = (a.val : Int) * 16 + b.val := by decide +kernel
theorem idx_val {l : B8} {i : Int} {n : Nat} {x : UInt8} (hi : i = n) (hx : l.getD n 0 = x) (h : i.toNat < (⟨l.toArray⟩ : ByteArray).size) : Value.int .u8 (((⟨l.toArray⟩ : ByteArray)[i.toNat]).toNat : Int) = .int .u8 x.toNat := by
  subst hi
  have h' : n < l.length := h
  have : (⟨l.toArray⟩ : ByteArray)[(n : Int).toNat] = l[n] := rfl
  rw [this, ← hx]
  simp [h']
theorem ix_val (l : B8) (x : UInt8) {r : Int} (hr : Lib.indexByte l x = r) : Value.int .i64 (Lib.indexByte l ((x.toNat : Int).toNat.toUInt8)) = .int .i64 r := by
  rw [← hr]; simp
theorem unhex_two (x y : UInt8) (l : B8) : unhexM (x :: y :: l) = if digM x < 16 ∧ digM y < 16 then (unhexM l).map (UInt8.ofNat (16 * digM x + digM y) :: ·) else none := rfl
theorem unhex_append : ∀ (a b : B8), a.length % 2 = 0 → unhexM (a ++ b) = (unhexM a).bind fun x => (unhexM b).map (x ++ ·)
  | [], b, _ => by simp [unhexM]
  | [x], b, h => by simp at h
  | x :: y :: a, b, h => by
    have ih := unhex_append a b (by simp only [List.length_cons] at h; omega)
    rw [List.cons_append, List.cons_append, unhex_two, unhex_two, ih]
    by_cases hd : digM x < 16 ∧ digM y < 16
    · rw [if_pos hd, if_pos hd]
      cases unhexM a with
      | none => rfl
      | some r => cases unhexM b <;> rfl
    · rw [if_neg hd, if_neg hd]
      rfl
theorem unhex_odd {l : B8} (h : l.length % 2 = 1) : unhexM l = none := by
  cases hu : unhexM l with
  | none => rfl
  | some b => have := (unhex_len l hu).1; omega
theorem unhex_snoc {l bs : B8} {k : Nat} {x y : UInt8} (h : 2 * k + 1 < l.length) (hx : l.getD (2 * k) 0 = x) (hy : l.getD (2 * k + 1) 0 = y) (hu : unhexM (l.take (2 * k)) = some bs) :
    l.take (2 * (k + 1)) = l.take (2 * k) ++ [x, y] ∧ unhexM (l.take (2 * (k + 1))) = (if digM x < 16 ∧ digM y < 16 then some (bs ++ [UInt8.ofNat (16 * digM x + digM y)]) else none) := by
  have he : l.take (2 * (k + 1)) = l.take (2 * k) ++ [x, y] := by
    have h1 : l[2 * k]? = some x := by rw [← hx]; simp [List.getD_eq_getElem?_getD, show 2 * k < l.length by omega]
    have h2 : l[2 * k + 1]? = some y := by rw [← hy]; simp [List.getD_eq_getElem?_getD, h]
    rw [show 2 * (k + 1) = 2 * k + 1 + 1 by omega, List.take_add_one, List.take_add_one, h1, h2, List.append_assoc]
    rfl
  refine ⟨he, ?_⟩
  rw [he, unhex_append _ _ (by rw [List.length_take]; omega), hu]
  by_cases hd : digM x < 16 ∧ digM y < 16
  · rw [if_pos hd]
    simp [unhexM, hd.1, hd.2]
  · rw [if_neg hd]
    simp only [unhexM, if_neg hd]
    rfl
theorem unhex_none {l bs : B8} {k : Nat} {x y : UInt8} (h : 2 * k + 1 < l.length) (hx : l.getD (2 * k) 0 = x) (hy : l.getD (2 * k + 1) 0 = y) (hu : unhexM (l.take (2 * k)) = some bs) (hd : ¬ (digM x < 16 ∧ digM y < 16)) : unhexM l = none := by
  obtain ⟨h1, h2⟩ := unhex_snoc h hx hy hu
  rw [if_neg hd] at h2
  have := unhex_append (l.take (2 * (k + 1))) (l.drop (2 * (k + 1))) (by rw [List.length_take]; omega)
  rw [List.take_append_drop, h2] at this
  exact this
def UnhexPost (l : B8) (w : World) (e : Ending) (w' : World) : Prop :=
  (match unhexM l with
    | some b => ∃ v, e = .returned (.tuple #[v, .bool true]) ∧ IsBytes w' v b
    | none => e = .returned (.tuple #[.slice none 0 0, .bool false])) ∧ Ext w w'

set_option maxRecDepth 100000 in
set_option maxHeartbeats 800000 in
theorem unhex_any (l : B8) (w : World) (hl : l.length ≤ 140737488355328) :
    Calls Tryz.prog 49 #[S8 l] w (UnhexPost l w) := by
  have hd : (⟨l.toArray⟩ : ByteArray).toList = l := Lib.toList_data _
  by_cases hodd : l.length % 2 = 0
  · obtain ⟨m, hm⟩ : ∃ m, l.length = 2 * m := ⟨l.length / 2, by omega⟩
    have hmod : (l.length : Int).tmod 2 = 0 := by
      rw [hm]
      exact Int.tmod_eq_zero_of_dvd ⟨(m : Int), by push_cast; rfl⟩
    have HM : Hid _ := hm
    clear hodd
    go_enter Tryz.func49, Tryz.ntmps49
    go_wp2
    clear hmod
    go_loopw [4, 5] (fun v i wr => ∃ (k : Nat) (bs : B8), 2 * k ≤ l.length ∧ i = .int .i64 (2 * k) ∧ bs.length = k ∧ Hid (unhexM (l.take (2 * k)) = some bs) ∧ wr.ownsRow w.heap.size 5 1 v k (bs.map fun x => .int .u8 x.toNat) ∧ Ext w wr) (fun _ i _ => l.length - (intOf i).toNat)
    case atStart => exact ⟨0, [], Nat.zero_le _, rfl, rfl, rfl, World.ownsRow_nil _ _ _ _, Ext.refl _⟩
    case round =>
      obtain ⟨k, bs, hk, rfl, hbl, HU, hown, hx⟩ := hrel
      have hm := HM.out
      by_cases hlt : 2 * k < l.length
      · have hlt1 : 2 * k + 1 < l.length := by omega
        have hl1 : 2 * (k : Int) < (l.length : Int) := by omega
        have hl2 : (2 * (k : Int) + 1) < (l.length : Int) := by omega
        have hwr : IntKind.i64.wrap (2 * (k : Int) + 1) = 2 * (k : Int) + 1 := IntWalk.i64_in _ (by omega)
        have HW : Hid _ := hwr
        obtain ⟨x, hxe⟩ : ∃ x, l.getD (2 * k) 0 = x := ⟨_, rfl⟩
        obtain ⟨y, hye⟩ : ∃ y, l.getD (2 * k + 1) 0 = y := ⟨_, rfl⟩
        have HX : Hid _ := hxe
        have HY : Hid _ := hye
        obtain ⟨r, hr⟩ : ∃ r, Lib.indexByte digitsB x = r := ⟨_, rfl⟩
        obtain ⟨s, hs⟩ : ∃ s, Lib.indexByte digitsB y = s := ⟨_, rfl⟩
        have HRX : Hid _ := hr
        have HSY : Hid _ := hs
        have hrv := index_digM x
        have hsv := index_digM y
        rw [hr] at hrv
        rw [hs] at hsv
        have HRV : Hid _ := hrv
        have HSV : Hid _ := hsv
        clear hwr hm hxe hye hr hs hrv hsv
        go_wp2
        apply wp_region_mix 9 [_, _, .int .u8 x.toNat, .int .i64 r, _, _, _, .int .u8 y.toNat, .int .i64 s] [none, none, none, none, none, none, none, none, none] [[], [], [0, 1], [2], [], [], [5], [4, 6], [7]] (by kernel_rfl) (by kernel_rfl) (by simp [mixV])
        · trivial
        · simp (maxSteps := 1000000) only [List.take_succ_cons, List.take_zero, oblFrom, stepObl, fillFrom, Act.put, List.setIfInBounds_toArray, List.set_cons_zero, List.set_cons_succ, knows, getV, mixV, List.getD_cons_zero, List.getD_cons_succ, and_true, true_and, forall_const]
          refine ⟨?_, ?_, ?_, ?_, ?_, ?_, ?_, ?_, ?_⟩
          · intro xs wq hq R hR
            go_simp
            exact hR _ _ (Ext.refl _) rfl
          · intro xs wq hq R hR
            go_simp
            exact hR _ _ (Ext.refl _) rfl
          · intro xs wq hq hk R hR
            obtain ⟨hk0, hk1⟩ := hk
            go_simp
            rw [dif_pos (by omega)]
            exact hR _ _ (Ext.refl _) (idx_val (by omega) HX.out (by show (2 * (k : Int)).toNat < l.length; omega))
          · intro xs wq hq hk R hR
            go_simp
            refine (Tryz.strings_IndexByte ⟨digitsB.toArray⟩ x.toNat _).mono ?_
            rintro e w2 ⟨rfl, rfl⟩
            exact ⟨_, rfl, hR _ _ (Ext.refl _) (ix_val _ x HRX.out)⟩
          · intro xs wq hq R hR
            go_simp
            exact hR _ _ (Ext.refl _) rfl
          · intro xs wq hq R hR
            go_simp
            exact hR _ _ (Ext.refl _) rfl
          · intro xs wq hq hk R hR
            go_simp
            exact hR _ _ (Ext.refl _) rfl
          · intro xs wq hq hk R hR
            obtain ⟨hk0, hk1⟩ := hk
            go_simp
            simp only [HW.out]
            rw [dif_pos ⟨by omega, by omega⟩]
            exact hR _ _ (Ext.refl _) (idx_val (by omega) HY.out (by show (2 * (k : Int) + 1).toNat < l.length; omega))
          · intro xs wq hq hk R hR
            go_simp
            refine (Tryz.strings_IndexByte ⟨digitsB.toArray⟩ y.toNat _).mono ?_
            rintro e w2 ⟨rfl, rfl⟩
            exact ⟨_, rfl, hR _ _ (Ext.refl _) (ix_val _ y HSY.out)⟩
        intro xs w2 hx2 hk
        simp only [heldV, Nat.zero_add, Nat.reduceAdd, and_true] at hk
        obtain ⟨q0, q1, q2, q3, q4, q5, q6, q7, q8⟩ := hk
        simp (maxSteps := 1000000) only [List.take_succ_cons, List.take_zero, List.drop_succ_cons, List.drop_zero, fillFrom, Act.put, List.setIfInBounds_toArray, List.set_cons_zero, List.set_cons_succ, Nat.zero_add, Nat.reduceAdd, q0, q1, q2, q3, q4, q5, q6, q7, q8]
        clear q0 q1 q2 q3 q4 q5 q6 q7 q8
        have hrv := HRV.out
        have hsv := HSV.out
        have hx2' := Ext.trans hx hx2
        by_cases hxd : digM x < 16
        · rw [if_pos hxd] at hrv
          by_cases hyd : digM y < 16
          · rw [if_pos hyd] at hsv
            obtain ⟨z, hz⟩ : ∃ z, UInt8.ofNat (16 * digM x + digM y) = z := ⟨_, rfl⟩
            have hbv : bits BinOp.or IntKind.i64 (r * 16) s % 256 = (z.toNat : Int) := by
              have := or16 ⟨digM x, hxd⟩ ⟨digM y, hyd⟩
              simp only at this
              rw [hrv, hsv, this, ← hz]
              simp only [UInt8.toNat_ofNat']
              omega
            have HZ : Hid _ := hz
            have hr0 : ¬ r < 0 := by omega
            have hs0 : ¬ s < 0 := by omega
            have hr16 : r < 16 := by omega
            have hs16 : s < 16 := by omega
            have HXD : Hid _ := hxd
            have HYD : Hid _ := hyd
            have hown2 := owns_ext hown hx2
            have hsz := hx2'.size
            clear hrv hsv hz hxd hyd hown
            go_wp2_with (at_builtin; go_must (refine app_u8 rfl _ _ rfl w.heap.size _ k _ rfl (hown2.alloc _) w2.heap.size 1 1 [z] rfl rfl (alloc_at _ _) (by omega) (by simp; omega) ?_; intro v' w3 hown3 hg3))
            go_roundw
            case rel => exact ⟨k + 1, bs ++ [z], by omega, by go_num, by simp [hbl], by unfold Hid; rw [(unhex_snoc hlt1 HX.out HY.out HU.out).2, if_pos ⟨HXD.out, HYD.out⟩, HZ.out], by simpa using hown3, owns_ext_app (hx2'.alloc _) (hown2.alloc _) hg3⟩
            case measure => simp [intOf]; omega
          · rw [if_neg hyd] at hsv
            have HN : Hid _ := unhex_none hlt1 HX.out HY.out HU.out (fun h => hyd h.2)
            have hr0 : ¬ r < 0 := by omega
            have hs0 : s < 0 := by omega
            clear hrv hsv hxd hyd
            go_wp2
            go_ret2
            unfold UnhexPost
            rw [HN.out]
            exact ⟨rfl, hx2'⟩
        · rw [if_neg hxd] at hrv
          have HN : Hid _ := unhex_none hlt1 HX.out HY.out HU.out (fun h => hxd h.1)
          have hr0 : r < 0 := by omega
          clear hrv hsv hxd
          go_wp2
          go_ret2
          unfold UnhexPost
          rw [HN.out]
          exact ⟨rfl, hx2'⟩
      · have hg : ¬ (2 * (k : Int)) < (l.length : Int) := by omega
        have hlk : 2 * k = l.length := by omega
        have hu := HU.out
        rw [hlk, List.take_length] at hu
        have HUL : Hid _ := hu
        have hb : IsBytes wr u4 bs := by
          unfold IsBytes
          rw [hbl]
          exact Row.of_owns hown (by omega)
        have HBS : Hid _ := hb
        clear hb hown hu hlk hm
        go_wp2
        go_ret2
        unfold UnhexPost
        rw [HUL.out]
        exact ⟨⟨_, rfl, HBS.out⟩, hx⟩
  · have ho : l.length % 2 = 1 := by omega
    have hmod : (l.length : Int).tmod 2 = 1 := by rw [Int.tmod_eq_emod_of_nonneg (by omega)]; omega
    have HN : Hid _ := unhex_odd ho
    clear hodd ho
    go_enter Tryz.func49, Tryz.ntmps49
    go_wp2
    go_ret2
    unfold UnhexPost
    rw [HN.out]
    exact ⟨rfl, Ext.refl _⟩

set_option maxRecDepth 100000 in
theorem valid_any (l : B8) (w : World) (hl : l.length ≤ 140737488355328) :
    Calls Tryz.prog 18 #[S8 l] w fun e w' => e = .returned (.bool (validB l)) ∧ Ext w w' := by
  go_enter Tryz.func18, Tryz.ntmps18
  go_wp2_with fail
  go_at_call 49
  refine (unhex_any l w hl).mono ?_
  rintro e w1 ⟨h, hx⟩
  have HV : Hid (validB l = match unhexM l with | some b => b.length == 32 | none => false) := rfl
  cases hu : unhexM l with
  | none =>
    rw [hu] at h
    have HV2 : Hid (validB l = false) := by unfold Hid; rw [HV.out, hu]
    subst h
    clear hu HV
    go_wp2
    go_ret
    exact ⟨by rw [HV2.out]; rfl, hx⟩
  | some b =>
    rw [hu] at h
    obtain ⟨v, rfl, hb⟩ := h
    obtain ⟨s1, s2, rfl, -⟩ := id hb
    have hv : validB l = (b.length == 32) := by rw [HV.out, hu]
    have hlen := (unhex_len l hu).1
    have hbe : (((b.length : Nat) : Int) == 32) = validB l := by
      rw [hv]
      by_cases h32 : b.length = 32
      · rw [h32]; rfl
      · have h1 : (b.length == 32) = false := by simpa using h32
        rw [h1]
        simp only [beq_eq_false_iff_ne, ne_eq]
        omega
    have HBE : Hid _ := hbe
    clear hu HV hv hb hbe hlen
    go_wp2
    go_ret
    exact ⟨by rw [← HBE.out]; rfl, hx⟩

end Go.Proofs.YtalpfoomkhhgnaaGreatDoor

/-! marref1: digit, Unhex, Valid. Conditions: at most 30000000 signs. -/
namespace Go.Proofs.YtalpfoomkhhgnaaGreatDoor
open Go Go.RowKit

def digV (c : UInt8) : Int := if 48 ≤ c.toNat ∧ c.toNat ≤ 57 then c.toNat - 48 else if 97 ≤ c.toNat ∧ c.toNat ≤ 102 then c.toNat - 87 else -1
end Go.Proofs.YtalpfoomkhhgnaaGreatDoor

/-! marref16.Get, marref1.Parents, marref16.May, marlaw13.table: what they answer. Conditions: as each theorem states. -/
namespace Go.Proofs.YtalpfoomkhhgnaaGreatDoor
open Go Go.RowKit Go.Sort
set_option linter.unusedVariables false
set_option linter.unusedSimpArgs false
set_option linter.unusedSectionVars false

def entV (e : Int × B8) : Value := .agg #[.int .i64 e.1, S8 e.2]
theorem size_ent : (Tryz.prog.info? 26).map (·.size) = some 2 := by kernel_rfl
/-- A row's cells, as the walk meets them. -/
theorem IsRws.cells {w : World} {v : Value} {l : List Rw} (h : IsRws w v l) : ∃ a cap, v = .slice a l.length cap ∧ l.length ≤ cap ∧ l.length ≤ 140737488355328 ∧ cap ≤ 9223372036854775807 ∧
    ∀ (k : Nat) x, l[k]? = some x → ∃ b o, a = some ⟨b, o, none⟩ ∧ w.cell? ⟨b, o + k * 3, none⟩ = some (S8 x.path) ∧ w.cell? ⟨b, o + k * 3 + 1, none⟩ = some (.int .i64 x.mode) ∧ w.cell? ⟨b, o + k * 3 + 1 + 1, none⟩ = some (S8 x.id) := by
  obtain ⟨a, cap, he, h1, h2, h3, hg⟩ := h.get
  refine ⟨a, cap, he, h1, h2, h3, fun k x hx => ?_⟩
  obtain ⟨b, o, ha, c0, c1, c2⟩ := hg k x hx
  rw [Nat.mul_comm 3 k] at c0 c1 c2
  exact ⟨b, o, ha, c0, c1, c2⟩

end Go.Proofs.YtalpfoomkhhgnaaGreatDoor

/-! A region that draws its order and only reads, walked once: each step's rest behind a structure, so that nothing of it is unfolded ahead of its turn. Conditions: as each theorem states. -/
namespace Go.Proofs.YtalpfoomkhhgnaaGreatDoor
open Go Go.RowKit Go.Sort

structure QW (p : Prop) : Prop where
  out : p
section
variable {P : Program} {ops : Array Oper} {C : World → Prop}
theorem qw_nil {Q : Act → Prop} {a : Act} (h : Q a) : QW (wpQuiet P ops C Q [] a) := ⟨wpQuiet_nil h⟩
theorem qw_step {Q : Act → Prop} {a : Act} {o : Oper} {rest : List Oper}
    (h : ∀ K : Act → Prop, (∀ a, QW (wpQuiet P ops C Q rest a) → K a) → if Region.wanted o (yielded ops a.tmps) then o.quiet P a C K else K (a.put o.dst undef)) : QW (wpQuiet P ops C Q (o :: rest) a) :=
  ⟨wpQuiet_step fun K hK => h K (fun a ha => hK a ha.out)⟩
/-- .. where calls may lay blocks. -/
theorem qw_below {id : Nat} {Q : Exit → Act → World → Prop} {a : Act} {w : World} {l : List Oper} (hm : P.follows .mixedOrders = true) (hB : Region.lexB .any l.toArray = true)
    (h : QW (wpQuiet P l.toArray (fun w' => ∃ p : Regrown, w' = grow (redrawn w p.d) p.os) (fun a' => ∀ w', (∃ p : Regrown, w' = grow (redrawn w p.d) p.os) → Q .normal a' w') l a)) : (Code.region id l.toArray true).wp P Q a w :=
  wp_region_quiet_below hm hB h.out
end
theorem Ext.drawn (w : World) (n : Nat) : Ext w (w.drewN n) := ⟨rfl, rfl, rfl, Nat.le_refl _, fun _ _ => rfl⟩
theorem Ext.regrown (w : World) (d : Nat) (os : Array Obj) : Ext w (grow (redrawn w d) os) := below_regrown w d os

end Go.Proofs.YtalpfoomkhhgnaaGreatDoor

/-! Appends of whatever slice to one that the call itself made. Conditions: as each theorem states. -/
namespace Go.Proofs.YtalpfoomkhhgnaaGreatDoor
open Go Go.RowKit
set_option linter.unusedVariables false
set_option linter.unusedSimpArgs false
set_option linter.unusedSectionVars false

/-- append of elements, of whatever slice. -/
theorem appS_run (T e : TypeId) (z : Value) (size bytes : Nat) (ht : Tryz.prog.underlying T = some (.slice e)) (hinfo : (Tryz.prog.info? e).map (fun i => (i.zero, i.size, i.bytes)) = some (some z, size, bytes)) (hzs : z.cells.size = size) (hsz : 0 < size)
    {w : World} (base : Nat) (v : Value) (n : Nat) (xs : List Value) (hown : w.ownsRow base e size v n xs) (x : Value) (m : Nat) (news : List Value) (hx : Row w x m news) (hl : news.length = m * size) (h1 : ∀ u ∈ news, u.oneCell' = true) (hb : (n + m) * bytes ≤ 140737488355328) (hb2 : n + m ≤ 1000000000) (hbase : base ≤ w.heap.size) :
    ∃ v' w', (Builtin.append_ #[T, T] T #[v, x]).run Tryz.prog w = .ok v' w' ∧ w'.ownsRow base e size v' (n + m) (xs ++ news) ∧ w.grownBy w' v.ownBlock ∧ (v'.ownBlock = v.ownBlock ∨ v'.ownBlock = some w.heap.size) := by
  obtain ⟨i0, hi, hz0, hz1, hz2⟩ := info_parts hinfo
  obtain ⟨a, cap, rfl, k1, k2, k3, k4⟩ := hx
  cases a with
  | none =>
    have hn : news = [] := by
      cases news with
      | nil => rfl
      | cons y l => obtain ⟨b, o, he, _⟩ := k4 (by simp); cases he
    subst hn
    have hm : m = 0 := by
      have h0 : m * size = 0 := by simpa using hl.symm
      rcases Nat.mul_eq_zero.1 h0 with h | h
      · exact h
      · omega
    subst hm
    obtain ⟨vb, vn, vc, rfl, hle⟩ : ∃ vb vn vc, v = .slice vb n vc ∧ n ≤ vc ∧ vn = n := by
      rcases hown.2 with ⟨rfl, h0⟩ | ⟨g, c, cur, rfl, _, _, hc, _⟩
      · exact ⟨none, n, 0, by rw [h0], by omega, rfl⟩
      · exact ⟨_, n, c, rfl, hc, rfl⟩
    refine ⟨_, w, run_append_nothing w _ _ _ _ i0 ht hi vb n vc hle.1 _ (by rw [hz1]; exact Src.ofNil w ht cap), by simpa using hown, ⟨rfl, rfl, rfl, Nat.le_refl _, fun _ _ _ => rfl⟩, .inl rfl⟩
  | some ad =>
    have hnews : ∀ j u, news[j]? = some u → w.cell? (ad.add j) = some u := fun j u hu => by
      obtain ⟨b, o, he, hc⟩ := k4 (by rintro rfl; simp at hu)
      cases he
      have hadd : (⟨b, o, none⟩ : Addr).add j = ⟨b, o + j, none⟩ := by unfold Addr.add; split <;> simp_all
      rw [hadd]
      exact hc j u hu
    obtain ⟨v', w', h2, h3, h4, _, h5⟩ := run_append_own_at (P := Tryz.prog) w base T T e i0 _ size bytes ht hi hz0 hz1 hz2 hzs hsz v n xs hown ad m cap news hl hnews h1 (by unfold maxLen; omega) hb hbase
    exact ⟨v', w', h2, h3, h4, h5⟩
section
variable {ops : Array Oper} {rest : List Oper} {o : Oper} {a : Act} {Q : Exit → Act → World → Prop} {w : World}
theorem appS_op (T e : TypeId) (z : Value) (size bytes : Nat) (ht : Tryz.prog.underlying T = some (.slice e)) (hinfo : (Tryz.prog.info? e).map (fun i => (i.zero, i.size, i.bytes)) = some (some z, size, bytes)) (hzs : z.cells.size = size) (hsz : 0 < size)
    (hgd : o.guard = none) (s x : Operand) (ho : o.op = .call { callee := .builtin .append, args := #[s, x], argTypes := #[T, T] }) (hty : o.type = T)
    (base : Nat) (v : Value) (n : Nat) (xs : List Value) (hs : a.eval s = v) (hown : w.ownsRow base e size v n xs)
    (xv : Value) (m : Nat) (news : List Value) (hx : a.eval x = xv) (hrow : Row w xv m news) (hl : news.length = m * size) (h1 : ∀ u ∈ news, u.oneCell' = true) (hb : (n + m) * bytes ≤ 140737488355328) (hb2 : n + m ≤ 1000000000) (hbase : base ≤ w.heap.size)
    (h : ∀ v' w', w'.ownsRow base e size v' (n + m) (xs ++ news) → w.grownBy w' v.ownBlock → wpList Tryz.prog ops Q rest (a.put o.dst v') w') : wpList Tryz.prog ops Q (o :: rest) a w := by
  refine wpList_plain hgd fun K hK => ?_
  obtain ⟨v', w', hr, h2, h3, h4⟩ := appS_run T e z size bytes ht hinfo hzs hsz base v n xs hown xv m news hrow hl h1 hb hb2 hbase
  unfold Oper.wp execOp
  simp only [ho, hty, resolve, invoke, builtin, Sem.run_bind, Sem.run_pure, Result.andThen_ok, List.map_toArray, List.map_cons, List.map_nil, hs, hx, hr]
  exact hK _ _ (h v' w' h2 h3)
end

/-- What stands behind a slice's place. -/
theorem IsBytes.tail {w : World} {a : Option Addr} {cap : Nat} {l : B8} (k : Nat) (h : IsBytes w (.slice a l.length cap) l) (hk : k ≤ l.length) (ht : TypB w (.slice a l.length cap)) :
    ∀ a', (a = none → a' = none) → (cap ≠ k → ∀ b o, a = some ⟨b, o, none⟩ → a' = some ⟨b, o + k, none⟩) → IsBytes w (.slice a' (l.length - k) (cap - k)) (l.drop k) := by
  obtain ⟨a2, cap2, he, h1, h2, h3, h4⟩ := h
  simp only [Value.slice.injEq, true_and] at he
  obtain ⟨rfl, rfl⟩ := he
  intro a' hn hs
  have hlen : (l.drop k).length = l.length - k := List.length_drop
  unfold IsBytes
  rw [hlen]
  refine ⟨a', cap - k, rfl, by omega, by omega, by omega, fun hne => ?_⟩
  have hlt : k < l.length := by
    rcases Nat.lt_or_ge k l.length with h | h
    · exact h
    · rw [List.drop_eq_nil_of_le h] at hne; simp at hne
  obtain ⟨b, o, rfl, hc⟩ := h4 (by intro h0; rw [List.map_eq_nil_iff] at h0; subst h0; simp at hlt)
  refine ⟨b, o + k, hs (by omega) b o rfl, fun i u hu => ?_⟩
  rw [List.getElem?_map, List.getElem?_drop] at hu
  have := hc (k + i) u (by rw [List.getElem?_map]; exact hu)
  rwa [← Nat.add_assoc] at this
/-- the slice from a place on, as the walk leaves it. -/
def tailV (a : Option Addr) (n c k : Nat) : Value := .slice (if c = k then a else Option.map (fun x => { block := x.block, off := x.off + k }) a) (n - k) (c - k)
theorem IsBytes.tailV {w : World} {a : Option Addr} {cap : Nat} {l : B8} (k : Nat) (h : IsBytes w (.slice a l.length cap) l) (hk : k ≤ l.length) (ht : TypB w (.slice a l.length cap)) :
    IsBytes w (tailV a l.length cap k) (l.drop k) ∧ TypB w (Go.Proofs.YtalpfoomkhhgnaaGreatDoor.tailV a l.length cap k) := by
  constructor
  · refine h.tail k hk ht _ (fun hn => by subst hn; simp) (fun hne b o hb => by subst hb; simp [hne])
  · intro a' n' c' he
    unfold Go.Proofs.YtalpfoomkhhgnaaGreatDoor.tailV at he
    simp only [Value.slice.injEq] at he
    obtain ⟨he, -, -⟩ := he
    split at he
    · subst he; exact ht _ _ _ rfl
    · cases a with
      | none => cases he
      | some ad => simp only [Option.map_some, Option.some.injEq] at he; subst he; exact ht ad _ _ rfl
theorem IsBytes.head {w : World} {a : Option Addr} {cap : Nat} {l : B8} (k : Nat) (h : IsBytes w (.slice a l.length cap) l) (hk : k ≤ l.length) : IsBytes w (.slice a k cap) (l.take k) := by
  obtain ⟨a2, cap2, he, h1, h2, h3, h4⟩ := h
  simp only [Value.slice.injEq, true_and] at he
  obtain ⟨rfl, rfl⟩ := he
  have hlen : (l.take k).length = k := by rw [List.length_take]; omega
  unfold IsBytes
  rw [hlen]
  refine ⟨a, cap, rfl, by omega, by omega, by omega, fun hne => ?_⟩
  obtain ⟨b, o, rfl, hc⟩ := h4 (by intro h0; rw [List.map_eq_nil_iff] at h0; subst h0; simp at hne)
  refine ⟨b, o, rfl, fun i u hu => hc i u ?_⟩
  rw [List.getElem?_map, List.getElem?_take] at hu
  split at hu
  · rw [List.getElem?_map]; exact hu
  · cases hu

end Go.Proofs.YtalpfoomkhhgnaaGreatDoor

/-! wire: put, Put. Conditions: as each theorem states. -/
namespace Go.Proofs.YtalpfoomkhhgnaaGreatDoor
open Go Go.RowKit
set_option linter.unusedVariables false
set_option linter.unusedSimpArgs false
set_option linter.unusedSectionVars false

end Go.Proofs.YtalpfoomkhhgnaaGreatDoor
