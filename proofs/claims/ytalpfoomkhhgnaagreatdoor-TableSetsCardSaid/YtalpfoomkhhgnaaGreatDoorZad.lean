/- Words of 32 bits: what the machine's operations make of them. Conditions: as each theorem states. -/
import Derived.Test.YtalpfoomkhhgnaaGreatDoorZac
import Derived.Test.YtalpfoomkhhgnaaGreatDoorZab

set_option linter.unusedVariables false
set_option linter.unusedSimpArgs false

/-! What marlaw8.RefsExpect says, in plain Lean: one ref, set and deleted just from what it is. Conditions: as each theorem states. -/
namespace Go.Proofs.YtalpfoomkhhgnaaGreatDoor
open Go Go.RowKit

def headB : B8 := [104, 101, 97, 100]
def placeH : B8 := [115, 47, 114, 47, 104, 101, 97, 100]
def lockH : B8 := [115, 47, 108, 47, 104, 101, 97, 100]
/-- One ref, or none; nothing planned, up, room enough. -/
structure Ex (m : Fs) (cur : B8) : Prop where
  plan : m.plan = []
  down : m.down = false
  room : 1000 ≤ m.room
  now : (cur = [] ∧ m.now = []) ∨ (validB cur = true ∧ ∃ t, m.now = [(placeH, ⟨1, lineM cur, t⟩)])
end Go.Proofs.YtalpfoomkhhgnaaGreatDoor

/-! Refs of unlike names, in plain Lean: each stands for itself; a lock that stands keeps its own name alone. Conditions: as each theorem states. -/
namespace Go.Proofs.YtalpfoomkhhgnaaGreatDoor
open Go Go.RowKit

/-! ### Names and places -/
theorem name_no47 {k : B8} (h : nameB k = true) : (47 : UInt8) ∉ k := by
  intro hm
  unfold nameB at h
  simp only [Bool.and_eq_true, Bool.not_eq_true', List.any_eq_false] at h
  exact absurd (show badC 47 = true by decide) (by simpa using h.1 _ hm)
theorem under_name {d k : B8} {pre : B8} (hk : nameB k = true) (h : isUnder (pre ++ d) (pre ++ k) = true) : False := by
  obtain ⟨r, hr⟩ := (under_iff _ _).1 h
  rw [List.append_assoc] at hr
  have h9 := List.append_cancel_left hr
  exact name_no47 hk (by rw [h9]; simp)
theorem under_lp {a b : B8} : isUnder (lockP a) (placeP b) = false := by
  unfold isUnder lockP placeP
  simp [List.isPrefixOf]
theorem under_pl {a b : B8} : isUnder (placeP a) (lockP b) = false := by
  unfold isUnder lockP placeP
  simp [List.isPrefixOf]
theorem under_pp {a b : B8} (hb : nameB b = true) : isUnder (placeP a) (placeP b) = false := by
  cases h : isUnder (placeP a) (placeP b) with
  | false => rfl
  | true => exact (under_name hb h).elim
theorem under_ll {a b : B8} (hb : nameB b = true) : isUnder (lockP a) (lockP b) = false := by
  cases h : isUnder (lockP a) (lockP b) with
  | false => rfl
  | true => exact (under_name hb h).elim
/-! ### Finds -/
/-! ### Refs, and a lock -/
def updH (hv : B8 → Option B8) (k v : B8) : B8 → Option B8 := fun x => if x = k then some v else hv x
/-- .. in the files. -/
structure ApF (F : Files) (lk : Option B8) (hv : B8 → Option B8) (n : Nat) : Prop where
  used : usedF F ≤ 100 * n
  name : ∀ k v, hv k = some v → nameB k = true ∧ validB v = true
  lock : ∀ l, lk = some l → pathB (lockP l) = true ∧ (look F (lockP l)).isSome = true
  refs : ∀ k v, hv k = some v → ∃ t, look F (placeP k) = some ⟨1, lineM v, t⟩
  all : ∀ e ∈ F, (∃ k v, hv k = some v ∧ e.1 = placeP k) ∨ ∃ l, lk = some l ∧ e.1 = lockP l
  locks : (pathsL F).filter (isUnder lockD) = lk.toList.map lockP
structure Ap (m : Fs) (lk : Option B8) (hv : B8 → Option B8) (n : Nat) : Prop where
  plan : m.plan = []
  down : m.down = false
  room : 100000 ≤ m.room
  f : ApF m.now lk hv n
variable {m : Fs} {F : Files} {lk : Option B8} {hv : B8 → Option B8} {n : Nat}
theorem Ap.calls (h : Ap m lk hv n) (c : Nat) : Ap { m with calls := c } lk hv n := ⟨h.plan, h.down, h.room, h.f⟩
theorem ApF.may (h : ApF F lk hv n) {k : B8} (hk : nameB k = true) (hf : ∀ l, lk = some l → isUnder (lockP k) (lockP l) = false) (but : B8) : mayF F (lockP k) but = true := by
  unfold mayF
  rw [Bool.not_eq_true', List.any_eq_false]
  intro e he
  have : isUnder e.1 (lockP k) = false ∧ isUnder (lockP k) e.1 = false := by
    rcases h.all e he with ⟨k', v, h1, h2⟩ | ⟨l, h1, h2⟩
    · rw [h2]; exact ⟨under_pl, under_lp⟩
    · rw [h2]; exact ⟨under_ll hk, hf l h1⟩
  simp [this.1, this.2]
theorem ApF.mayP (h : ApF F lk hv n) {k : B8} (hk : nameB k = true) (but : B8) : mayF F (placeP k) but = true := by
  unfold mayF
  rw [Bool.not_eq_true', List.any_eq_false]
  intro e he
  have : isUnder e.1 (placeP k) = false ∧ isUnder (placeP k) e.1 = false := by
    rcases h.all e he with ⟨k', v, h1, h2⟩ | ⟨l, h1, h2⟩
    · rw [h2]; exact ⟨under_pp hk, under_pp (h.name _ _ h1).1⟩
    · rw [h2]; exact ⟨under_lp, under_pl⟩
  simp [this.1, this.2]
theorem ApF.mono (h : ApF F lk hv n) {k : Nat} (hk : n ≤ k) : ApF F lk hv k := ⟨by have := h.used; omega, h.name, h.lock, h.refs, h.all, h.locks⟩
/-- All locks are taken away. -/
def cntL : Option B8 → Int
  | some l => if nameB l = true then 1 else 0
  | none => 0
def restL : Option B8 → Option B8
  | some l => if nameB l = true then none else some l
  | none => none
end Go.Proofs.YtalpfoomkhhgnaaGreatDoor

/-! A ref that is set while all may fail and fall: it is what it was, or new; the others stay: in plain Lean. Conditions: as each theorem states. -/
namespace Go.Proofs.YtalpfoomkhhgnaaGreatDoor
open Go Go.RowKit

/-- No user does a thing. -/
def NoUser (l : List Ev) : Prop := ∀ e ∈ l, e.kind ≠ 4 ∧ e.kind ≠ 5
/-- What stands there, and whatever may stand there behind a crash. -/
structure Sf (X : Files → Prop) (m : Fs) : Prop where
  user : NoUser m.plan
  room : 100000 ≤ m.room
  now : X m.now
  dn : m.down = true → m.sure = m.now ∧ m.pend = []
  up : m.down = false → ∀ keep torn, X (fallen m keep torn)
variable {X Y : Files → Prop} {m : Fs}
theorem Sf.mono (h : Sf X m) (hxy : ∀ F, X F → Y F) : Sf Y m := ⟨h.user, h.room, hxy _ h.now, h.dn, fun hu k t => hxy _ (h.up hu k t)⟩
/-! ### What a call that answers well has done -/
/-! ### Files with a lock more -/
variable {F : Files} {hv : B8 → Option B8} {n : Nat}
def XA (hv : B8 → Option B8) (k : B8) (n : Nat) (F : Files) : Prop := ApF F none hv n ∨ ApF F (some k) hv n
def XB (hv : B8 → Option B8) (k b : B8) (n : Nat) (F : Files) : Prop := ApF F none (updH hv k b) n
def XAB (hv : B8 → Option B8) (k b : B8) (n : Nat) (F : Files) : Prop := XA hv k n F ∨ XB hv k b n F
/-- The lock stands, not durable. -/
structure Mid1 (F : Files) (k b : B8) (t : Int) (m : Fs) : Prop where
  now : m.now = putF F (lockP k) ⟨1, lineM b, t⟩
  sure : m.sure = F
  pend : m.pend = [.put (lockP k) ⟨1, lineM b, t⟩]
theorem Mid1.calls {k b : B8} {t : Int} (h : Mid1 F k b t m) (c : Nat) : Mid1 F k b t { m with calls := c } := ⟨h.now, h.sure, h.pend⟩
/-! ### What is told -/
def isF (F : Files) (k id : B8) : Bool := if id = [] then (look F (placeP k)).isNone else match look F (placeP k) with | some x => x.data == lineM id | none => false
end Go.Proofs.YtalpfoomkhhgnaaGreatDoor

/-! A store of objects over a file system: what Put does; whatever fails and falls, each place has bytes of its hash: in plain Lean. Conditions: as each theorem states. -/
namespace Go.Proofs.YtalpfoomkhhgnaaGreatDoor
open Go Go.RowKit

def tempP : B8 := [115, 47, 116]
def placeO (id : B8) : B8 := [115, 47, 111, 47] ++ id
def putEnd (x : Fs × Int) (id : B8) : Fs × B8 × Int :=
  if x.2 ≠ 0 then (x.1, [], x.2) else if (moveM x.1 tempP (placeO id) false).2 ≠ 0 then ((moveM x.1 tempP (placeO id) false).1, [], (moveM x.1 tempP (placeO id) false).2)
  else ((moveM x.1 tempP (placeO id) false).1, id, 0)
def putO (m : Fs) (b : B8) : Fs × B8 × Int :=
  if 20000 < b.length then (m, [], 3)
  else if (readM m (placeO (shaM b))).2.2 = 0 ∧ (readM m (placeO (shaM b))).2.1.data = b then ((readM m (placeO (shaM b))).1, shaM b, 0)
  else if (readM m (placeO (shaM b))).2.2 = 0 ∧ shaM (readM m (placeO (shaM b))).2.1.data = shaM b then ((readM m (placeO (shaM b))).1, [], 5)
  else if (readM m (placeO (shaM b))).2.2 ≠ 0 ∧ (readM m (placeO (shaM b))).2.2 ≠ 7 then ((readM m (placeO (shaM b))).1, [], (readM m (placeO (shaM b))).2.2)
  else putEnd (writeM (readM m (placeO (shaM b))).1 tempP 1 b) (shaM b)

/-- Each file is what was begun, or lies where its hash says. -/
def XO (F : Files) : Prop := ∀ e ∈ F, e.1 = tempP ∨ e.1 = placeO (shaM e.2.data)
/-- What is pending writes what is begun, or moves it. -/
def ChO : Ch → Prop
  | .put p _ => p = tempP
  | .mv s _ => s = tempP
  | .del _ => False
structure Wh (m : Fs) (told : List B8) : Prop where
  user : NoUser m.plan
  now : XO m.now
  dn : m.down = true → m.sure = m.now ∧ m.pend = []
  up : m.down = false → (∀ k, XO ((m.pend.take k).foldl ap m.sure)) ∧ (∀ c ∈ m.pend, ChO c) ∧ ∀ id ∈ told, (look m.now (placeO id)).isSome = true
end Go.Proofs.YtalpfoomkhhgnaaGreatDoor

/-! Numbers as bytes: put and read back; in plain Lean. Conditions: as each theorem states. -/
namespace Go.Proofs.YtalpfoomkhhgnaaGreatDoor
open Go Go.RowKit

/-- A number's bytes: seven bits each, the lowest first; all but the last have 128 besides. -/
def putN (n : Nat) : B8 := if 127 < n then UInt8.ofNat (n % 128 + 128) :: putN (n / 128) else [UInt8.ofNat n]
termination_by n
decreasing_by omega
def maxW : Nat := 72057594037927936
def putW (n : Int) : B8 × Int := if n < 0 ∨ (maxW : Int) < n then ([], 1) else (putN n.toNat, 0)
/-- How many bytes stand ahead that go on. -/
def moreW (l : B8) : Nat := (l.takeWhile fun c => decide (127 < c.toNat)).length
def valW : B8 → Nat
  | [] => 0
  | c :: l => c.toNat % 128 + 128 * valW l
/-- The number that stands first: itself, how long it is, an error. -/
def getW (l : B8) : Nat × Nat × Int :=
  if moreW l = l.length then (0, 0, 2)
  else if 9 < moreW l + 1 then (0, 0, 4)
  else if maxW < valW (l.take (moreW l + 1)) ∨ putN (valW (l.take (moreW l + 1))) ≠ l.take (moreW l + 1) then (0, 0, 4)
  else (valW (l.take (moreW l + 1)), moreW l + 1, 0)

theorem putN_small {n : Nat} (h : n ≤ 127) : putN n = [UInt8.ofNat n] := by
  rw [putN, if_neg (by omega)]
theorem putN_big {n : Nat} (h : 127 < n) : putN n = UInt8.ofNat (n % 128 + 128) :: putN (n / 128) := by
  rw [putN, if_pos h]
theorem putN_len : ∀ (k n : Nat), n < 128 ^ k → 1 ≤ k → (putN n).length ≤ k
  | 0, n, _, h => by omega
  | k + 1, n, hn, _ => by
    by_cases h : 127 < n
    · rw [putN_big h, List.length_cons]
      have h1 : n / 128 < 128 ^ k := by
        rw [Nat.pow_succ] at hn
        omega
      have h2 : 1 ≤ k := by
        cases k with
        | zero => simp at h1; omega
        | succ k => omega
      have := putN_len k (n / 128) h1 h2
      omega
    · rw [putN_small (by omega)]; simp
theorem putN_len9 {n : Nat} (h : n ≤ maxW) : (putN n).length ≤ 9 := putN_len 9 n (by unfold maxW at h; omega) (by omega)
end Go.Proofs.YtalpfoomkhhgnaaGreatDoor

/-! Objects as bytes, bytes as objects: in plain Lean. Conditions: as each theorem states. -/
namespace Go.Proofs.YtalpfoomkhhgnaaGreatDoor
open Go Go.RowKit

/-- A row of a tree. -/
structure Itm where
  mode : Int
  name : B8
  id : B8
/-- An object. -/
structure Ob where
  kind : Int
  data : B8
  items : List Itm
  tree : B8
  parents : List B8
  stamp : Int
  author : Int
  msg : B8
def ob0 : Ob := ⟨0, [], [], [], [], 0, 0, []⟩
def risesB : List B8 → Bool
  | a :: b :: l => ltB a b && risesB (b :: l)
  | _ => true
def itemOk (x : Itm) : Bool := decide (1 ≤ x.mode) && (decide (x.mode ≤ 4) && (nameB x.name && validB x.id))
def itemsOk (l : List Itm) : Bool := l.all itemOk && (risesB (l.map (·.name)) && decide (l.length ≤ 256))
def parsOk (l : List B8) : Bool := l.all validB && (risesB l && decide (l.length ≤ 2))
def msgOk (s : B8) : Bool := s.all (fun c => decide (32 ≤ c.toNat) && decide (c.toNat ≤ 126)) && decide (s.length ≤ 200)
def noCom (o : Ob) : Bool := (o.tree == []) && ((o.parents.length == 0) && ((o.stamp == 0) && ((o.author == 0) && (o.msg == []))))
def mayO (o : Ob) : Bool :=
  if o.kind = 1 then decide (o.data.length ≤ 20000) && ((o.items.length == 0) && noCom o)
  else if o.kind = 2 then (o.data.length == 0) && (itemsOk o.items && noCom o)
  else if o.kind = 3 then (o.data.length == 0) && ((o.items.length == 0) && (validB o.tree && (parsOk o.parents && ((decide (0 ≤ o.stamp) && decide (o.stamp ≤ 1099511627776)) && ((decide (0 ≤ o.author) && decide (o.author ≤ 255)) && msgOk o.msg)))))
  else false
def rawH (id : B8) : B8 := (unhexM id).getD []
def encItem (x : Itm) : B8 := UInt8.ofNat x.mode.toNat :: (putN x.name.length ++ (x.name ++ rawH x.id))
def encTail (o : Ob) : B8 :=
  if o.kind = 1 then o.data
  else if o.kind = 2 then putN o.items.length ++ o.items.flatMap encItem
  else rawH o.tree ++ (UInt8.ofNat o.parents.length :: (o.parents.flatMap rawH ++ (putN o.stamp.toNat ++ (putN o.author.toNat ++ (putN o.msg.length ++ o.msg)))))
def encO (o : Ob) : B8 := UInt8.ofNat o.kind.toNat :: encTail o
def encodeM (o : Ob) : B8 × Int := if mayO o = true then (encO o, 0) else ([], 1)

/-! ### Reading -/
/-- Bytes that are read; whether they were too few. -/
structure Src where
  b : B8
  bad : Bool
def takeS (s : Src) (n : Nat) : Src × B8 := if s.bad = true ∨ s.b.length < n then (⟨s.b, true⟩, []) else (⟨s.b.drop n, s.bad⟩, s.b.take n)
def oneS (s : Src) : Src × Nat := ((takeS s 1).1, ((takeS s 1).2.headD 0).toNat)
/-- A number; nb: what is bad tells none. -/
def numS (nb : Bool) (s : Src) : Src × Nat := if (getW s.b).2.2 ≠ 0 ∨ (nb = true ∧ s.bad = true) then (⟨s.b, true⟩, 0) else ((takeS s (getW s.b).2.1).1, (getW s.b).1)
def hashS (s : Src) : Src × B8 := ((takeS s 32).1, hexM (takeS s 32).2)
def itemS (nb : Bool) (s : Src) : Src × Itm :=
  ((hashS (takeS (numS nb (oneS s).1).1 (numS nb (oneS s).1).2).1).1, ⟨(oneS s).2, (takeS (numS nb (oneS s).1).1 (numS nb (oneS s).1).2).2, (hashS (takeS (numS nb (oneS s).1).1 (numS nb (oneS s).1).2).1).2⟩)
def itemsS (nb : Bool) : Nat → Src → List Itm → Src × List Itm
  | 0, s, l => (s, l)
  | n + 1, s, l => if s.bad = true then (s, l) else itemsS nb n (itemS nb s).1 (l ++ [(itemS nb s).2])
def parsS : Nat → Src → List B8 → Src × List B8
  | 0, s, l => (s, l)
  | n + 1, s, l => if s.bad = true then (s, l) else parsS n (hashS s).1 (l ++ [(hashS s).2])
/-- A commit, behind its parents. -/
def endS (nb : Bool) (kind : Int) (tree : B8) (x : Src × List B8) : Src × Ob :=
  ((takeS (numS nb (numS nb (numS nb x.1).1).1).1 (numS nb (numS nb (numS nb x.1).1).1).2).1,
    ⟨kind, [], [], tree, x.2, (numS nb x.1).2, (numS nb (numS nb x.1).1).2, (takeS (numS nb (numS nb (numS nb x.1).1).1).1 (numS nb (numS nb (numS nb x.1).1).1).2).2⟩)
def readS (nb : Bool) (kind : Int) (b : B8) : Src × Ob :=
  if kind = 1 then (⟨[], false⟩, ⟨kind, b, [], [], [], 0, 0, []⟩)
  else if kind = 2 then
    ((itemsS nb (numS nb ⟨b, false⟩).2 (numS nb ⟨b, false⟩).1 []).1, ⟨kind, [], (itemsS nb (numS nb ⟨b, false⟩).2 (numS nb ⟨b, false⟩).1 []).2, [], [], 0, 0, []⟩)
  else if kind = 3 then endS nb kind (hashS ⟨b, false⟩).2 (parsS (oneS (hashS ⟨b, false⟩).1).2 (oneS (hashS ⟨b, false⟩).1).1 [])
  else (⟨b, false⟩, ⟨kind, [], [], [], [], 0, 0, []⟩)
def decodeM : B8 → Ob × Int
  | [] => (ob0, 2)
  | c :: l => if mayO (readS false c.toNat l).2 = true ∧ encO (readS false c.toNat l).2 = c :: l then ((readS false c.toNat l).2, 0) else (ob0, 4)

/-! ### There and back -/
theorem hex_raw : ∀ (s : B8) {b : B8}, unhexM s = some b → hexM b = s
  | [], b, h => by
    have : b = [] := by simpa [unhexM] using h.symm
    subst this
    rfl
  | [x], b, h => by simp [unhexM] at h
  | x :: y :: l, b, h => by
    unfold unhexM at h
    split at h
    · rename_i hc
      cases hr : unhexM l with
      | none => rw [hr] at h; simp at h
      | some r =>
        rw [hr] at h
        have h : UInt8.ofNat (16 * digM x + digM y) :: r = b := by simpa using h
        subst h
        have ih := hex_raw l hr
        have : hexM (UInt8.ofNat (16 * digM x + digM y) :: r) = digitsB.getD ((UInt8.ofNat (16 * digM x + digM y)).toNat / 16) 0 :: digitsB.getD ((UInt8.ofNat (16 * digM x + digM y)).toNat % 16) 0 :: hexM r := by unfold hexM; rw [List.flatMap_cons]; rfl
        rw [this, ih, UInt8.toNat_ofNat', show (16 * digM x + digM y) % 2 ^ 8 / 16 = digM x by omega, show (16 * digM x + digM y) % 2 ^ 8 % 16 = digM y by omega]
        have hd : ∀ c : UInt8, digM c < 16 → digitsB.getD (digM c) 0 = c := fun c hc => by
          have hlt : List.idxOf c digitsB < digitsB.length := hc
          unfold digM
          rw [List.getD_eq_getElem?_getD, List.getElem?_eq_getElem hlt, Option.getD_some, List.getElem_idxOf]
        rw [hd x hc.1, hd y hc.2]
    · cases h
theorem raw_of {id : B8} (h : validB id = true) : (rawH id).length = 32 ∧ hexM (rawH id) = id := by
  unfold validB at h
  unfold rawH
  cases hr : unhexM id with
  | none => rw [hr] at h; cases h
  | some b =>
    rw [hr] at h
    exact ⟨by simpa using h, hex_raw id hr⟩
theorem name_len {s : B8} (h : nameB s = true) : s.length ≤ 64 := by
  unfold nameB at h
  simp only [Bool.and_eq_true, decide_eq_true_eq] at h
  exact h.2.2.1
theorem may_kind {o : Ob} (h : mayO o = true) : o.kind = 1 ∨ o.kind = 2 ∨ o.kind = 3 := by
  unfold mayO at h
  split at h
  · rename_i hk; exact .inl hk
  · split at h
    · rename_i hk; exact .inr (.inl hk)
    · split at h
      · rename_i hk; exact .inr (.inr hk)
      · cases h
end Go.Proofs.YtalpfoomkhhgnaaGreatDoor

/-! What the store's calls do, in plain Lean. Conditions: as each theorem states. -/
namespace Go.Proofs.YtalpfoomkhhgnaaGreatDoor
open Go Go.RowKit
def putObjM (m : Fs) (o : Ob) : Fs × B8 × Int := if (encodeM o).2 ≠ 0 then (m, [], (encodeM o).2) else putO m (encodeM o).1
def getO (m : Fs) (id : B8) : Fs × B8 × Int :=
  if validB id = false then (m, [], 6)
  else if (readM m (placeO id)).2.2 ≠ 0 then ((readM m (placeO id)).1, [], (readM m (placeO id)).2.2)
  else if shaM (readM m (placeO id)).2.1.data ≠ id then ((readM m (placeO id)).1, [], 5)
  else ((readM m (placeO id)).1, (readM m (placeO id)).2.1.data, 0)
/-- How many reads there were behind a Get. -/
def gotN (n : Int) (id : B8) : Int := if validB id = true then n + 1 else n
def dropO (m : Fs) (id : B8) : Fs × Int := if validB id = false then (m, 6) else removeM m (placeO id)
def cleanO (m : Fs) : Fs × Int := if (removeM m tempP).2 ≠ 7 then removeM m tempP else ((removeM m tempP).1, 0)
def hasO (m : Fs) (id : B8) : Bool := decide ((getO m id).2.2 = 0)
end Go.Proofs.YtalpfoomkhhgnaaGreatDoor

/-! The places of a store of objects: their names, what stands there; in plain Lean. Conditions: as each theorem states. -/
namespace Go.Proofs.YtalpfoomkhhgnaaGreatDoor
open Go Go.RowKit

end Go.Proofs.YtalpfoomkhhgnaaGreatDoor

/-! A scan of what stands in the working directory, in plain Lean: what it tells where nothing fails. Conditions: as each theorem states. -/
namespace Go.Proofs.YtalpfoomkhhgnaaGreatDoor
open Go Go.RowKit

def lookD (l : Files) (p : B8) : B8 := match look l p with
  | some f => f.data
  | none => []
/-- A row of a table. -/
structure Rw where
  path : B8
  mode : Int
  id : B8
def blobO (d : B8) : Ob := ⟨1, d, [], [], [], 0, 0, []⟩
def trustX (ix : Files) (wr : Int) (p : B8) (t : Int) : Bool := match look ix p with
  | some k => decide (k.time = t) && decide (k.time < wr)
  | none => false
def hashX1 (m : Fs) (d : B8) : Fs × Nat × B8 × Int := if 4096 < d.length then (m, 0, [], 3) else ((putObjM m (blobO d)).1, 1, (putObjM m (blobO d)).2.1, (putObjM m (blobO d)).2.2)
/-- A file's hash: the file system, how many were worked out, the hash, what is wrong. -/
def hashX (m : Fs) (ix : Files) (wr : Int) (p : B8) (f : Fi) : Fs × Nat × B8 × Int :=
  if trustX ix wr p f.time = true then
    if hasO m (lookD ix p) = true then ((getO m (lookD ix p)).1, 0, lookD ix p, 0) else hashX1 (getO m (lookD ix p)).1 f.data
  else hashX1 m f.data
structure Sc where
  m : Fs
  rows : List Rw
  ix : Files
  n : Nat
def dirW : B8 := [119, 47]
def wP : B8 := [119]
def cutW (p : B8) : B8 := Lib.trimPrefix p dirW
def hashStep (ix : Files) (wr : Int) (x : Sc) (p : B8) (r : Fs × Fi) : Sc × Int :=
  if (hashX r.1 ix wr (cutW p) r.2).2.2.2 ≠ 0 then ({ x with m := (hashX r.1 ix wr (cutW p) r.2).1 }, (hashX r.1 ix wr (cutW p) r.2).2.2.2)
  else (⟨(hashX r.1 ix wr (cutW p) r.2).1, x.rows ++ [⟨cutW p, r.2.mode, (hashX r.1 ix wr (cutW p) r.2).2.2.1⟩], putF x.ix (cutW p) ⟨0, (hashX r.1 ix wr (cutW p) r.2).2.2.1, r.2.time⟩, x.n + (hashX r.1 ix wr (cutW p) r.2).2.1⟩, 0)
def scanStep (ix : Files) (wr : Int) (pats : List B8) (x : Sc) (p : B8) : Sc × Int :=
  if ignB pats (cutW p) = true then (x, 0)
  else if 256 ≤ x.rows.length then (x, 14)
  else if (readM x.m p).2.2 = 7 then ({ x with m := (readM x.m p).1 }, 0)
  else if (readM x.m p).2.2 ≠ 0 then ({ x with m := (readM x.m p).1 }, (readM x.m p).2.2)
  else hashStep ix wr x p ((readM x.m p).1, (readM x.m p).2.1)
def scanL (ix : Files) (wr : Int) (pats : List B8) : List B8 → Sc → Sc × Int
  | [], x => (x, 0)
  | p :: l, x => if (scanStep ix wr pats x p).2 ≠ 0 then scanStep ix wr pats x p else scanL ix wr pats l (scanStep ix wr pats x p).1
def scanGo (m : Fs) (ix : Files) (wr : Int) (pats : List B8) : Sc × Int :=
  if (listM m wP).2.2 ≠ 0 then (⟨(listM m wP).1, [], [], 0⟩, (listM m wP).2.2) else scanL ix wr pats (listM m wP).2.1 ⟨(listM m wP).1, [], [], 0⟩

/-! ### Nothing planned, nothing down -/
/-- Each file is a user's, or what was begun, or lies where its hash says. -/
def XW (F : Files) : Prop := ∀ e ∈ F, isUnder wP e.1 = true ∨ e.1 = tempP ∨ e.1 = placeO (shaM e.2.data)
structure Ca (m : Fs) : Prop where
  plan : m.plan = []
  down : m.down = false
  ok : OkM m
  xw : XW m.now
def SameW (F G : Files) : Prop := (∀ p, isUnder wP p = true → look G p = look F p) ∧ (pathsL G).filter (isUnder wP) = (pathsL F).filter (isUnder wP)
def HasF (F : Files) (id : B8) : Prop := ∃ f, look F (placeO id) = some f ∧ shaM f.data = id
theorem SameW.refl (F : Files) : SameW F F := ⟨fun _ _ => rfl, rfl⟩
theorem SameW.trans {F G H : Files} (h : SameW F G) (k : SameW G H) : SameW F H := ⟨fun p hp => (k.1 p hp).trans (h.1 p hp), k.2.trans h.2⟩
/-- What a call of the store leaves. -/
structure Goes (m m' : Fs) : Prop where
  ca : Ca m'
  same : SameW m.now m'.now
  time : m.time ≤ m'.time
  has : ∀ id, HasF m.now id → HasF m'.now id
theorem Goes.trans {a b c : Fs} (h : Goes a b) (k : Goes b c) : Goes a c := ⟨k.ca, h.same.trans k.same, Nat.le_trans h.time k.time, fun id hi => k.has id (h.has id hi)⟩
theorem ok_calls {m : Fs} (h : OkM m) (c : Nat) : OkM { m with calls := c } := h.same rfl rfl rfl h.lusers (Nat.le_refl _)
theorem Ca.calls {m : Fs} (h : Ca m) (c : Nat) : Ca { m with calls := c } := ⟨h.plan, h.down, ok_calls h.ok c, h.xw⟩
theorem Ca.call {m : Fs} (h : Ca m) : callM m = ({ m with calls := m.calls + 1 }, false, 0) := call_calm h.plan h.down
/-! ### A scan where nothing is planned -/
def hashB (d : B8) : B8 := shaM (1 :: d)
/-- An index tells the hashes of what stands there. -/
def IxOk (F : Files) (ix : Files) : Prop := ∀ p k, look ix p = some k → ∀ f, look F (dirW ++ p) = some f → f.time = k.time → k.data = hashB f.data
def rowOf (F : Files) (p : B8) : Rw := match look F p with
  | some f => ⟨cutW p, f.mode, hashB f.data⟩
  | none => ⟨cutW p, 0, []⟩
def takenL (pats : List B8) (l : List B8) : List B8 := l.filter fun p => !ignB pats (cutW p)
/-- What holds within a scan, F being what stood there at its start. -/
structure ScOk (m0 : Fs) (F : Files) (x : Sc) : Prop where
  goes : Goes m0 x.m
  same : SameW F x.m.now
  rows : ∀ r ∈ x.rows, HasF x.m.now r.id ∧ ∃ d, r.id = hashB d
  ix : ∀ p k, look x.ix p = some k → ∃ f, look F (dirW ++ p) = some f ∧ k.time = f.time ∧ k.data = hashB f.data
end Go.Proofs.YtalpfoomkhhgnaaGreatDoor

/-! What marlaw13.ScanTrue says, in plain Lean: users write and remove, a scan tells just what stands there. Conditions: as each theorem states. -/
namespace Go.Proofs.YtalpfoomkhhgnaaGreatDoor
open Go Go.RowKit

/-- What holds between the deeds: a file system, an index. -/
structure Tru (m : Fs) (ix : Files) : Prop where
  ca : Ca m
  ix : ∀ p k, look ix p = some k → k.time ≤ m.time ∧ ∀ f, look m.now (dirW ++ p) = some f → f.time = k.time → k.data = hashB f.data
  tw : ∀ p f, look m.now (dirW ++ p) = some f → f.time ≤ m.time
/-- Rows tell what stands there. -/
structure Told (m : Fs) (pats : List B8) (rows : List Rw) : Prop where
  eq : rows = (takenL pats ((pathsL m.now).filter (isUnder wP))).map (rowOf m.now)
  has : ∀ r ∈ rows, HasF m.now r.id ∧ ∃ d, r.id = hashB d
theorem Tru.new {m : Fs} {ix : Files} (h : Tru m ix) : Tru m [] := ⟨h.ca, (fun p k hk => by cases hk), h.tw⟩
end Go.Proofs.YtalpfoomkhhgnaaGreatDoor

/-! Words of 32 bits: what the machine's operations make of them. Conditions: as each theorem states. -/
namespace Go.Proofs.YtalpfoomkhhgnaaGreatDoor
open Go Go.RowKit

abbrev U32 (x : UInt32) : Value := .int .u32 (x.toNat : Int)
theorem bv_u32 (x : UInt32) : BitVec.ofInt 32 (x.toNat : Int) = x.toBitVec := by
  apply BitVec.eq_of_toNat_eq
  have := x.toNat_lt
  rw [BitVec.toNat_ofInt]
  show ((x.toNat : Int) % 4294967296).toNat = x.toNat
  omega
theorem wrap_u32 (n : Nat) (h : n < 4294967296) : IntKind.wrap .u32 (n : Int) = (n : Int) := by
  unfold IntKind.wrap IntKind.bits IntKind.signed
  simp
  omega
theorem bits_and32 (x y : UInt32) : bits .and .u32 (x.toNat : Int) (y.toNat : Int) = ((x &&& y).toNat : Int) := by
  have h := (x &&& y).toNat_lt
  unfold bits
  show IntKind.wrap .u32 ((BitVec.ofInt 32 (x.toNat : Int) &&& BitVec.ofInt 32 (y.toNat : Int)).toNat : Int) = _
  rw [bv_u32, bv_u32]
  exact wrap_u32 _ h
theorem bits_or32 (x y : UInt32) : bits .or .u32 (x.toNat : Int) (y.toNat : Int) = ((x ||| y).toNat : Int) := by
  have h := (x ||| y).toNat_lt
  unfold bits
  show IntKind.wrap .u32 ((BitVec.ofInt 32 (x.toNat : Int) ||| BitVec.ofInt 32 (y.toNat : Int)).toNat : Int) = _
  rw [bv_u32, bv_u32]
  exact wrap_u32 _ h
theorem bits_xor32 (x y : UInt32) : bits .xor .u32 (x.toNat : Int) (y.toNat : Int) = ((x ^^^ y).toNat : Int) := by
  have h := (x ^^^ y).toNat_lt
  unfold bits
  show IntKind.wrap .u32 ((BitVec.ofInt 32 (x.toNat : Int) ^^^ BitVec.ofInt 32 (y.toNat : Int)).toNat : Int) = _
  rw [bv_u32, bv_u32]
  exact wrap_u32 _ h
theorem bits_not32 (x : UInt32) : bits .xor .u32 4294967295 (x.toNat : Int) = ((~~~x).toNat : Int) := by
  have h := (~~~x).toNat_lt
  unfold bits
  show IntKind.wrap .u32 ((BitVec.ofInt 32 4294967295 ^^^ BitVec.ofInt 32 (x.toNat : Int)).toNat : Int) = _
  rw [bv_u32]
  have he : (BitVec.ofInt 32 4294967295 ^^^ x.toBitVec) = ~~~ x.toBitVec := by
    rw [show BitVec.ofInt 32 4294967295 = BitVec.allOnes 32 from rfl, BitVec.allOnes_xor]
  rw [he]
  exact wrap_u32 _ h
theorem add32 (x y : UInt32) : ((x.toNat : Int) + (y.toNat : Int)) % 4294967296 = ((x + y).toNat : Int) := by
  rw [UInt32.toNat_add]
  omega
theorem shr32 (x : UInt32) (k : Nat) (hk : k < 32) : (x.toNat : Int) / (2 ^ k : Int) = ((x >>> UInt32.ofNat k).toNat : Int) := by
  have hn : (UInt32.ofNat k).toNat = k := by simp; omega
  rw [UInt32.toNat_shiftRight, hn, Nat.mod_eq_of_lt hk, Nat.shiftRight_eq_div_pow]
  simp
theorem shl32 (x : UInt32) (k : Nat) (hk : k < 32) : ((x.toNat : Int) * (2 ^ k : Int)) % 4294967296 = ((x <<< UInt32.ofNat k).toNat : Int) := by
  have hn : (UInt32.ofNat k).toNat = k := by simp; omega
  rw [UInt32.toNat_shiftLeft, hn, Nat.mod_eq_of_lt hk, Nat.shiftLeft_eq]
  simp
end Go.Proofs.YtalpfoomkhhgnaaGreatDoor
