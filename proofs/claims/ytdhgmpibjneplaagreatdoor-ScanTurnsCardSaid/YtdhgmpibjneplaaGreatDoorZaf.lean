/- A region that draws its order and whose calls make blocks of their own: that the blocks of two of them differ is known behind it. Conditions: each operation of the head leaves what was there as it was. -/
import Derived.Test.YtdhgmpibjneplaaGreatDoorZab
import Derived.Test.YtdhgmpibjneplaaGreatDoorZae
import Derived.Test.YtdhgmpibjneplaaGreatDoorZaa
import Derived.Deep.QuietTactic
import Derived.Lib.QuietBelow
import Derived.Deep.Upon
import Derived.Lib.EndianBits
import Derived.Deep.DeepCutAuto

set_option linter.unusedVariables false
set_option linter.unusedSimpArgs false

/-! A scan of what stands in the working directory, in plain Lean: what it tells where nothing fails. Conditions: as each theorem states. -/
namespace Go.Proofs.YtdhgmpibjneplaaGreatDoor
open Go Go.RowKit

def lookD (l : Files) (p : B8) : B8 := match look l p with
  | some f => f.data
  | none => []
/-- A row of a table. -/
structure Rw where
  path : B8
  mode : Int
  id : B8
def blobO (d : B8) : Ob := ⟨1, d, [], [], [], 0, 0, []⟩
def trustX (ix : Files) (wr : Int) (p : B8) (t : Int) : Bool := match look ix p with
  | some k => decide (k.time = t) && decide (k.time < wr)
  | none => false
def hashX1 (m : Fs) (d : B8) : Fs × Nat × B8 × Int := if 4096 < d.length then (m, 0, [], 3) else ((putObjM m (blobO d)).1, 1, (putObjM m (blobO d)).2.1, (putObjM m (blobO d)).2.2)
/-- A file's hash: the file system, how many were worked out, the hash, what is wrong. -/
def hashX (m : Fs) (ix : Files) (wr : Int) (p : B8) (f : Fi) : Fs × Nat × B8 × Int :=
  if trustX ix wr p f.time = true then
    if hasO m (lookD ix p) = true then ((getO m (lookD ix p)).1, 0, lookD ix p, 0) else hashX1 (getO m (lookD ix p)).1 f.data
  else hashX1 m f.data
structure Sc where
  m : Fs
  rows : List Rw
  ix : Files
  n : Nat
def dirW : B8 := [119, 47]
def wP : B8 := [119]
def cutW (p : B8) : B8 := Lib.trimPrefix p dirW
def hashStep (ix : Files) (wr : Int) (x : Sc) (p : B8) (r : Fs × Fi) : Sc × Int :=
  if (hashX r.1 ix wr (cutW p) r.2).2.2.2 ≠ 0 then ({ x with m := (hashX r.1 ix wr (cutW p) r.2).1 }, (hashX r.1 ix wr (cutW p) r.2).2.2.2)
  else (⟨(hashX r.1 ix wr (cutW p) r.2).1, x.rows ++ [⟨cutW p, r.2.mode, (hashX r.1 ix wr (cutW p) r.2).2.2.1⟩], putF x.ix (cutW p) ⟨0, (hashX r.1 ix wr (cutW p) r.2).2.2.1, r.2.time⟩, x.n + (hashX r.1 ix wr (cutW p) r.2).2.1⟩, 0)
def scanStep (ix : Files) (wr : Int) (pats : List B8) (x : Sc) (p : B8) : Sc × Int :=
  if ignB pats (cutW p) = true then (x, 0)
  else if 256 ≤ x.rows.length then (x, 14)
  else if (readM x.m p).2.2 = 7 then ({ x with m := (readM x.m p).1 }, 0)
  else if (readM x.m p).2.2 ≠ 0 then ({ x with m := (readM x.m p).1 }, (readM x.m p).2.2)
  else hashStep ix wr x p ((readM x.m p).1, (readM x.m p).2.1)
def scanL (ix : Files) (wr : Int) (pats : List B8) : List B8 → Sc → Sc × Int
  | [], x => (x, 0)
  | p :: l, x => if (scanStep ix wr pats x p).2 ≠ 0 then scanStep ix wr pats x p else scanL ix wr pats l (scanStep ix wr pats x p).1
def scanGo (m : Fs) (ix : Files) (wr : Int) (pats : List B8) : Sc × Int :=
  if (listM m wP).2.2 ≠ 0 then (⟨(listM m wP).1, [], [], 0⟩, (listM m wP).2.2) else scanL ix wr pats (listM m wP).2.1 ⟨(listM m wP).1, [], [], 0⟩

/-! ### Nothing planned, nothing down -/
/-- Each file is a user's, or what was begun, or lies where its hash says. -/
def XW (F : Files) : Prop := ∀ e ∈ F, isUnder wP e.1 = true ∨ e.1 = tempP ∨ e.1 = placeO (shaM e.2.data)
structure Ca (m : Fs) : Prop where
  plan : m.plan = []
  down : m.down = false
  ok : OkM m
  xw : XW m.now
def SameW (F G : Files) : Prop := (∀ p, isUnder wP p = true → look G p = look F p) ∧ (pathsL G).filter (isUnder wP) = (pathsL F).filter (isUnder wP)
def HasF (F : Files) (id : B8) : Prop := ∃ f, look F (placeO id) = some f ∧ shaM f.data = id
theorem SameW.refl (F : Files) : SameW F F := ⟨fun _ _ => rfl, rfl⟩
theorem SameW.trans {F G H : Files} (h : SameW F G) (k : SameW G H) : SameW F H := ⟨fun p hp => (k.1 p hp).trans (h.1 p hp), k.2.trans h.2⟩
/-- What a call of the store leaves. -/
structure Goes (m m' : Fs) : Prop where
  ca : Ca m'
  same : SameW m.now m'.now
  time : m.time ≤ m'.time
  has : ∀ id, HasF m.now id → HasF m'.now id
theorem Goes.trans {a b c : Fs} (h : Goes a b) (k : Goes b c) : Goes a c := ⟨k.ca, h.same.trans k.same, Nat.le_trans h.time k.time, fun id hi => k.has id (h.has id hi)⟩
theorem ok_calls {m : Fs} (h : OkM m) (c : Nat) : OkM { m with calls := c } := h.same rfl rfl rfl h.lusers (Nat.le_refl _)
theorem Ca.calls {m : Fs} (h : Ca m) (c : Nat) : Ca { m with calls := c } := ⟨h.plan, h.down, ok_calls h.ok c, h.xw⟩
theorem Ca.call {m : Fs} (h : Ca m) : callM m = ({ m with calls := m.calls + 1 }, false, 0) := call_calm h.plan h.down
/-! ### A scan where nothing is planned -/
def hashB (d : B8) : B8 := shaM (1 :: d)
/-- An index tells the hashes of what stands there. -/
def IxOk (F : Files) (ix : Files) : Prop := ∀ p k, look ix p = some k → ∀ f, look F (dirW ++ p) = some f → f.time = k.time → k.data = hashB f.data
def rowOf (F : Files) (p : B8) : Rw := match look F p with
  | some f => ⟨cutW p, f.mode, hashB f.data⟩
  | none => ⟨cutW p, 0, []⟩
def takenL (pats : List B8) (l : List B8) : List B8 := l.filter fun p => !ignB pats (cutW p)
/-- What holds within a scan, F being what stood there at its start. -/
structure ScOk (m0 : Fs) (F : Files) (x : Sc) : Prop where
  goes : Goes m0 x.m
  same : SameW F x.m.now
  rows : ∀ r ∈ x.rows, HasF x.m.now r.id ∧ ∃ d, r.id = hashB d
  ix : ∀ p k, look x.ix p = some k → ∃ f, look F (dirW ++ p) = some f ∧ k.time = f.time ∧ k.data = hashB f.data
end Go.Proofs.YtdhgmpibjneplaaGreatDoor

/-! What differs between two tables; a row is set, in plain Lean. Conditions: as each theorem states. -/
namespace Go.Proofs.YtdhgmpibjneplaaGreatDoor
open Go Go.RowKit

def entG (l : List Rw) (p : B8) : Int × B8 := match l.find? (fun r => r.path == p) with
  | some r => (r.mode, r.id)
  | none => (0, [])
structure Chg where
  path : B8
  old : Int × B8
  new : Int × B8
def pathsT (a b : List Rw) : List B8 := uniqT (a.map (·.path) ++ b.map (·.path))
def difL (a b : List Rw) (l : List B8) : List Chg := (l.filter fun p => entG a p != entG b p).map fun p => ⟨p, entG a p, entG b p⟩
def statM (a b : List Rw) : List Chg := difL a b (pathsT a b)
/-- A row is set: what is done so far; whether it is set. -/
def setStep (n : Rw) (x : List Rw × Bool) (r : Rw) : List Rw × Bool :=
  ((x.1 ++ (if (!x.2 && !ltB r.path n.path) = true then [n] else [])) ++ (if r.path = n.path then [] else [r]), x.2 || !ltB r.path n.path)
def setEndR (n : Rw) (x : List Rw × Bool) : List Rw := if x.2 = true then x.1 else x.1 ++ [n]
def setR (l : List Rw) (n : Rw) : List Rw := setEndR n (l.foldl (setStep n) ([], decide (n.mode = 0)))

/-- A table: its paths rise, each row is of something. -/
structure Tb (l : List Rw) : Prop where
  rise : riseT (l.map (·.path))
  mode : ∀ r ∈ l, r.mode ≠ 0
theorem lt_irr (a : B8) : ltB a a = false := by
  unfold ltB
  rw [decide_eq_false_iff_not]
  exact List.lt_irrefl a
theorem lt_trans' {a b c : B8} (h1 : ltB a b = true) (h2 : ltB b c = true) : ltB a c = true := by
  unfold ltB at h1 h2 ⊢
  rw [decide_eq_true_eq] at h1 h2 ⊢
  exact List.lt_trans h1 h2
theorem lt_ne {a b : B8} (h : ltB a b = true) : a ≠ b := fun e => by rw [e, lt_irr] at h; cases h
theorem lt_asym {a b : B8} (h : ltB a b = true) : ltB b a = false := by
  cases hq : ltB b a with
  | false => rfl
  | true => have := lt_trans' h hq; rw [lt_irr] at this; cases this
theorem lt_tri {a b : B8} (h1 : ltB a b = false) (h2 : a ≠ b) : ltB b a = true := by
  cases hq : ltB b a with
  | true => rfl
  | false => exact (h2 (leT_anti (by unfold leT; rw [hq]; rfl) (by unfold leT; rw [h1]; rfl))).elim
theorem Tb.tail {r : Rw} {l : List Rw} (h : Tb (r :: l)) : Tb l := ⟨(List.pairwise_cons.1 h.rise).2, fun x hx => h.mode x (by simp [hx])⟩
theorem Tb.head {r : Rw} {l : List Rw} (h : Tb (r :: l)) : ∀ x ∈ l, ltB r.path x.path = true := fun x hx => (List.pairwise_cons.1 h.rise).1 _ (List.mem_map.2 ⟨x, hx, rfl⟩)
theorem ent_mem : ∀ {l : List Rw}, Tb l → ∀ {r : Rw}, r ∈ l → entG l r.path = (r.mode, r.id)
  | [], _, r, hr => by cases hr
  | x :: l, h, r, hr => by
    unfold entG
    rw [List.find?_cons]
    rcases List.mem_cons.1 hr with rfl | hr
    · simp
    · have hne : (x.path == r.path) = false := beq_eq_false_iff_ne.2 (lt_ne (h.head r hr))
      rw [hne]
      exact ent_mem h.tail hr
theorem ent_none {l : List Rw} {p : B8} (h : ∀ r ∈ l, r.path ≠ p) : entG l p = (0, []) := by
  unfold entG
  rw [List.find?_eq_none.2 (fun r hr => by simpa using h r hr)]
theorem ent_some {l : List Rw} {p : B8} (h : Tb l) (h0 : (entG l p).1 ≠ 0) : ∃ r ∈ l, r.path = p ∧ entG l p = (r.mode, r.id) := by
  cases hq : l.find? (fun r => r.path == p) with
  | none => unfold entG at h0; rw [hq] at h0; exact (h0 rfl).elim
  | some r =>
    have h1 := List.find?_some hq
    have h2 := List.mem_of_find?_eq_some hq
    exact ⟨r, h2, by simpa using h1, by unfold entG; rw [hq]⟩
theorem tb_map {l : List Rw} (h : Tb l) : l = (l.map (·.path)).map fun p => ⟨p, (entG l p).1, (entG l p).2⟩ := by
  rw [List.map_map]
  refine (List.map_id l).symm.trans (List.map_congr_left fun r hr => ?_)
  show r = (⟨r.path, (entG l r.path).1, (entG l r.path).2⟩ : Rw)
  rw [ent_mem h hr]
theorem tb_ext {a b : List Rw} (ha : Tb a) (hb : Tb b) (h : ∀ p, entG a p = entG b p) : a = b := by
  have key : ∀ {x y : List Rw}, Tb x → Tb y → (∀ p, entG x p = entG y p) → ∀ p, p ∈ x.map (·.path) → p ∈ y.map (·.path) := by
    intro x y hx hy h p hp
    obtain ⟨r, hr, rfl⟩ := List.mem_map.1 hp
    have h1 := ent_mem hx hr
    rw [h] at h1
    obtain ⟨s, hs, hsp, -⟩ := ent_some hy (p := r.path) (by rw [h1]; exact hx.mode r hr)
    exact List.mem_map.2 ⟨s, hs, hsp⟩
  have hp : a.map (·.path) = b.map (·.path) := rise_ext ha.rise hb.rise (fun p => ⟨key ha hb h p, key hb ha (fun p => (h p).symm) p⟩)
  rw [tb_map ha, tb_map hb, hp]
  exact List.map_congr_left fun p _ => by rw [h]
theorem fold_done (n : Rw) : ∀ (l acc : List Rw), l.foldl (setStep n) (acc, true) = (acc ++ l.filter (fun r => !(r.path == n.path)), true)
  | [], acc => by simp
  | r :: l, acc => by
    rw [List.foldl_cons]
    have : setStep n (acc, true) r = (acc ++ (if r.path = n.path then [] else [r]), true) := by unfold setStep; simp
    rw [this, fold_done n l, List.filter_cons]
    by_cases hr : r.path = n.path
    · simp [hr]
    · simp [hr]
def below (p : B8) (l : List Rw) : List Rw := l.filter fun r => ltB r.path p
def above (p : B8) (l : List Rw) : List Rw := l.filter fun r => ltB p r.path
theorem all_above {p : B8} {l : List Rw} (h : ∀ r ∈ l, ltB p r.path = true) : below p l = [] ∧ above p l = l ∧ l.filter (fun r => !(r.path == p)) = l := by
  refine ⟨List.filter_eq_nil_iff.2 fun r hr => by simp [lt_asym (h r hr)], List.filter_eq_self.2 fun r hr => h r hr, List.filter_eq_self.2 fun r hr => ?_⟩
  have := lt_ne (h r hr)
  simpa using this.symm
theorem ne_split : ∀ {l : List Rw}, Tb l → ∀ p, l.filter (fun r => !(r.path == p)) = below p l ++ above p l
  | [], _, p => rfl
  | r :: l, h, p => by
    have ih := ne_split h.tail p
    have hh := h.head
    unfold below above at ih ⊢
    rw [List.filter_cons, List.filter_cons, List.filter_cons]
    by_cases hr : r.path = p
    · subst hr
      obtain ⟨a1, a2, a3⟩ := all_above hh
      unfold below at a1
      unfold above at a2
      rw [lt_irr]
      simp only [BEq.rfl, Bool.not_true, Bool.false_eq_true, if_false]
      exact ih
    · cases hlt : ltB r.path p with
      | true =>
        rw [lt_asym hlt]
        simp [hr, ih]
      | false =>
        have hgt := lt_tri hlt hr
        obtain ⟨a1, a2, a3⟩ := all_above (p := p) (l := l) (fun x hx => lt_trans' hgt (hh x hx))
        unfold below at a1
        unfold above at a2
        rw [hgt, a1, a2, a3]
        simp [hr]
theorem fold_open (n : Rw) : ∀ (l acc : List Rw), Tb l → setEndR n (l.foldl (setStep n) (acc, false)) = acc ++ (below n.path l ++ n :: above n.path l)
  | [], acc, _ => by simp [setEndR, below, above]
  | r :: l, acc, h => by
    have hh := h.head
    rw [List.foldl_cons]
    cases hlt : ltB r.path n.path with
    | true =>
      have hne := lt_ne hlt
      have : setStep n (acc, false) r = (acc ++ [r], false) := by unfold setStep; simp [hlt, hne]
      rw [this, fold_open n l _ h.tail]
      unfold below above
      rw [List.filter_cons, List.filter_cons, hlt, lt_asym hlt]
      simp
    | false =>
      have hs : setStep n (acc, false) r = ((acc ++ [n]) ++ (if r.path = n.path then [] else [r]), true) := by unfold setStep; simp [hlt]
      rw [hs, fold_done]
      unfold setEndR
      rw [if_pos rfl]
      by_cases hr : r.path = n.path
      · obtain ⟨a1, a2, a3⟩ := all_above (p := n.path) (l := l) (fun x hx => by rw [← hr]; exact hh x hx)
        rw [if_pos hr, a3]
        unfold below at a1
        unfold above at a2
        unfold below above
        rw [List.filter_cons, List.filter_cons, hlt, a1, a2, hr, lt_irr]
        simp
      · have hgt := lt_tri hlt hr
        obtain ⟨a1, a2, a3⟩ := all_above (p := n.path) (l := l) (fun x hx => lt_trans' hgt (hh x hx))
        rw [if_neg hr, a3]
        unfold below at a1
        unfold above at a2
        unfold below above
        rw [List.filter_cons, List.filter_cons, hlt, a1, a2, hgt]
        simp
theorem set_tb {l : List Rw} (h : Tb l) (n : Rw) : setR l n = below n.path l ++ ((if n.mode = 0 then [] else [n]) ++ above n.path l) := by
  unfold setR
  by_cases hm : n.mode = 0
  · rw [decide_eq_true hm, fold_done, if_pos hm]
    unfold setEndR
    rw [if_pos rfl, ne_split h]
    rfl
  · rw [decide_eq_false hm, fold_open n l [] h, if_neg hm]
    rfl
theorem set_keeps {l : List Rw} (h : Tb l) (n : Rw) : Tb (setR l n) := by
  rw [set_tb h]
  have hb : ∀ r ∈ below n.path l, r ∈ l ∧ ltB r.path n.path = true := fun r hr => List.mem_filter.1 hr
  have ha : ∀ r ∈ above n.path l, r ∈ l ∧ ltB n.path r.path = true := fun r hr => List.mem_filter.1 hr
  have hpb : ((below n.path l).map (·.path)).Pairwise fun a b => ltB a b = true := List.Pairwise.sublist (List.Sublist.map _ List.filter_sublist) h.rise
  have hpa : ((above n.path l).map (·.path)).Pairwise fun a b => ltB a b = true := List.Pairwise.sublist (List.Sublist.map _ List.filter_sublist) h.rise
  have hmid : (((if n.mode = 0 then [] else [n]) ++ above n.path l).map (·.path)).Pairwise fun a b => ltB a b = true := by
    by_cases hm : n.mode = 0
    · rw [if_pos hm]; exact hpa
    · rw [if_neg hm]
      refine List.pairwise_cons.2 ⟨fun p hp => ?_, hpa⟩
      obtain ⟨r, hr, rfl⟩ := List.mem_map.1 hp
      exact (ha r hr).2
  refine ⟨?_, fun r hr => ?_⟩
  · rw [List.map_append]
    refine List.pairwise_append.2 ⟨hpb, hmid, fun p hp q hq => ?_⟩
    obtain ⟨r, hr, rfl⟩ := List.mem_map.1 hp
    obtain ⟨s, hs, rfl⟩ := List.mem_map.1 hq
    rcases List.mem_append.1 hs with hs | hs
    · by_cases hm : n.mode = 0
      · rw [if_pos hm] at hs; cases hs
      · rw [if_neg hm] at hs
        rw [List.mem_singleton.1 hs]
        exact (hb r hr).2
    · exact lt_trans' (hb r hr).2 (ha s hs).2
  · rcases List.mem_append.1 hr with hr | hr
    · exact h.mode r (hb r hr).1
    · rcases List.mem_append.1 hr with hr | hr
      · by_cases hm : n.mode = 0
        · rw [if_pos hm] at hr; cases hr
        · rw [if_neg hm] at hr
          rw [List.mem_singleton.1 hr]
          exact hm
      · exact h.mode r (ha r hr).1
theorem set_mem {l : List Rw} (h : Tb l) (n : Rw) (r : Rw) : r ∈ setR l n ↔ (r ∈ l ∧ r.path ≠ n.path) ∨ (r = n ∧ n.mode ≠ 0) := by
  rw [set_tb h]
  simp only [List.mem_append, below, above, List.mem_filter]
  constructor
  · rintro (⟨h1, h2⟩ | h1 | ⟨h1, h2⟩)
    · exact .inl ⟨h1, lt_ne h2⟩
    · by_cases hm : n.mode = 0
      · rw [if_pos hm] at h1; cases h1
      · rw [if_neg hm] at h1
        exact .inr ⟨List.mem_singleton.1 h1, hm⟩
    · exact .inl ⟨h1, (lt_ne h2).symm⟩
  · rintro (⟨h1, h2⟩ | ⟨rfl, h1⟩)
    · cases hq : ltB r.path n.path with
      | true => exact .inl ⟨h1, rfl⟩
      | false => exact .inr (.inr ⟨h1, lt_tri hq h2⟩)
    · rw [if_neg h1]
      exact .inr (.inl (by simp))
theorem ent_of {l : List Rw} (h : Tb l) {p : B8} {e : Int × B8} (h1 : ∀ r ∈ l, r.path = p → (r.mode, r.id) = e) (h2 : (∀ r ∈ l, r.path ≠ p) → e = (0, [])) : entG l p = e := by
  by_cases hx : ∃ r ∈ l, r.path = p
  · obtain ⟨r, hr, rfl⟩ := hx
    rw [ent_mem h hr]
    exact h1 r hr rfl
  · have hn : ∀ r ∈ l, r.path ≠ p := fun r hr e => hx ⟨r, hr, e⟩
    rw [ent_none hn, h2 hn]
theorem set_ent {l : List Rw} (h : Tb l) (n : Rw) (h0 : n.mode = 0 → n.id = []) (p : B8) : entG (setR l n) p = if p = n.path then (n.mode, n.id) else entG l p := by
  by_cases hp : p = n.path
  · rw [if_pos hp]
    subst hp
    refine ent_of (set_keeps h n) (fun r hr he => ?_) (fun hn => ?_)
    · rcases (set_mem h n r).1 hr with ⟨-, h2⟩ | ⟨rfl, -⟩
      · exact (h2 he).elim
      · rfl
    · by_cases hm : n.mode = 0
      · rw [hm, h0 hm]
      · exact (hn n ((set_mem h n n).2 (.inr ⟨rfl, hm⟩)) rfl).elim
  · rw [if_neg hp]
    refine ent_of (set_keeps h n) (fun r hr he => ?_) (fun hn => ?_)
    · rcases (set_mem h n r).1 hr with ⟨h1, h2⟩ | ⟨rfl, -⟩
      · rw [← he, ent_mem h h1]
      · exact (hp he.symm).elim
    · exact ent_none fun r hr he => hn r ((set_mem h n r).2 (.inl ⟨hr, fun e => hp (by rw [← he, e])⟩)) he
/-- What differs, done to the one table, makes the other one. -/
def doneR (a : List Rw) (L : List Chg) : List Rw := L.foldl (fun l c => setR l ⟨c.path, c.new.1, c.new.2⟩) a
theorem done_tb : ∀ {L : List Chg} {a : List Rw}, Tb a → Tb (doneR a L)
  | [], a, h => h
  | c :: L, a, h => done_tb (L := L) (set_keeps h _)
theorem done_ent : ∀ {L : List Chg} {a : List Rw} {b : List Rw}, Tb a → (∀ c ∈ L, c.new = entG b c.path) → Tb b → ∀ p, entG (doneR a L) p = if p ∈ L.map (·.path) then entG b p else entG a p
  | [], a, b, h, _, _, p => by simp [doneR]
  | c :: L, a, b, h, hc, hb, p => by
    have hn : c.new = entG b c.path := hc c (by simp)
    have h0 : ∀ (q : B8), (entG b q).1 = 0 → (entG b q).2 = [] := fun q hq => by
      by_cases hx : ∃ r ∈ b, r.path = q
      · obtain ⟨r, hr, rfl⟩ := hx
        rw [ent_mem hb hr] at hq
        exact (hb.mode r hr hq).elim
      · rw [ent_none fun r hr e => hx ⟨r, hr, e⟩]
    have ih := done_ent (L := L) (a := setR a ⟨c.path, c.new.1, c.new.2⟩) (b := b) (set_keeps h _) (fun d hd => hc d (by simp [hd])) hb p
    show entG (doneR (setR a ⟨c.path, c.new.1, c.new.2⟩) L) p = _
    rw [ih, set_ent h _ (fun e => by rw [hn] at e ⊢; exact h0 _ e)]
    by_cases h1 : p ∈ L.map (·.path)
    · rw [if_pos h1, if_pos (by rw [List.map_cons]; exact List.mem_cons_of_mem _ h1)]
    · rw [if_neg h1]
      by_cases h2 : p = c.path
      · rw [if_pos h2, if_pos (by rw [h2]; simp), h2, hn]
      · rw [if_neg h2, if_neg (by rw [List.map_cons]; simp only [List.mem_cons]; exact fun e => e.elim h2 h1)]
theorem stat_path {a b : List Rw} {p : B8} : p ∈ (statM a b).map (·.path) ↔ p ∈ pathsT a b ∧ entG a p ≠ entG b p := by
  unfold statM difL
  rw [List.map_map]
  simp only [List.mem_map, List.mem_filter, bne_iff_ne, Function.comp_apply]
  constructor
  · rintro ⟨q, h, rfl⟩; exact h
  · intro h; exact ⟨p, h, rfl⟩
theorem stat_done {a b : List Rw} (ha : Tb a) (hb : Tb b) : doneR a (statM a b) = b := by
  refine tb_ext (done_tb ha) hb (fun p => ?_)
  rw [done_ent ha (fun c hc => ?_) hb]
  · by_cases h1 : p ∈ (statM a b).map (·.path)
    · rw [if_pos h1]
    · rw [if_neg h1]
      rw [stat_path] at h1
      by_cases h2 : p ∈ pathsT a b
      · exact Classical.byContradiction fun h3 => h1 ⟨h2, h3⟩
      · unfold pathsT at h2
        rw [uniqT_mem, List.mem_append] at h2
        rw [ent_none fun r hr e => h2 (.inl (List.mem_map.2 ⟨r, hr, e⟩)), ent_none fun r hr e => h2 (.inr (List.mem_map.2 ⟨r, hr, e⟩))]
  · unfold statM difL at hc
    obtain ⟨q, -, rfl⟩ := List.mem_map.1 hc
    rfl
theorem paths_comm (a b : List Rw) : pathsT b a = pathsT a b := by
  unfold pathsT
  exact uniqT_of (uniqT_rise _) (fun x => by rw [uniqT_mem]; simp [or_comm])
theorem stat_turn (a b : List Rw) : statM b a = (statM a b).map fun c => ⟨c.path, c.new, c.old⟩ := by
  unfold statM difL
  rw [paths_comm, List.map_map]
  congr 1
  refine List.filter_congr fun p _ => ?_
  rw [Bool.eq_iff_iff, bne_iff_ne, bne_iff_ne]
  exact ne_comm
theorem stat_self (a : List Rw) : statM a a = [] := by
  unfold statM difL
  rw [List.filter_eq_nil_iff.2 (fun p _ => by simp)]
  rfl
theorem stat_rise (a b : List Rw) : riseT ((statM a b).map (·.path)) := by
  unfold statM difL
  rw [List.map_map]
  have : (fun c : Chg => c.path) ∘ (fun p => (⟨p, entG a p, entG b p⟩ : Chg)) = id := rfl
  rw [this, List.map_id]
  exact List.Pairwise.sublist List.filter_sublist (uniqT_rise _)

end Go.Proofs.YtdhgmpibjneplaaGreatDoor

/-! Tables' rows in memory. No conditions of its own. -/
namespace Go.Proofs.YtdhgmpibjneplaaGreatDoor
open Go Go.RowKit

def rwC (r : Rw) : List Value := [S8 r.path, .int .i64 r.mode, S8 r.id]
/-- The slice holds these rows. -/
def IsRws (w : World) (v : Value) (l : List Rw) : Prop := Row w v l.length (l.flatMap rwC)
theorem IsRws.ext {w w' : World} {v : Value} {l : List Rw} (h : IsRws w v l) (hx : Ext w w') : IsRws w' v l := Row.ext h hx
theorem IsRws.nil (w : World) : IsRws w (.slice none 0 0) [] := Row.nil w
theorem flat_rw : ∀ (l : List Rw) (k : Nat) (x : Rw), l[k]? = some x → (l.flatMap rwC)[3 * k]? = some (S8 x.path) ∧ (l.flatMap rwC)[3 * k + 1]? = some (.int .i64 x.mode) ∧ (l.flatMap rwC)[3 * k + 2]? = some (S8 x.id)
  | [], k, x, h => by simp at h
  | y :: l, 0, x, h => by
    simp only [List.getElem?_cons_zero, Option.some.injEq] at h
    subst h
    exact ⟨rfl, rfl, rfl⟩
  | y :: l, k + 1, x, h => by
    have ih := flat_rw l k x (by simpa using h)
    have e : (y :: l).flatMap rwC = S8 y.path :: .int .i64 y.mode :: S8 y.id :: l.flatMap rwC := by rw [List.flatMap_cons]; rfl
    rw [e, show 3 * (k + 1) = 3 * k + 1 + 1 + 1 by omega]
    exact ih
theorem IsRws.get {w : World} {v : Value} {l : List Rw} (h : IsRws w v l) : ∃ a cap, v = .slice a l.length cap ∧ l.length ≤ cap ∧ l.length ≤ 140737488355328 ∧ cap ≤ 9223372036854775807 ∧
    ∀ (k : Nat) x, l[k]? = some x → ∃ b o, a = some ⟨b, o, none⟩ ∧ w.cell? ⟨b, o + 3 * k, none⟩ = some (S8 x.path) ∧ w.cell? ⟨b, o + 3 * k + 1, none⟩ = some (.int .i64 x.mode) ∧ w.cell? ⟨b, o + 3 * k + 2, none⟩ = some (S8 x.id) := by
  obtain ⟨a, cap, rfl, h1, h2, h3, h4⟩ := h
  refine ⟨a, cap, rfl, h1, h3, h2, fun k x hk => ?_⟩
  obtain ⟨e0, e1, e2⟩ := flat_rw l k x hk
  obtain ⟨b, o, ha, hc⟩ := h4 (fun h0 => by rw [h0] at e0; simp at e0)
  exact ⟨b, o, ha, hc _ _ e0, by have := hc _ _ e1; rwa [← Nat.add_assoc] at this, by have := hc _ _ e2; rwa [← Nat.add_assoc] at this⟩

end Go.Proofs.YtdhgmpibjneplaaGreatDoor

/-! Tables: what may be one, entries, paths, what is set into a list that rises; in plain Lean. Conditions: as each theorem states. -/
namespace Go.Proofs.YtdhgmpibjneplaaGreatDoor
open Go Go.RowKit

def zRw : Rw := ⟨[], 0, []⟩
theorem ent_at {l : List Rw} {k : Nat} {x : Rw} (h : ∀ r ∈ l.take k, r.path ≠ x.path) (hx : l[k]? = some x) : entG l x.path = (x.mode, x.id) := by
  obtain ⟨hlt, he⟩ := List.getElem?_eq_some_iff.1 hx
  have e : l = l.take k ++ x :: l.drop (k + 1) := by
    rw [← he, List.getElem_cons_drop, List.take_append_drop]
  unfold entG
  rw [e, List.find?_append, List.find?_eq_none.2 (fun r hr => by simpa using h r hr)]
  simp
theorem ne_snoc {l : List Rw} {k : Nat} {x : Rw} {p : B8} (h : ∀ r ∈ l.take k, r.path ≠ p) (hx : l[k]? = some x) (hp : x.path ≠ p) : ∀ r ∈ l.take (k + 1), r.path ≠ p := by
  rw [List.take_add_one, hx]
  intro r hr
  rcases List.mem_append.1 hr with hr | hr
  · exact h r hr
  · obtain rfl : r = x := by simpa using hr
    exact hp

/-! ### Entries -/
def entStep (m : Files) (r : Rw) : Files := if (look m r.path).isSome = true then m else putF m r.path ⟨r.mode, r.id, 0⟩
def entF (l : List Rw) : Files := l.foldl entStep []
theorem take_snocR {α : Type} {l : List α} {k : Nat} {x : α} (h : l[k]? = some x) : l.take (k + 1) = l.take k ++ [x] := by rw [List.take_add_one, h]; rfl
theorem entF_snoc {l : List Rw} {k : Nat} {x : Rw} (h : l[k]? = some x) : entF (l.take (k + 1)) = entStep (entF (l.take k)) x := by
  unfold entF
  rw [take_snocR h, List.foldl_append]
  rfl
theorem entStep_len (m : Files) (r : Rw) : (entStep m r).length ≤ m.length + 1 := by
  unfold entStep
  split
  · omega
  · exact putF_length _ _ _
theorem entF_len (l : List Rw) : (entF l).length ≤ l.length := by
  have h : ∀ (l : List Rw) (m : Files), (l.foldl entStep m).length ≤ m.length + l.length := by
    intro l
    induction l with
    | nil => intro m; exact Nat.le_refl _
    | cons r l ih =>
      intro m
      have h1 := ih (entStep m r)
      have h2 := entStep_len m r
      rw [List.foldl_cons, List.length_cons]
      omega
  have := h l []
  rw [List.length_nil, Nat.zero_add] at this
  exact this
theorem entF_look (l : List Rw) (p : B8) : look (entF l) p = (l.find? fun r => r.path == p).map fun r => ⟨r.mode, r.id, 0⟩ := by
  have h : ∀ (l : List Rw) (m : Files), look (l.foldl entStep m) p = (look m p).or ((l.find? fun r => r.path == p).map fun r => ⟨r.mode, r.id, 0⟩) := by
    intro l
    induction l with
    | nil => intro m; simp
    | cons r l ih =>
      intro m
      rw [List.foldl_cons, ih, List.find?_cons]
      by_cases hr : r.path = p
      · subst hr
        simp only [BEq.rfl, Option.map_some]
        unfold entStep
        by_cases hs : (look m r.path).isSome = true
        · rw [if_pos hs]
          obtain ⟨f, hf⟩ := Option.isSome_iff_exists.1 hs
          rw [hf]; rfl
        · rw [if_neg hs, look_putF_same]
          have : look m r.path = none := by simpa using hs
          rw [this]; rfl
      · rw [show (r.path == p) = false by simpa using hr]
        have : look (entStep m r) p = look m p := by
          unfold entStep
          split
          · rfl
          · exact look_putF_ne hr
        rw [this]
  have := h l []
  rw [show look [] p = none from rfl] at this
  exact this
theorem entF_ent (l : List Rw) (p : B8) : entG l p = match look (entF l) p with
  | some f => (f.mode, f.data)
  | none => (0, []) := by
  rw [entF_look]
  unfold entG
  cases l.find? fun r => r.path == p <;> rfl
/-! ### Paths -/
def pathsLs (ls : List (List Rw)) : List B8 := ls.flatMap fun l => l.map (·.path)
theorem pathsLs2 (a b : List Rw) : uniqT (pathsLs [a, b]) = pathsT a b := by unfold pathsLs pathsT; simp
theorem pathsLs_snoc {ls : List (List Rw)} {k : Nat} {l : List Rw} (h : ls[k]? = some l) : pathsLs (ls.take (k + 1)) = pathsLs (ls.take k) ++ l.map (·.path) := by
  unfold pathsLs
  rw [take_snocR h, List.flatMap_append]
  simp
def statStep (a b : List Rw) (p : B8) : List Chg := if (entG a p != entG b p) = true then [⟨p, entG a p, entG b p⟩] else []
theorem difL_snoc {a b : List Rw} {l : List B8} {k : Nat} {p : B8} (h : l[k]? = some p) : difL a b (l.take (k + 1)) = difL a b (l.take k) ++ statStep a b p := by
  unfold difL statStep
  rw [take_snocR h, List.filter_append, List.map_append, List.filter_cons, List.filter_nil]
  split <;> simp_all
theorem difL_len (a b : List Rw) (l : List B8) : (difL a b l).length ≤ l.length := by
  unfold difL
  rw [List.length_map]
  exact List.length_filter_le _ _

/-! ### A text set into a list that rises -/
theorem rise_lt {U : List B8} (h : riseT U) {i j : Nat} {x y : B8} (hx : U[i]? = some x) (hy : U[j]? = some y) (hij : i < j) : ltB x y = true := by
  obtain ⟨h1, rfl⟩ := List.getElem?_eq_some_iff.1 hx
  obtain ⟨h2, rfl⟩ := List.getElem?_eq_some_iff.1 hy
  exact List.pairwise_iff_getElem.1 h i j h1 h2 hij
theorem rise_stop {U : List B8} {k : Nat} {s : B8} (h : riseT U) (h0 : k = 0 ∨ ∃ p, U[k - 1]? = some p ∧ ltB p s = true) : ∀ y ∈ U.take k, ltB y s = true := by
  intro y hy
  obtain ⟨j, hj, rfl⟩ := List.mem_iff_getElem.1 hy
  rw [List.length_take] at hj
  rw [List.getElem_take]
  rcases h0 with h0 | ⟨p, hp, hps⟩
  · omega
  · have hj2 : U[j]? = some U[j] := List.getElem?_eq_getElem (by omega)
    by_cases hjk : j = k - 1
    · subst hjk
      rw [hp] at hj2
      rw [← Option.some.inj hj2]
      exact hps
    · exact lt_trans' (rise_lt h hj2 hp (by omega)) hps
theorem drop_step {U : List B8} {j : Nat} {p s : B8} (hp : U[j]? = some p) (hps : ltB p s = false) (h : ∀ y ∈ U.drop (j + 1), ltB y s = false) : ∀ y ∈ U.drop j, ltB y s = false := by
  obtain ⟨hl, rfl⟩ := List.getElem?_eq_some_iff.1 hp
  rw [List.drop_eq_getElem_cons hl]
  intro y hy
  rcases List.mem_cons.1 hy with rfl | hy
  · exact hps
  · exact h y hy
theorem drop_above {U : List B8} {k : Nat} {s : B8} (hr : riseT U) (h : ∀ y ∈ U.drop k, ltB y s = false) (hk : ∀ q, U[k]? = some q → q ≠ s) : ∀ y ∈ U.drop k, ltB s y = true := by
  intro y hy
  obtain ⟨j, hj, rfl⟩ := List.mem_iff_getElem.1 hy
  rw [List.length_drop] at hj
  have hkl : k < U.length := by omega
  have hq : U[k]? = some U[k] := List.getElem?_eq_getElem hkl
  have h0 : ltB s U[k] = true := lt_tri (h _ (by rw [List.drop_eq_getElem_cons hkl]; exact List.mem_cons_self)) (hk _ hq)
  rw [List.getElem_drop]
  by_cases hj0 : j = 0
  · subst hj0; exact h0
  · exact lt_trans' h0 (rise_lt hr hq (List.getElem?_eq_getElem (by omega)) (by omega))

/-! ### What may be a table, by the document -/
def parL (s : B8) (k : Nat) : List B8 := ((List.range k).filter fun i => s.getD i 0 == 47).map s.take
def parR (s : B8) : List B8 := if pathB s = true then parL s s.length else []
theorem parL_snoc (s : B8) (k : Nat) : parL s (k + 1) = parL s k ++ (if (s.getD k 0 == 47) = true then [s.take k] else []) := by
  unfold parL
  rw [List.range_succ, List.filter_append, List.map_append, List.filter_cons, List.filter_nil]
  split <;> rfl
theorem parL_len (s : B8) (k : Nat) : (parL s k).length ≤ k := by
  unfold parL
  rw [List.length_map]
  exact Nat.le_trans (List.length_filter_le _ _) (Nat.le_of_eq List.length_range)
def mayR0 (l : List Rw) (k : Nat) (x : Rw) : Bool := pathB (dirW ++ x.path) && (decide (1 ≤ x.mode) && (decide (x.mode ≤ 3) && (validB x.id && (decide (k = 0) || ltB (l.getD (k - 1) zRw).path x.path))))
def mayRow (l : List Rw) (k : Nat) (x : Rw) : Bool := mayR0 l k x && (parR x.path).all fun p => (entG l p).1 == 0
def mayT (l : List Rw) : Bool := decide (l.length ≤ 256) && (List.range l.length).all fun k => mayRow l k (l.getD k zRw)
theorem getD_at {l : List Rw} {k : Nat} {x : Rw} (h : l[k]? = some x) : l.getD k zRw = x := by rw [List.getD_eq_getElem?_getD, h]; rfl
theorem may_no {l : List Rw} {k : Nat} {x : Rw} (h : l[k]? = some x) (hb : mayRow l k x = false) : mayT l = false := by
  unfold mayT
  have hl := (List.getElem?_eq_some_iff.1 h).1
  have : ((List.range l.length).all fun k => mayRow l k (l.getD k zRw)) = false := by
    rw [List.all_eq_false]
    exact ⟨k, List.mem_range.2 hl, by rw [getD_at h, hb]; simp⟩
  rw [this, Bool.and_false]
theorem may_no0 {l : List Rw} {k : Nat} {x : Rw} (h : l[k]? = some x) (hb : mayR0 l k x = false) : mayT l = false := may_no h (by unfold mayRow; rw [hb]; rfl)
theorem may_noP {l : List Rw} {k : Nat} {x : Rw} {p : B8} (h : l[k]? = some x) (hp : p ∈ parR x.path) (h0 : (entG l p).1 ≠ 0) : mayT l = false := by
  refine may_no h ?_
  unfold mayRow
  have : ((parR x.path).all fun p => (entG l p).1 == 0) = false := by
    rw [List.all_eq_false]
    exact ⟨p, hp, by simpa using h0⟩
  rw [this, Bool.and_false]
theorem may_yes {l : List Rw} (h0 : l.length ≤ 256) (h : ∀ k x, l[k]? = some x → mayRow l k x = true) : mayT l = true := by
  unfold mayT
  rw [decide_eq_true h0, Bool.true_and, List.all_eq_true]
  intro k hk
  have hk := List.mem_range.1 hk
  have hx : l[k]? = some l[k] := List.getElem?_eq_getElem hk
  rw [getD_at hx]
  exact h _ _ hx
theorem may_row {l : List Rw} (h : mayT l = true) {k : Nat} {x : Rw} (hx : l[k]? = some x) : mayRow l k x = true := by
  cases hq : mayRow l k x with
  | true => rfl
  | false => rw [may_no hx hq] at h; cases h
theorem may_tb {l : List Rw} (h : mayT l = true) : Tb l := by
  have h0 : ∀ k x, l[k]? = some x → mayR0 l k x = true := fun k x hx => by
    have := may_row h hx
    unfold mayRow at this
    exact ((Bool.and_eq_true _ _).mp this).1
  have hs : ∀ k x y, l[k]? = some x → l[k + 1]? = some y → ltB x.path y.path = true := fun k x y hx hy => by
    have h1 := h0 _ _ hy
    unfold mayR0 at h1
    simp only [Bool.and_eq_true, Bool.or_eq_true, decide_eq_true_eq] at h1
    have h2 := h1.2.2.2.2
    rw [show k + 1 - 1 = k by omega, getD_at hx] at h2
    rcases h2 with h2 | h2
    · omega
    · exact h2
  have hlt : ∀ (d k : Nat) (x y : Rw), l[k]? = some x → l[k + 1 + d]? = some y → ltB x.path y.path = true := by
    intro d
    induction d with
    | zero => exact hs
    | succ d ih =>
      intro k x y hx hy
      have hm := (List.getElem?_eq_some_iff.1 hy).1
      have hz : l[k + 1 + d]? = some l[k + 1 + d] := List.getElem?_eq_getElem (by omega)
      exact lt_trans' (ih k x _ hx hz) (hs (k + 1 + d) _ y hz hy)
  refine ⟨?_, fun r hr => ?_⟩
  · refine List.pairwise_iff_getElem.2 fun i j hi hj hij => ?_
    rw [List.length_map] at hi hj
    rw [List.getElem_map, List.getElem_map]
    exact hlt (j - i - 1) i _ _ (List.getElem?_eq_getElem hi) (by rw [show i + 1 + (j - i - 1) = j by omega]; exact List.getElem?_eq_getElem hj)
  · obtain ⟨k, hk, rfl⟩ := List.mem_iff_getElem.1 hr
    have h1 := h0 k _ (List.getElem?_eq_getElem hk)
    unfold mayR0 at h1
    simp only [Bool.and_eq_true, decide_eq_true_eq] at h1
    have := h1.2.1
    omega

/-! ### Set, row by row -/
theorem setR_snoc {l : List Rw} {k : Nat} {x n : Rw} {b : Bool} (h : l[k]? = some x) : (l.take (k + 1)).foldl (setStep n) ([], b) = setStep n ((l.take k).foldl (setStep n) ([], b)) x := by
  rw [take_snocR h, List.foldl_append]
  rfl
theorem setStep_len (n : Rw) (x : List Rw × Bool) (r : Rw) : (setStep n x r).1.length ≤ x.1.length + 2 := by
  unfold setStep
  dsimp only
  rw [List.length_append, List.length_append]
  have h1 : ((if (!x.2 && !ltB r.path n.path) = true then [n] else []) : List Rw).length ≤ 1 := by split <;> simp
  have h2 : ((if r.path = n.path then [] else [r]) : List Rw).length ≤ 1 := by split <;> simp
  omega

end Go.Proofs.YtdhgmpibjneplaaGreatDoor

/-! Words of 32 bits: what the machine's operations make of them. Conditions: as each theorem states. -/
namespace Go.Proofs.YtdhgmpibjneplaaGreatDoor
open Go Go.RowKit

abbrev U32 (x : UInt32) : Value := .int .u32 (x.toNat : Int)
theorem bv_u32 (x : UInt32) : BitVec.ofInt 32 (x.toNat : Int) = x.toBitVec := by
  apply BitVec.eq_of_toNat_eq
  have := x.toNat_lt
  rw [BitVec.toNat_ofInt]
  show ((x.toNat : Int) % 4294967296).toNat = x.toNat
  omega
theorem wrap_u32 (n : Nat) (h : n < 4294967296) : IntKind.wrap .u32 (n : Int) = (n : Int) := by
  unfold IntKind.wrap IntKind.bits IntKind.signed
  simp
  omega
theorem bits_and32 (x y : UInt32) : bits .and .u32 (x.toNat : Int) (y.toNat : Int) = ((x &&& y).toNat : Int) := by
  have h := (x &&& y).toNat_lt
  unfold bits
  show IntKind.wrap .u32 ((BitVec.ofInt 32 (x.toNat : Int) &&& BitVec.ofInt 32 (y.toNat : Int)).toNat : Int) = _
  rw [bv_u32, bv_u32]
  exact wrap_u32 _ h
theorem bits_or32 (x y : UInt32) : bits .or .u32 (x.toNat : Int) (y.toNat : Int) = ((x ||| y).toNat : Int) := by
  have h := (x ||| y).toNat_lt
  unfold bits
  show IntKind.wrap .u32 ((BitVec.ofInt 32 (x.toNat : Int) ||| BitVec.ofInt 32 (y.toNat : Int)).toNat : Int) = _
  rw [bv_u32, bv_u32]
  exact wrap_u32 _ h
theorem bits_xor32 (x y : UInt32) : bits .xor .u32 (x.toNat : Int) (y.toNat : Int) = ((x ^^^ y).toNat : Int) := by
  have h := (x ^^^ y).toNat_lt
  unfold bits
  show IntKind.wrap .u32 ((BitVec.ofInt 32 (x.toNat : Int) ^^^ BitVec.ofInt 32 (y.toNat : Int)).toNat : Int) = _
  rw [bv_u32, bv_u32]
  exact wrap_u32 _ h
theorem bits_not32 (x : UInt32) : bits .xor .u32 4294967295 (x.toNat : Int) = ((~~~x).toNat : Int) := by
  have h := (~~~x).toNat_lt
  unfold bits
  show IntKind.wrap .u32 ((BitVec.ofInt 32 4294967295 ^^^ BitVec.ofInt 32 (x.toNat : Int)).toNat : Int) = _
  rw [bv_u32]
  have he : (BitVec.ofInt 32 4294967295 ^^^ x.toBitVec) = ~~~ x.toBitVec := by
    rw [show BitVec.ofInt 32 4294967295 = BitVec.allOnes 32 from rfl, BitVec.allOnes_xor]
  rw [he]
  exact wrap_u32 _ h
theorem add32 (x y : UInt32) : ((x.toNat : Int) + (y.toNat : Int)) % 4294967296 = ((x + y).toNat : Int) := by
  rw [UInt32.toNat_add]
  omega
theorem shr32 (x : UInt32) (k : Nat) (hk : k < 32) : (x.toNat : Int) / (2 ^ k : Int) = ((x >>> UInt32.ofNat k).toNat : Int) := by
  have hn : (UInt32.ofNat k).toNat = k := by simp; omega
  rw [UInt32.toNat_shiftRight, hn, Nat.mod_eq_of_lt hk, Nat.shiftRight_eq_div_pow]
  simp
theorem shl32 (x : UInt32) (k : Nat) (hk : k < 32) : ((x.toNat : Int) * (2 ^ k : Int)) % 4294967296 = ((x <<< UInt32.ofNat k).toNat : Int) := by
  have hn : (UInt32.ofNat k).toNat = k := by simp; omega
  rw [UInt32.toNat_shiftLeft, hn, Nat.mod_eq_of_lt hk, Nat.shiftLeft_eq]
  simp
end Go.Proofs.YtdhgmpibjneplaaGreatDoor

/-! sha.Hex, Unhex, Valid: bytes as hexadecimal digits, and back. Conditions: at most 30000000 of them. -/
namespace Go.Proofs.YtdhgmpibjneplaaGreatDoor
open Go Go.RowKit

theorem and15 : ∀ n : Nat, n < 256 → bits BinOp.and IntKind.u8 (n : Int) 15 = ((n % 16 : Nat) : Int) := by decide +kernel
theorem hex_hi (y : UInt8) (h : (y.toNat : Int) / 16 < 16) : Value.int .u8 ((digitsB.toArray[((y.toNat : Int) / 16).toNat]'(by simp [digitsB]; omega)).toNat : Int) = .int .u8 (digitsB.getD (y.toNat / 16) 0).toNat := by
  have e : ((y.toNat : Int) / 16).toNat = y.toNat / 16 := by omega
  have h16 : y.toNat / 16 < digitsB.length := by have := y.toNat_lt; simp [digitsB]; omega
  simp only [e, List.getElem_toArray, List.getD_eq_getElem?_getD, h16, List.getElem?_eq_getElem, Option.getD_some]
theorem hex_lo (y : UInt8) (h : ((y.toNat % 16 : Nat) : Int) < 16) : Value.int .u8 ((digitsB.toArray[(((y.toNat % 16 : Nat) : Int)).toNat]'(by simp [digitsB]; omega)).toNat : Int) = .int .u8 (digitsB.getD (y.toNat % 16) 0).toNat := by
  have e : (((y.toNat % 16 : Nat) : Int)).toNat = y.toNat % 16 := by omega
  have h16 : y.toNat % 16 < digitsB.length := by simp [digitsB]; omega
  simp only [e, List.getElem_toArray, List.getD_eq_getElem?_getD, h16, List.getElem?_eq_getElem, Option.getD_some]
theorem hex_snoc {l : B8} {k : Nat} (h : k < l.length) {y : UInt8} (hy : l.getD k 0 = y) : hexM (l.take (k + 1)) = hexM (l.take k) ++ [digitsB.getD (y.toNat / 16) 0, digitsB.getD (y.toNat % 16) 0] := by
  rw [List.take_succ_eq_append_getElem h]
  have : l[k] = y := by rw [← hy]; simp [h]
  simp [hexM, this]

set_option maxRecDepth 100000 in
set_option maxHeartbeats 400000 in
theorem hex_any (v : Value) (l : B8) (w : World) (hv : IsBytes w v l) (hl : l.length ≤ 30000000) :
    Calls Tryz.prog 96 #[v] w fun e w' => e = .returned (S8 (hexM l)) ∧ Ext w w' := by
  obtain ⟨a, cap, rfl, h1, h2, h3, h4⟩ := hv.get
  have H4 : Hid _ := h4
  clear h4 hv
  go_enter Tryz.func96, Tryz.ntmps96
  go_wp2
  go_loopw [3, 8] (fun v i wr => ∃ k : Nat, k ≤ l.length ∧ i = .int .i64 k ∧ wr.ownsRow w.heap.size 5 1 v (2 * k) ((hexM (l.take k)).map fun x => .int .u8 x.toNat) ∧ Ext w wr) (fun _ i _ => l.length - (intOf i).toNat)
  case atStart => exact ⟨0, Nat.zero_le _, rfl, World.ownsRow_nil _ _ _ _, Ext.refl _⟩
  case round =>
    obtain ⟨k, hk, rfl, hown, hx⟩ := hrel
    by_cases hlt : k < l.length
    · obtain ⟨b, o, rfl, hc⟩ := H4.out k hlt
      have hck := hx.cell (hc k hlt)
      clear hc
      generalize hy : l.getD k 0 = y at hck
      have HY : Hid _ := hy
      clear hy
      have hy256 : y.toNat < 256 := y.toNat_lt
      have ha : bits BinOp.and IntKind.u8 (y.toNat : Int) 15 = ((y.toNat % 16 : Nat) : Int) := and15 _ hy256
      have HA : Hid _ := ha
      clear ha
      go_wp2
      apply wp_region_mix 8 [_, _, _, .int .u8 (digitsB.getD (y.toNat / 16) 0).toNat, _, _, .int .u8 (digitsB.getD (y.toNat % 16) 0).toNat, undef] [none, none, none, none, none, none, none, some (fun u w' => ∃ g, u = .slice (some ⟨g, 0, none⟩) 2 2 ∧ wr.heap.size ≤ g ∧ w'.heap[g]? = some (.cells #[.int .u8 (digitsB.getD (y.toNat / 16) 0).toNat, .int .u8 (digitsB.getD (y.toNat % 16) 0).toNat] 5 (0, 0)))] [[], [], [1], [2], [], [4], [5], [3, 6]] (by kernel_rfl) (by kernel_rfl) (by simp [mixV])
      · refine ⟨?_, trivial⟩
        · exact fun u w w' he ⟨g, h1, h2, h3⟩ => ⟨g, h1, h2, (he.block g (Array.getElem?_eq_some_iff.1 h3).1).trans h3⟩
      · simp (maxSteps := 1000000) only [List.take_succ_cons, List.take_zero, oblFrom, stepObl, fillFrom, Act.put, List.setIfInBounds_toArray, List.set_cons_zero, List.set_cons_succ, knows, getV, mixV, List.getD_cons_zero, List.getD_cons_succ, and_true, true_and, forall_const]
        refine ⟨?_, ?_, ?_, ?_, ?_, ?_, ?_, ?_⟩
        · intro xs wq hq R hR
          go_simp
          exact hR _ _ (Ext.refl _) rfl
        · intro xs wq hq R hR
          go_simp
          exact hR _ _ (Ext.refl _) rfl
        · intro xs wq hq hk R hR
          go_simp
          exact hR _ _ (Ext.refl _) rfl
        · intro xs wq hq hk R hR
          go_simp
          rw [dif_pos ⟨by omega, by omega⟩]
          exact hR _ _ (Ext.refl _) (hex_hi y (by omega))
        · intro xs wq hq R hR
          go_simp
          exact hR _ _ (Ext.refl _) rfl
        · intro xs wq hq hk R hR
          go_simp
          exact hR _ _ (Ext.refl _) rfl
        · intro xs wq hq hk R hR
          go_simp
          rw [HA.out, dif_pos ⟨by omega, by omega⟩]
          exact hR _ _ (Ext.refl _) (hex_lo y (by omega))
        · intro xs wq hq hk R hR
          obtain ⟨hk0, hk1⟩ := hk
          go_simp
          exact hR _ _ ((Ext.refl _).alloc _) ⟨_, rfl, hq.size, alloc_at _ _⟩
      intro xs w2 hx2 hk
      simp only [heldV, Nat.zero_add, Nat.reduceAdd, and_true] at hk
      obtain ⟨q0, q1, q2, q3, q4, q5, q6, q7⟩ := hk
      simp (maxSteps := 1000000) only [List.take_succ_cons, List.take_zero, List.drop_succ_cons, List.drop_zero, fillFrom, Act.put, List.setIfInBounds_toArray, List.set_cons_zero, List.set_cons_succ, Nat.zero_add, Nat.reduceAdd, q0, q1, q2, q3, q4, q5, q6]
      clear q0 q1 q2 q3 q4 q5 q6
      generalize xs 7 = x7 at *
      obtain ⟨g, rfl, hg1, hg2⟩ := q7
      have hown2 := owns_ext hown hx2
      have hlen := hex_len (l.take k)
      go_wp2_with (at_builtin; refine app_u8 rfl _ _ rfl w.heap.size _ (2 * k) _ rfl hown2 g 2 2 [digitsB.getD (y.toNat / 16) 0, digitsB.getD (y.toNat % 16) 0] rfl rfl hg2 (by omega) (by have := (hx.trans hx2).size; exact this) ?_; intro v' w3 hown3 hg3)
      go_roundw
      case rel => exact ⟨k + 1, by omega, by go_num, by rw [hex_snoc hlt HY.out]; exact hown3, owns_ext_app (hx.trans hx2) hown2 hg3⟩
      case measure => simp [intOf]; omega
    · have hkk : k = l.length := by omega
      subst hkk
      rw [List.take_length] at hown
      have hlen := hex_len l
      have hcv := conv_bytes (l := hexM l) (by unfold IsBytes; rw [hlen]; exact Row.of_owns hown (by omega))
      clear hlen
      go_wp2
      go_ret
      exact ⟨rfl, hx⟩

/-! ### Unhex -/
theorem index_dig : ∀ n : Fin 256, Lib.indexByte digitsB (UInt8.ofNat n) = if digM (UInt8.ofNat n) < 16 then (digM (UInt8.ofNat n) : Int) else -1 := by decide +kernel
theorem index_digM (c : UInt8) : Lib.indexByte digitsB c = if digM c < 16 then (digM c : Int) else -1 := by
  have := index_dig ⟨c.toNat, c.toNat_lt⟩
  simpa using this
theorem or16 : ∀ a b : Fin 16, bits BinOp.or IntKind.i64 ((a.val : Int) * 16) (b.val : Int) = (a.val : Int) * 16 + b.val := by decide +kernel
theorem idx_val {l : B8} {i : Int} {n : Nat} {x : UInt8} (hi : i = n) (hx : l.getD n 0 = x) (h : i.toNat < (⟨l.toArray⟩ : ByteArray).size) : Value.int .u8 (((⟨l.toArray⟩ : ByteArray)[i.toNat]).toNat : Int) = .int .u8 x.toNat := by
  subst hi
  have h' : n < l.length := h
  have : (⟨l.toArray⟩ : ByteArray)[(n : Int).toNat] = l[n] := rfl
  rw [this, ← hx]
  simp [h']
theorem ix_val (l : B8) (x : UInt8) {r : Int} (hr : Lib.indexByte l x = r) : Value.int .i64 (Lib.indexByte l ((x.toNat : Int).toNat.toUInt8)) = .int .i64 r := by
  rw [← hr]; simp
theorem unhex_two (x y : UInt8) (l : B8) : unhexM (x :: y :: l) = if digM x < 16 ∧ digM y < 16 then (unhexM l).map (UInt8.ofNat (16 * digM x + digM y) :: ·) else none := rfl
theorem unhex_append : ∀ (a b : B8), a.length % 2 = 0 → unhexM (a ++ b) = (unhexM a).bind fun x => (unhexM b).map (x ++ ·)
  | [], b, _ => by simp [unhexM]
  | [x], b, h => by simp at h
  | x :: y :: a, b, h => by
    have ih := unhex_append a b (by simp only [List.length_cons] at h; omega)
    rw [List.cons_append, List.cons_append, unhex_two, unhex_two, ih]
    by_cases hd : digM x < 16 ∧ digM y < 16
    · rw [if_pos hd, if_pos hd]
      cases unhexM a with
      | none => rfl
      | some r => cases unhexM b <;> rfl
    · rw [if_neg hd, if_neg hd]
      rfl
theorem unhex_odd {l : B8} (h : l.length % 2 = 1) : unhexM l = none := by
  cases hu : unhexM l with
  | none => rfl
  | some b => have := (unhex_len l hu).1; omega
theorem unhex_snoc {l bs : B8} {k : Nat} {x y : UInt8} (h : 2 * k + 1 < l.length) (hx : l.getD (2 * k) 0 = x) (hy : l.getD (2 * k + 1) 0 = y) (hu : unhexM (l.take (2 * k)) = some bs) :
    l.take (2 * (k + 1)) = l.take (2 * k) ++ [x, y] ∧ unhexM (l.take (2 * (k + 1))) = (if digM x < 16 ∧ digM y < 16 then some (bs ++ [UInt8.ofNat (16 * digM x + digM y)]) else none) := by
  have he : l.take (2 * (k + 1)) = l.take (2 * k) ++ [x, y] := by
    have h1 : l[2 * k]? = some x := by rw [← hx]; simp [List.getD_eq_getElem?_getD, show 2 * k < l.length by omega]
    have h2 : l[2 * k + 1]? = some y := by rw [← hy]; simp [List.getD_eq_getElem?_getD, h]
    rw [show 2 * (k + 1) = 2 * k + 1 + 1 by omega, List.take_add_one, List.take_add_one, h1, h2, List.append_assoc]
    rfl
  refine ⟨he, ?_⟩
  rw [he, unhex_append _ _ (by rw [List.length_take]; omega), hu]
  by_cases hd : digM x < 16 ∧ digM y < 16
  · rw [if_pos hd]
    simp [unhexM, hd.1, hd.2]
  · rw [if_neg hd]
    simp only [unhexM, if_neg hd]
    rfl
theorem unhex_none {l bs : B8} {k : Nat} {x y : UInt8} (h : 2 * k + 1 < l.length) (hx : l.getD (2 * k) 0 = x) (hy : l.getD (2 * k + 1) 0 = y) (hu : unhexM (l.take (2 * k)) = some bs) (hd : ¬ (digM x < 16 ∧ digM y < 16)) : unhexM l = none := by
  obtain ⟨h1, h2⟩ := unhex_snoc h hx hy hu
  rw [if_neg hd] at h2
  have := unhex_append (l.take (2 * (k + 1))) (l.drop (2 * (k + 1))) (by rw [List.length_take]; omega)
  rw [List.take_append_drop, h2] at this
  exact this
def UnhexPost (l : B8) (w : World) (e : Ending) (w' : World) : Prop :=
  (match unhexM l with
    | some b => ∃ v, e = .returned (.tuple #[v, .bool true]) ∧ IsBytes w' v b
    | none => e = .returned (.tuple #[.slice none 0 0, .bool false])) ∧ Ext w w'

set_option maxRecDepth 100000 in
set_option maxHeartbeats 800000 in
theorem unhex_any (l : B8) (w : World) (hl : l.length ≤ 30000000) :
    Calls Tryz.prog 105 #[S8 l] w (UnhexPost l w) := by
  have hd : (⟨l.toArray⟩ : ByteArray).toList = l := Lib.toList_data _
  by_cases hodd : l.length % 2 = 0
  · obtain ⟨m, hm⟩ : ∃ m, l.length = 2 * m := ⟨l.length / 2, by omega⟩
    have hmod : (l.length : Int).tmod 2 = 0 := by
      rw [hm]
      exact Int.tmod_eq_zero_of_dvd ⟨(m : Int), by push_cast; rfl⟩
    have HM : Hid _ := hm
    clear hodd
    go_enter Tryz.func105, Tryz.ntmps105
    go_wp2
    clear hmod
    go_loopw [4, 5] (fun v i wr => ∃ (k : Nat) (bs : B8), 2 * k ≤ l.length ∧ i = .int .i64 (2 * k) ∧ bs.length = k ∧ Hid (unhexM (l.take (2 * k)) = some bs) ∧ wr.ownsRow w.heap.size 5 1 v k (bs.map fun x => .int .u8 x.toNat) ∧ Ext w wr) (fun _ i _ => l.length - (intOf i).toNat)
    case atStart => exact ⟨0, [], Nat.zero_le _, rfl, rfl, rfl, World.ownsRow_nil _ _ _ _, Ext.refl _⟩
    case round =>
      obtain ⟨k, bs, hk, rfl, hbl, HU, hown, hx⟩ := hrel
      have hm := HM.out
      by_cases hlt : 2 * k < l.length
      · have hlt1 : 2 * k + 1 < l.length := by omega
        have hl1 : 2 * (k : Int) < (l.length : Int) := by omega
        have hl2 : (2 * (k : Int) + 1) < (l.length : Int) := by omega
        have hwr : IntKind.i64.wrap (2 * (k : Int) + 1) = 2 * (k : Int) + 1 := IntWalk.i64_in _ (by omega)
        have HW : Hid _ := hwr
        obtain ⟨x, hxe⟩ : ∃ x, l.getD (2 * k) 0 = x := ⟨_, rfl⟩
        obtain ⟨y, hye⟩ : ∃ y, l.getD (2 * k + 1) 0 = y := ⟨_, rfl⟩
        have HX : Hid _ := hxe
        have HY : Hid _ := hye
        obtain ⟨r, hr⟩ : ∃ r, Lib.indexByte digitsB x = r := ⟨_, rfl⟩
        obtain ⟨s, hs⟩ : ∃ s, Lib.indexByte digitsB y = s := ⟨_, rfl⟩
        have HRX : Hid _ := hr
        have HSY : Hid _ := hs
        have hrv := index_digM x
        have hsv := index_digM y
        rw [hr] at hrv
        rw [hs] at hsv
        have HRV : Hid _ := hrv
        have HSV : Hid _ := hsv
        clear hwr hm hxe hye hr hs hrv hsv
        go_wp2
        apply wp_region_mix 9 [_, _, .int .u8 x.toNat, .int .i64 r, _, _, _, .int .u8 y.toNat, .int .i64 s] [none, none, none, none, none, none, none, none, none] [[], [], [0, 1], [2], [], [], [5], [4, 6], [7]] (by kernel_rfl) (by kernel_rfl) (by simp [mixV])
        · trivial
        · simp (maxSteps := 1000000) only [List.take_succ_cons, List.take_zero, oblFrom, stepObl, fillFrom, Act.put, List.setIfInBounds_toArray, List.set_cons_zero, List.set_cons_succ, knows, getV, mixV, List.getD_cons_zero, List.getD_cons_succ, and_true, true_and, forall_const]
          refine ⟨?_, ?_, ?_, ?_, ?_, ?_, ?_, ?_, ?_⟩
          · intro xs wq hq R hR
            go_simp
            exact hR _ _ (Ext.refl _) rfl
          · intro xs wq hq R hR
            go_simp
            exact hR _ _ (Ext.refl _) rfl
          · intro xs wq hq hk R hR
            obtain ⟨hk0, hk1⟩ := hk
            go_simp
            rw [dif_pos (by omega)]
            exact hR _ _ (Ext.refl _) (idx_val (by omega) HX.out (by show (2 * (k : Int)).toNat < l.length; omega))
          · intro xs wq hq hk R hR
            go_simp
            refine (Tryz.strings_IndexByte ⟨digitsB.toArray⟩ x.toNat _).mono ?_
            rintro e w2 ⟨rfl, rfl⟩
            exact ⟨_, rfl, hR _ _ (Ext.refl _) (ix_val _ x HRX.out)⟩
          · intro xs wq hq R hR
            go_simp
            exact hR _ _ (Ext.refl _) rfl
          · intro xs wq hq R hR
            go_simp
            exact hR _ _ (Ext.refl _) rfl
          · intro xs wq hq hk R hR
            go_simp
            exact hR _ _ (Ext.refl _) rfl
          · intro xs wq hq hk R hR
            obtain ⟨hk0, hk1⟩ := hk
            go_simp
            simp only [HW.out]
            rw [dif_pos ⟨by omega, by omega⟩]
            exact hR _ _ (Ext.refl _) (idx_val (by omega) HY.out (by show (2 * (k : Int) + 1).toNat < l.length; omega))
          · intro xs wq hq hk R hR
            go_simp
            refine (Tryz.strings_IndexByte ⟨digitsB.toArray⟩ y.toNat _).mono ?_
            rintro e w2 ⟨rfl, rfl⟩
            exact ⟨_, rfl, hR _ _ (Ext.refl _) (ix_val _ y HSY.out)⟩
        intro xs w2 hx2 hk
        simp only [heldV, Nat.zero_add, Nat.reduceAdd, and_true] at hk
        obtain ⟨q0, q1, q2, q3, q4, q5, q6, q7, q8⟩ := hk
        simp (maxSteps := 1000000) only [List.take_succ_cons, List.take_zero, List.drop_succ_cons, List.drop_zero, fillFrom, Act.put, List.setIfInBounds_toArray, List.set_cons_zero, List.set_cons_succ, Nat.zero_add, Nat.reduceAdd, q0, q1, q2, q3, q4, q5, q6, q7, q8]
        clear q0 q1 q2 q3 q4 q5 q6 q7 q8
        have hrv := HRV.out
        have hsv := HSV.out
        have hx2' := Ext.trans hx hx2
        by_cases hxd : digM x < 16
        · rw [if_pos hxd] at hrv
          by_cases hyd : digM y < 16
          · rw [if_pos hyd] at hsv
            obtain ⟨z, hz⟩ : ∃ z, UInt8.ofNat (16 * digM x + digM y) = z := ⟨_, rfl⟩
            have hbv : bits BinOp.or IntKind.i64 (r * 16) s % 256 = (z.toNat : Int) := by
              have := or16 ⟨digM x, hxd⟩ ⟨digM y, hyd⟩
              simp only at this
              rw [hrv, hsv, this, ← hz]
              simp only [UInt8.toNat_ofNat']
              omega
            have HZ : Hid _ := hz
            have hr0 : ¬ r < 0 := by omega
            have hs0 : ¬ s < 0 := by omega
            have hr16 : r < 16 := by omega
            have hs16 : s < 16 := by omega
            have HXD : Hid _ := hxd
            have HYD : Hid _ := hyd
            have hown2 := owns_ext hown hx2
            have hsz := hx2'.size
            clear hrv hsv hz hxd hyd hown
            go_wp2_with (at_builtin; go_must (refine app_u8 rfl _ _ rfl w.heap.size _ k _ rfl (hown2.alloc _) w2.heap.size 1 1 [z] rfl rfl (alloc_at _ _) (by omega) (by simp; omega) ?_; intro v' w3 hown3 hg3))
            go_roundw
            case rel => exact ⟨k + 1, bs ++ [z], by omega, by go_num, by simp [hbl], by unfold Hid; rw [(unhex_snoc hlt1 HX.out HY.out HU.out).2, if_pos ⟨HXD.out, HYD.out⟩, HZ.out], by simpa using hown3, owns_ext_app (hx2'.alloc _) (hown2.alloc _) hg3⟩
            case measure => simp [intOf]; omega
          · rw [if_neg hyd] at hsv
            have HN : Hid _ := unhex_none hlt1 HX.out HY.out HU.out (fun h => hyd h.2)
            have hr0 : ¬ r < 0 := by omega
            have hs0 : s < 0 := by omega
            clear hrv hsv hxd hyd
            go_wp2
            go_ret2
            unfold UnhexPost
            rw [HN.out]
            exact ⟨rfl, hx2'⟩
        · rw [if_neg hxd] at hrv
          have HN : Hid _ := unhex_none hlt1 HX.out HY.out HU.out (fun h => hxd h.1)
          have hr0 : r < 0 := by omega
          clear hrv hsv hxd
          go_wp2
          go_ret2
          unfold UnhexPost
          rw [HN.out]
          exact ⟨rfl, hx2'⟩
      · have hg : ¬ (2 * (k : Int)) < (l.length : Int) := by omega
        have hlk : 2 * k = l.length := by omega
        have hu := HU.out
        rw [hlk, List.take_length] at hu
        have HUL : Hid _ := hu
        have hb : IsBytes wr u4 bs := by
          unfold IsBytes
          rw [hbl]
          exact Row.of_owns hown (by omega)
        have HBS : Hid _ := hb
        clear hb hown hu hlk hm
        go_wp2
        go_ret2
        unfold UnhexPost
        rw [HUL.out]
        exact ⟨⟨_, rfl, HBS.out⟩, hx⟩
  · have ho : l.length % 2 = 1 := by omega
    have hmod : (l.length : Int).tmod 2 = 1 := by rw [Int.tmod_eq_emod_of_nonneg (by omega)]; omega
    have HN : Hid _ := unhex_odd ho
    clear hodd ho
    go_enter Tryz.func105, Tryz.ntmps105
    go_wp2
    go_ret2
    unfold UnhexPost
    rw [HN.out]
    exact ⟨rfl, Ext.refl _⟩

set_option maxRecDepth 100000 in
theorem valid_any (l : B8) (w : World) (hl : l.length ≤ 30000000) :
    Calls Tryz.prog 65 #[S8 l] w fun e w' => e = .returned (.bool (validB l)) ∧ Ext w w' := by
  go_enter Tryz.func65, Tryz.ntmps65
  go_wp2_with fail
  go_at_call 105
  refine (unhex_any l w hl).mono ?_
  rintro e w1 ⟨h, hx⟩
  have HV : Hid (validB l = match unhexM l with | some b => b.length == 32 | none => false) := rfl
  cases hu : unhexM l with
  | none =>
    rw [hu] at h
    have HV2 : Hid (validB l = false) := by unfold Hid; rw [HV.out, hu]
    subst h
    clear hu HV
    go_wp2
    go_ret
    exact ⟨by rw [HV2.out]; rfl, hx⟩
  | some b =>
    rw [hu] at h
    obtain ⟨v, rfl, hb⟩ := h
    obtain ⟨s1, s2, rfl, -⟩ := id hb
    have hv : validB l = (b.length == 32) := by rw [HV.out, hu]
    have hlen := (unhex_len l hu).1
    have hbe : (((b.length : Nat) : Int) == 32) = validB l := by
      rw [hv]
      by_cases h32 : b.length = 32
      · rw [h32]; rfl
      · have h1 : (b.length == 32) = false := by simpa using h32
        rw [h1]
        simp only [beq_eq_false_iff_ne, ne_eq]
        omega
    have HBE : Hid _ := hbe
    clear hu HV hv hb hbe hlen
    go_wp2
    go_ret
    exact ⟨by rw [← HBE.out]; rfl, hx⟩

end Go.Proofs.YtdhgmpibjneplaaGreatDoor

/-! marref1: digit, Unhex, Valid. Conditions: at most 30000000 signs. -/
namespace Go.Proofs.YtdhgmpibjneplaaGreatDoor
open Go Go.RowKit

def digV (c : UInt8) : Int := if 48 ≤ c.toNat ∧ c.toNat ≤ 57 then c.toNat - 48 else if 97 ≤ c.toNat ∧ c.toNat ≤ 102 then c.toNat - 87 else -1
theorem digV_all : ∀ n : Fin 256, digV (UInt8.ofNat n.val) = if digM (UInt8.ofNat n.val) < 16 then (digM (UInt8.ofNat n.val) : Int) else -1 := by decide +kernel
theorem digV_M (c : UInt8) : digV c = if digM c < 16 then (digM c : Int) else -1 := by
  have := digV_all ⟨c.toNat, c.toNat_lt⟩
  simpa using this

set_option maxRecDepth 100000 in
set_option maxHeartbeats 400000 in
theorem digit_any (c : UInt8) (w : World) :
    Calls Tryz.prog 137 #[.int .u8 c.toNat] w fun e w' => e = .returned (.int .i64 (digV c)) ∧ w' = w := by
  have hc := c.toNat_lt
  by_cases h1 : 48 ≤ c.toNat
  · by_cases h2 : c.toNat ≤ 57
    · have HD : Hid (digV c = (c.toNat : Int) - 48) := by unfold Hid digV; rw [if_pos ⟨h1, h2⟩]
      have i1 : (48 : Int) ≤ c.toNat := by omega
      have i2 : (c.toNat : Int) ≤ 57 := by omega
      go_enter Tryz.func137, Tryz.ntmps137
      go_wp2
      go_ret
      exact ⟨by rw [HD.out]; first | rfl | (congr 2; omega), rfl⟩
    · by_cases h3 : 97 ≤ c.toNat
      · by_cases h4 : c.toNat ≤ 102
        · have HD : Hid (digV c = (c.toNat : Int) - 97 + 10) := by unfold Hid digV; rw [if_neg (show ¬(48 ≤ c.toNat ∧ c.toNat ≤ 57) by omega), if_pos ⟨h3, h4⟩]; omega
          have i1 : (48 : Int) ≤ c.toNat := by omega
          have i2 : ¬ (c.toNat : Int) ≤ 57 := by omega
          have i3 : (97 : Int) ≤ c.toNat := by omega
          have i4 : (c.toNat : Int) ≤ 102 := by omega
          go_enter Tryz.func137, Tryz.ntmps137
          go_wp2
          go_ret
          exact ⟨by rw [HD.out]; first | rfl | (congr 2; omega), rfl⟩
        · have HD : Hid (digV c = -1) := by unfold Hid digV; rw [if_neg (show ¬(48 ≤ c.toNat ∧ c.toNat ≤ 57) by omega), if_neg (show ¬(97 ≤ c.toNat ∧ c.toNat ≤ 102) by omega)]
          have i1 : (48 : Int) ≤ c.toNat := by omega
          have i2 : ¬ (c.toNat : Int) ≤ 57 := by omega
          have i3 : (97 : Int) ≤ c.toNat := by omega
          have i4 : ¬ (c.toNat : Int) ≤ 102 := by omega
          go_enter Tryz.func137, Tryz.ntmps137
          go_wp2
          go_ret
          exact ⟨by rw [HD.out]; rfl, rfl⟩
      · have HD : Hid (digV c = -1) := by unfold Hid digV; rw [if_neg (show ¬(48 ≤ c.toNat ∧ c.toNat ≤ 57) by omega), if_neg (show ¬(97 ≤ c.toNat ∧ c.toNat ≤ 102) by omega)]
        have i1 : (48 : Int) ≤ c.toNat := by omega
        have i2 : ¬ (c.toNat : Int) ≤ 57 := by omega
        have i3 : ¬ (97 : Int) ≤ c.toNat := by omega
        go_enter Tryz.func137, Tryz.ntmps137
        go_wp2
        go_ret
        exact ⟨by rw [HD.out]; rfl, rfl⟩
  · have HD : Hid (digV c = -1) := by unfold Hid digV; rw [if_neg (show ¬(48 ≤ c.toNat ∧ c.toNat ≤ 57) by omega), if_neg (show ¬(97 ≤ c.toNat ∧ c.toNat ≤ 102) by omega)]
    have i1 : ¬ (48 : Int) ≤ c.toNat := by omega
    have i3 : ¬ (97 : Int) ≤ c.toNat := by omega
    go_enter Tryz.func137, Tryz.ntmps137
    go_wp2
    go_ret
    exact ⟨by rw [HD.out]; rfl, rfl⟩

set_option maxRecDepth 100000 in
set_option maxHeartbeats 800000 in
theorem runhexR_any (l : B8) (w : World) (hl : l.length ≤ 30000000) :
    Calls Tryz.prog 94 #[S8 l] w (UnhexPost l w) := by
  have hd : (⟨l.toArray⟩ : ByteArray).toList = l := Lib.toList_data _
  by_cases hodd : l.length % 2 = 0
  · obtain ⟨m, hm⟩ : ∃ m, l.length = 2 * m := ⟨l.length / 2, by omega⟩
    have hmod : (l.length : Int).tmod 2 = 0 := by
      rw [hm]
      exact Int.tmod_eq_zero_of_dvd ⟨(m : Int), by push_cast; rfl⟩
    have HM : Hid _ := hm
    clear hodd
    go_enter Tryz.func94, Tryz.ntmps94
    go_wp2
    clear hmod
    go_loopw [4, 5] (fun v i wr => ∃ (k : Nat) (bs : B8), 2 * k ≤ l.length ∧ i = .int .i64 (2 * k) ∧ bs.length = k ∧ Hid (unhexM (l.take (2 * k)) = some bs) ∧ wr.ownsRow w.heap.size 5 1 v k (bs.map fun x => .int .u8 x.toNat) ∧ Ext w wr) (fun _ i _ => l.length - (intOf i).toNat)
    case atStart => exact ⟨0, [], Nat.zero_le _, rfl, rfl, rfl, World.ownsRow_nil _ _ _ _, Ext.refl _⟩
    case round =>
      obtain ⟨k, bs, hk, rfl, hbl, HU, hown, hx⟩ := hrel
      have hm := HM.out
      by_cases hlt : 2 * k < l.length
      · have hlt1 : 2 * k + 1 < l.length := by omega
        have hl1 : 2 * (k : Int) < (l.length : Int) := by omega
        have hl2 : (2 * (k : Int) + 1) < (l.length : Int) := by omega
        have hwr : IntKind.i64.wrap (2 * (k : Int) + 1) = 2 * (k : Int) + 1 := IntWalk.i64_in _ (by omega)
        have HW : Hid _ := hwr
        obtain ⟨x, hxe⟩ : ∃ x, l.getD (2 * k) 0 = x := ⟨_, rfl⟩
        obtain ⟨y, hye⟩ : ∃ y, l.getD (2 * k + 1) 0 = y := ⟨_, rfl⟩
        have HX : Hid _ := hxe
        have HY : Hid _ := hye
        obtain ⟨r, hr⟩ : ∃ r, digV x = r := ⟨_, rfl⟩
        obtain ⟨s, hs⟩ : ∃ s, digV y = s := ⟨_, rfl⟩
        have HRX : Hid _ := hr
        have HSY : Hid _ := hs
        have hrv := digV_M x
        have hsv := digV_M y
        rw [hr] at hrv
        rw [hs] at hsv
        have HRV : Hid _ := hrv
        have HSV : Hid _ := hsv
        clear hwr hm hxe hye hr hs hrv hsv
        go_wp2
        apply wp_region_mix 9 [_, _, .int .u8 x.toNat, .int .i64 r, _, _, _, .int .u8 y.toNat, .int .i64 s] [none, none, none, none, none, none, none, none, none] [[], [], [0, 1], [2], [], [], [5], [4, 6], [7]] (by kernel_rfl) (by kernel_rfl) (by simp [mixV])
        · trivial
        · simp (maxSteps := 1000000) only [List.take_succ_cons, List.take_zero, oblFrom, stepObl, fillFrom, Act.put, List.setIfInBounds_toArray, List.set_cons_zero, List.set_cons_succ, knows, getV, mixV, List.getD_cons_zero, List.getD_cons_succ, and_true, true_and, forall_const]
          refine ⟨?_, ?_, ?_, ?_, ?_, ?_, ?_, ?_, ?_⟩
          · intro xs wq hq R hR
            go_simp
            exact hR _ _ (Ext.refl _) rfl
          · intro xs wq hq R hR
            go_simp
            exact hR _ _ (Ext.refl _) rfl
          · intro xs wq hq hk R hR
            obtain ⟨hk0, hk1⟩ := hk
            go_simp
            rw [dif_pos (by omega)]
            exact hR _ _ (Ext.refl _) (idx_val (by omega) HX.out (by show (2 * (k : Int)).toNat < l.length; omega))
          · intro xs wq hq hk R hR
            go_simp
            exact (digit_any x _).mono (by rintro e w8 ⟨rfl, rfl⟩; exact ⟨_, rfl, hR _ _ (Ext.refl _) (by rw [HRX.out])⟩)
          · intro xs wq hq R hR
            go_simp
            exact hR _ _ (Ext.refl _) rfl
          · intro xs wq hq R hR
            go_simp
            exact hR _ _ (Ext.refl _) rfl
          · intro xs wq hq hk R hR
            go_simp
            exact hR _ _ (Ext.refl _) rfl
          · intro xs wq hq hk R hR
            obtain ⟨hk0, hk1⟩ := hk
            go_simp
            simp only [HW.out]
            rw [dif_pos ⟨by omega, by omega⟩]
            exact hR _ _ (Ext.refl _) (idx_val (by omega) HY.out (by show (2 * (k : Int) + 1).toNat < l.length; omega))
          · intro xs wq hq hk R hR
            go_simp
            exact (digit_any y _).mono (by rintro e w8 ⟨rfl, rfl⟩; exact ⟨_, rfl, hR _ _ (Ext.refl _) (by rw [HSY.out])⟩)
        intro xs w2 hx2 hk
        simp only [heldV, Nat.zero_add, Nat.reduceAdd, and_true] at hk
        obtain ⟨q0, q1, q2, q3, q4, q5, q6, q7, q8⟩ := hk
        simp (maxSteps := 1000000) only [List.take_succ_cons, List.take_zero, List.drop_succ_cons, List.drop_zero, fillFrom, Act.put, List.setIfInBounds_toArray, List.set_cons_zero, List.set_cons_succ, Nat.zero_add, Nat.reduceAdd, q0, q1, q2, q3, q4, q5, q6, q7, q8]
        clear q0 q1 q2 q3 q4 q5 q6 q7 q8
        have hrv := HRV.out
        have hsv := HSV.out
        have hx2' := Ext.trans hx hx2
        by_cases hxd : digM x < 16
        · rw [if_pos hxd] at hrv
          by_cases hyd : digM y < 16
          · rw [if_pos hyd] at hsv
            obtain ⟨z, hz⟩ : ∃ z, UInt8.ofNat (16 * digM x + digM y) = z := ⟨_, rfl⟩
            have hzv : 16 * r + s = (z.toNat : Int) := by
              rw [hrv, hsv, ← hz]
              simp only [UInt8.toNat_ofNat']
              omega
            have hw3 : IntKind.i64.wrap (16 * r) = 16 * r := IntWalk.i64_in _ (by omega)
            have hw4 : IntKind.i64.wrap (16 * r + s) = 16 * r + s := IntWalk.i64_in _ (by omega)
            rw [hzv] at hw4
            have hz256 := z.toNat_lt
            have HZ : Hid _ := hz
            have hr0 : ¬ r < 0 := by omega
            have hs0 : ¬ s < 0 := by omega
            have hr16 : r < 16 := by omega
            have hs16 : s < 16 := by omega
            have HXD : Hid _ := hxd
            have HYD : Hid _ := hyd
            have hown2 := owns_ext hown hx2
            have hsz := hx2'.size
            clear hrv hsv hz hxd hyd hown
            go_wp2_with (at_builtin; go_must (refine app_u8 rfl _ _ rfl w.heap.size _ k _ rfl (hown2.alloc _) w2.heap.size 1 1 [z] rfl rfl (alloc_at _ _) (by omega) (by simp; omega) ?_; intro v' w3 hown3 hg3))
            go_roundw
            case rel => exact ⟨k + 1, bs ++ [z], by omega, by go_num, by simp [hbl], by unfold Hid; rw [(unhex_snoc hlt1 HX.out HY.out HU.out).2, if_pos ⟨HXD.out, HYD.out⟩, HZ.out], by simpa using hown3, owns_ext_app (hx2'.alloc _) (hown2.alloc _) hg3⟩
            case measure => simp [intOf]; omega
          · rw [if_neg hyd] at hsv
            have HN : Hid _ := unhex_none hlt1 HX.out HY.out HU.out (fun h => hyd h.2)
            have hr0 : ¬ r < 0 := by omega
            have hs0 : s < 0 := by omega
            clear hrv hsv hxd hyd
            go_wp2
            go_ret2
            unfold UnhexPost
            rw [HN.out]
            exact ⟨rfl, hx2'⟩
        · rw [if_neg hxd] at hrv
          have HN : Hid _ := unhex_none hlt1 HX.out HY.out HU.out (fun h => hxd h.1)
          have hr0 : r < 0 := by omega
          clear hrv hsv hxd
          go_wp2
          go_ret2
          unfold UnhexPost
          rw [HN.out]
          exact ⟨rfl, hx2'⟩
      · have hg : ¬ (2 * (k : Int)) < (l.length : Int) := by omega
        have hlk : 2 * k = l.length := by omega
        have hu := HU.out
        rw [hlk, List.take_length] at hu
        have HUL : Hid _ := hu
        have hb : IsBytes wr u4 bs := by
          unfold IsBytes
          rw [hbl]
          exact Row.of_owns hown (by omega)
        have HBS : Hid _ := hb
        clear hb hown hu hlk hm
        go_wp2
        go_ret2
        unfold UnhexPost
        rw [HUL.out]
        exact ⟨⟨_, rfl, HBS.out⟩, hx⟩
  · have ho : l.length % 2 = 1 := by omega
    have hmod : (l.length : Int).tmod 2 = 1 := by rw [Int.tmod_eq_emod_of_nonneg (by omega)]; omega
    have HN : Hid _ := unhex_odd ho
    clear hodd ho
    go_enter Tryz.func94, Tryz.ntmps94
    go_wp2
    go_ret2
    unfold UnhexPost
    rw [HN.out]
    exact ⟨rfl, Ext.refl _⟩

set_option maxRecDepth 100000 in
theorem rvalid_any (l : B8) (w : World) (hl : l.length ≤ 30000000) :
    Calls Tryz.prog 57 #[S8 l] w fun e w' => e = .returned (.bool (validB l)) ∧ Ext w w' := by
  go_enter Tryz.func57, Tryz.ntmps57
  go_wp2_with fail
  go_at_call 94
  refine (runhexR_any l w hl).mono ?_
  rintro e w1 ⟨h, hx⟩
  have HV : Hid (validB l = match unhexM l with | some b => b.length == 32 | none => false) := rfl
  cases hu : unhexM l with
  | none =>
    rw [hu] at h
    have HV2 : Hid (validB l = false) := by unfold Hid; rw [HV.out, hu]
    subst h
    clear hu HV
    go_wp2
    go_ret
    exact ⟨by rw [HV2.out]; rfl, hx⟩
  | some b =>
    rw [hu] at h
    obtain ⟨v, rfl, hb⟩ := h
    obtain ⟨s1, s2, rfl, -⟩ := id hb
    have hv : validB l = (b.length == 32) := by rw [HV.out, hu]
    have hlen := (unhex_len l hu).1
    have hbe : (((b.length : Nat) : Int) == 32) = validB l := by
      rw [hv]
      by_cases h32 : b.length = 32
      · rw [h32]; rfl
      · have h1 : (b.length == 32) = false := by simpa using h32
        rw [h1]
        simp only [beq_eq_false_iff_ne, ne_eq]
        omega
    have HBE : Hid _ := hbe
    clear hu HV hv hb hbe hlen
    go_wp2
    go_ret
    exact ⟨by rw [← HBE.out]; rfl, hx⟩

end Go.Proofs.YtdhgmpibjneplaaGreatDoor

/-! marref16.Get, marref1.Parents, marref16.May, marlaw13.table: what they answer. Conditions: as each theorem states. -/
namespace Go.Proofs.YtdhgmpibjneplaaGreatDoor
open Go Go.RowKit Go.Sort
set_option linter.unusedVariables false
set_option linter.unusedSimpArgs false
set_option linter.unusedSectionVars false

def entV (e : Int × B8) : Value := .agg #[.int .i64 e.1, S8 e.2]
theorem size_ent : (Tryz.prog.info? 54).map (·.size) = some 2 := by kernel_rfl
/-- A row's cells, as the walk meets them. -/
theorem IsRws.cells {w : World} {v : Value} {l : List Rw} (h : IsRws w v l) : ∃ a cap, v = .slice a l.length cap ∧ l.length ≤ cap ∧ l.length ≤ 140737488355328 ∧ cap ≤ 9223372036854775807 ∧
    ∀ (k : Nat) x, l[k]? = some x → ∃ b o, a = some ⟨b, o, none⟩ ∧ w.cell? ⟨b, o + k * 3, none⟩ = some (S8 x.path) ∧ w.cell? ⟨b, o + k * 3 + 1, none⟩ = some (.int .i64 x.mode) ∧ w.cell? ⟨b, o + k * 3 + 1 + 1, none⟩ = some (S8 x.id) := by
  obtain ⟨a, cap, he, h1, h2, h3, hg⟩ := h.get
  refine ⟨a, cap, he, h1, h2, h3, fun k x hx => ?_⟩
  obtain ⟨b, o, ha, c0, c1, c2⟩ := hg k x hx
  rw [Nat.mul_comm 3 k] at c0 c1 c2
  exact ⟨b, o, ha, c0, c1, c2⟩

set_option maxRecDepth 100000 in
set_option maxHeartbeats 4000000 in
theorem rget_any (v : Value) (l : List Rw) (p : B8) (w : World) (hv : IsRws w v l) :
    Calls Tryz.prog 22 #[v, S8 p] w fun e w' => e = .returned (entV (entG l p)) ∧ Ext w w' := by
  obtain ⟨a, cap, rfl, l1, l2, l3, hg⟩ := hv.cells
  have HG : Hid _ := hg
  have htp : (⟨p.toArray⟩ : ByteArray).toList = p := Lib.toList_data _
  clear hv hg
  go_enter Tryz.func22, Tryz.ntmps22
  go_upto_region 1 with fail
  obtain ⟨w1, hw1⟩ : ∃ w1, w1 = w.alloc (.cells #[.int .i64 0, S8 []] 54) := ⟨_, rfl⟩
  have HX1 : Hid (Ext w w1) := by rw [hw1]; exact (Ext.refl _).alloc _
  have HB1 : Hid (w1.heap[w.heap.size]? = some (.cells #[.int .i64 0, S8 []] 54 (0, 0))) := by rw [hw1]; exact alloc_at _ _
  obtain ⟨g, hgz⟩ : ∃ g, w.heap.size = g := ⟨_, rfl⟩
  have HGZ : Hid _ := hgz
  have HW1 : Hid _ := hw1
  rw [hgz] at HB1
  first | rw [← hw1, hgz] | (rw [← HW1.out, hgz])
  clear hw1 hgz HW1
  go_wp2_with fail
  go_loopw [5] (fun i wr => ∃ k : Nat, k ≤ l.length ∧ i = .int .i64 k ∧ wr = w1 ∧ Hid (∀ r ∈ l.take k, r.path ≠ p)) (fun i _ => l.length - (intOf i).toNat)
  case atStart => exact ⟨0, Nat.zero_le _, rfl, rfl, fun r hr => by simp at hr⟩
  case round =>
  obtain ⟨k, hk, rfl, rfl, HN⟩ := hrel
  have hb1 := HB1.out
  by_cases hlt : k < l.length
  case neg =>
    have hkk : k = l.length := by omega
    subst hkk
    have HR : Hid (entG l p = (0, [])) := ent_none (by have := HN.out; rwa [List.take_length] at this)
    go_wp2_with (refine wpList_store_row rfl 54 (.tmp 4) (.tmp 24) rfl g #[.int .i64 0, S8 []] rfl rfl 54 _ HB1.out size_ent rfl (by simp [Value.oneCell']) ?_)
    refine bodyPost_ret (results_cell_row rfl _ _ g 54 #[.int .i64 0, S8 []] (0, 0) _ rfl (setRow_heap _ _ _ _ _ _ HB1.out) Tryz.underlying54 rfl size_ent) rfl ?_
    exact ⟨by rw [HR.out]; rfl, Ext.but HX1.out (setRow_grown _ _ _) (Nat.le_of_eq HGZ.out)⟩
  obtain ⟨x, hx⟩ : ∃ x, l[k]? = some x := ⟨_, List.getElem?_eq_getElem hlt⟩
  obtain ⟨bb, oo, rfl, c0, c1, c2⟩ := HG.out k x hx
  have y0 := HX1.out.cell c0
  have y1 := HX1.out.cell c1
  have y2 := HX1.out.cell c2
  have htx : (⟨x.path.toArray⟩ : ByteArray).toList = x.path := Lib.toList_data _
  have HX : Hid _ := hx
  obtain ⟨bq, hbq⟩ : ∃ bq, (x.path == p) = bq := ⟨_, rfl⟩
  clear c0 c1 c2 hx
  cases bq with
  | true =>
    obtain rfl : x.path = p := by simpa using hbq
    have HR : Hid (entG l x.path = (x.mode, x.id)) := ent_at HN.out HX.out
    go_wp2_with (refine wpList_store_row rfl 54 (.tmp 4) (.tmp 23) rfl g #[.int .i64 x.mode, S8 x.id] rfl rfl 54 _ HB1.out size_ent rfl (by simp [Value.oneCell']) ?_)
    refine bodyPost_ret (results_cell_row rfl _ _ g 54 #[.int .i64 x.mode, S8 x.id] (0, 0) _ rfl (setRow_heap _ _ _ _ _ _ HB1.out) Tryz.underlying54 rfl size_ent) rfl ?_
    exact ⟨by rw [HR.out]; rfl, Ext.but HX1.out (setRow_grown _ _ _) (Nat.le_of_eq HGZ.out)⟩
  | false =>
    have HNX : Hid (∀ r ∈ l.take (k + 1), r.path ≠ p) := ne_snoc HN.out HX.out (by simpa using hbq)
    go_wp2
    go_roundw
    case rel => exact ⟨k + 1, by omega, by go_num, trivial, HNX⟩
    case measure => simp [intOf]; omega

set_option maxRecDepth 100000 in
theorem table13_any (v : Value) (l : List Rw) (w : World) (hv : IsRws w v l) :
    Calls Tryz.prog 18 #[v] w fun e w' => ∃ b, e = .returned (.bool b) ∧ w' = w ∧ (b = true → l.length ≤ 100 ∧ ∀ r ∈ l, r.path.length ≤ 400 ∧ r.id.length ≤ 400) := by
  obtain ⟨a, cap, rfl, l1, l2, l3, hg⟩ := hv.cells
  have HG : Hid _ := hg
  clear hv hg
  go_enter Tryz.func18, Tryz.ntmps18
  go_wp2_with fail
  go_loopw [3] (fun i wr => ∃ k : Nat, k ≤ l.length ∧ k ≤ 100 ∧ i = .int .i64 k ∧ wr = w ∧ Hid (∀ r ∈ l.take k, r.path.length ≤ 400 ∧ r.id.length ≤ 400)) (fun i _ => l.length - (intOf i).toNat)
  case atStart => exact ⟨0, Nat.zero_le _, Nat.zero_le _, rfl, rfl, fun r hr => by simp at hr⟩
  case round =>
  obtain ⟨k, hk, hk100, rfl, rfl, HJ⟩ := hrel
  by_cases hlt : k < l.length
  case neg =>
    have hkk : k = l.length := by omega
    subst hkk
    have HR : Hid (∀ r ∈ l, r.path.length ≤ 400 ∧ r.id.length ≤ 400) := by have := HJ.out; rwa [List.take_length] at this
    have hl21 : Hid (decide ((l.length : Int) ≤ 100) = true) := by rw [Hid, decide_eq_true_eq]; omega
    go_wp2
    go_ret
    exact ⟨true, by rw [← hl21.out]; rfl, rfl, fun _ => ⟨hk100, HR.out⟩⟩
  by_cases h100 : k < 100
  case neg =>
    have hz : k = 100 := by omega
    subst hz
    have hl9 : ¬ (l.length : Int) ≤ 100 := by omega
    go_wp2
    go_ret
    first | exact ⟨false, rfl, rfl, fun h => absurd h (by decide)⟩ | exact .inl ⟨rfl, rfl⟩
  obtain ⟨x, hx⟩ : ∃ x, l[k]? = some x := ⟨_, List.getElem?_eq_getElem hlt⟩
  obtain ⟨bb, oo, rfl, y0, -, y2⟩ := HG.out k x hx
  have HSN : Hid _ := take_snocR hx
  clear hx
  by_cases hp : (400 : Int) < (x.path.length : Int)
  · go_wp2
    go_ret
    first | exact ⟨false, rfl, rfl, fun h => absurd h (by decide)⟩ | exact .inl ⟨rfl, rfl⟩
  by_cases hi : (400 : Int) < (x.id.length : Int)
  · go_wp2
    go_ret
    first | exact ⟨false, rfl, rfl, fun h => absurd h (by decide)⟩ | exact .inl ⟨rfl, rfl⟩
  have HJX : Hid (∀ r ∈ l.take (k + 1), r.path.length ≤ 400 ∧ r.id.length ≤ 400) := by
    unfold Hid
    rw [HSN.out]
    intro r hr
    rcases List.mem_append.1 hr with hr | hr
    · exact HJ.out r hr
    · obtain rfl : r = x := by simpa using hr
      exact ⟨by omega, by omega⟩
  go_wp2
  go_roundw
  case rel => exact ⟨k + 1, by omega, by omega, by go_num, trivial, HJX⟩
  case measure => simp [intOf]; omega

set_option maxRecDepth 100000 in
set_option maxHeartbeats 4000000 in
theorem rparents_s (s : ByteArray) (w : World) (hs : s.size ≤ 1000000) :
    Calls Tryz.prog 58 #[.string s] w fun e w' => (∃ v, e = .returned v ∧ IsStrs w' v (parR s.data.toList)) ∧ Ext w w' := by
  obtain ⟨pb, hpb⟩ : ∃ b, pathB s.data.toList = b := ⟨_, rfl⟩
  have HPB : Hid _ := hpb
  have hsz : s.data.toList.length = s.size := by simp
  have HSZ : Hid _ := hsz
  clear hpb hsz
  go_enter Tryz.func58, Tryz.ntmps58
  go_wp2_with fail
  go_at_call 56
  refine (rpath_s s w (by omega)).mono ?_
  unfold PathPost
  rw [HPB.out]
  rintro e w1 ⟨rfl, hx1⟩
  have HX1 : Hid (Ext w w1) := hx1
  clear hx1
  cases pb with
  | false =>
    have HR : Hid (parR s.data.toList = []) := by unfold Hid parR; rw [HPB.out]; rfl
    go_wp2
    go_ret
    exact ⟨⟨_, rfl, by rw [HR.out]; exact IsStrs.nil _⟩, HX1.out⟩
  | true =>
  have HR : Hid (parR s.data.toList = parL s.data.toList s.size) := by unfold Hid parR; rw [HPB.out, HSZ.out]; rfl
  go_wp2_with fail
  go_loopw [3, 4] (fun v i wr => ∃ k : Nat, k ≤ s.size ∧ i = .int .i64 k ∧ Hid (wr.ownsRow w.heap.size 9 1 v (parL s.data.toList k).length ((parL s.data.toList k).map S8)) ∧ Hid (Ext w wr)) (fun _ i _ => s.size - (intOf i).toNat)
  case atStart => exact ⟨0, Nat.zero_le _, rfl, World.ownsRow_nil _ _ _ _, HX1⟩
  case round =>
  obtain ⟨k, hk, rfl, HOW, HX⟩ := hrel
  by_cases hlt : k < s.size
  case neg =>
    have hkk : k = s.size := by omega
    subst hkk
    have hpl := parL_len s.data.toList s.size
    have HST : Hid (IsStrs wr u3 (parL s.data.toList s.size)) := Row.of_owns HOW.out (by omega)
    clear hpl
    go_wp2
    go_ret
    exact ⟨⟨_, rfl, by rw [HR.out]; exact HST.out⟩, HX.out⟩
  have hgk : s.data.toList.getD k 0 = s[k] := by
    rw [List.getD_eq_getElem?_getD, List.getElem?_eq_getElem (by rw [HSZ.out]; exact hlt)]; rfl
  have hsn := parL_snoc s.data.toList k
  rw [hgk] at hsn
  have hpl := parL_len s.data.toList k
  obtain ⟨L, hL⟩ : ∃ L, parL s.data.toList k = L := ⟨_, rfl⟩
  rw [hL] at hsn HOW hpl
  have HSN : Hid _ := hsn
  have hex : s.extract 0 k = ⟨(s.data.toList.take k).toArray⟩ := by
    rw [extract_list s 0 k (Nat.zero_le _) (by omega), List.drop_zero, Nat.sub_zero]
  obtain ⟨T, hT⟩ : ∃ T, s.data.toList.take k = T := ⟨_, rfl⟩
  rw [hT] at hex
  have HT : Hid _ := hT
  clear hgk hsn hL hT
  by_cases hc : s[k] = 47
  · have hci : ((s[k].toNat : Int) == 47) = true := by simp [hc]
    have HPX : Hid (parL s.data.toList (k + 1) = L ++ [T]) := by
      unfold Hid
      rw [HSN.out, hc, HT.out]; rfl
    have hsz := HX.out.size
    clear hc
    go_wp2_with (at_builtin; go_must (refine app_str rfl _ _ rfl w.heap.size _ L.length L rfl (HOW.out.alloc _) wr.heap.size 1 1 [T] rfl rfl (alloc_at _ _) (by omega) (by simp; omega) ?_; intro v' w3 hown3 hg3))
    go_roundw
    case rel => exact ⟨k + 1, by omega, by go_num, (by unfold Hid; rw [HPX.out]; simpa using hown3), owns_ext_app (HX.out.alloc _) (HOW.out.alloc _) hg3⟩
    case measure => simp [intOf]; omega
  · have hci : ((s[k].toNat : Int) == 47) = false := by
      rw [beq_eq_false_iff_ne]
      intro h
      exact hc (UInt8.toNat_inj.1 (by simpa using (by omega : s[k].toNat = 47)))
    have HPX : Hid (parL s.data.toList (k + 1) = L) := by
      unfold Hid
      rw [HSN.out, if_neg (by simpa using hc), List.append_nil]
    clear hc
    go_wp2
    go_roundw
    case rel => exact ⟨k + 1, by omega, by go_num, (by unfold Hid; rw [HPX.out]; exact HOW.out), HX⟩
    case measure => simp [intOf]; omega
theorem rparents_any (s : B8) (w : World) (hs : s.length ≤ 1000000) :
    Calls Tryz.prog 58 #[S8 s] w fun e w' => (∃ v, e = .returned v ∧ IsStrs w' v (parR s)) ∧ Ext w w' := rparents_s ⟨s.toArray⟩ w hs

end Go.Proofs.YtdhgmpibjneplaaGreatDoor

/-! A region that draws its order and only reads, walked once: each step's rest behind a structure, so that nothing of it is unfolded ahead of its turn. Conditions: as each theorem states. -/
namespace Go.Proofs.YtdhgmpibjneplaaGreatDoor
open Go Go.RowKit Go.Sort

structure QW (p : Prop) : Prop where
  out : p
section
variable {P : Program} {ops : Array Oper} {C : World → Prop}
theorem qw_nil {Q : Act → Prop} {a : Act} (h : Q a) : QW (wpQuiet P ops C Q [] a) := ⟨wpQuiet_nil h⟩
theorem qw_step {Q : Act → Prop} {a : Act} {o : Oper} {rest : List Oper}
    (h : ∀ K : Act → Prop, (∀ a, QW (wpQuiet P ops C Q rest a) → K a) → if Region.wanted o (yielded ops a.tmps) then o.quiet P a C K else K (a.put o.dst undef)) : QW (wpQuiet P ops C Q (o :: rest) a) :=
  ⟨wpQuiet_step fun K hK => h K (fun a ha => hK a ha.out)⟩
/-- .. where calls may lay blocks. -/
theorem qw_below {id : Nat} {Q : Exit → Act → World → Prop} {a : Act} {w : World} {l : List Oper} (hm : P.follows .mixedOrders = true) (hB : Region.lexB .any l.toArray = true)
    (h : QW (wpQuiet P l.toArray (fun w' => ∃ p : Regrown, w' = grow (redrawn w p.d) p.os) (fun a' => ∀ w', (∃ p : Regrown, w' = grow (redrawn w p.d) p.os) → Q .normal a' w') l a)) : (Code.region id l.toArray true).wp P Q a w :=
  wp_region_quiet_below hm hB h.out
end
theorem Ext.drawn (w : World) (n : Nat) : Ext w (w.drewN n) := ⟨rfl, rfl, rfl, Nat.le_refl _, fun _ _ => rfl⟩
theorem Ext.regrown (w : World) (d : Nat) (os : Array Obj) : Ext w (grow (redrawn w d) os) := below_regrown w d os

end Go.Proofs.YtdhgmpibjneplaaGreatDoor

/-! Appends of whatever slice to one that the call itself made. Conditions: as each theorem states. -/
namespace Go.Proofs.YtdhgmpibjneplaaGreatDoor
open Go Go.RowKit
set_option linter.unusedVariables false
set_option linter.unusedSimpArgs false
set_option linter.unusedSectionVars false

/-- append of elements, of whatever slice. -/
theorem appS_run (T e : TypeId) (z : Value) (size bytes : Nat) (ht : Tryz.prog.underlying T = some (.slice e)) (hinfo : (Tryz.prog.info? e).map (fun i => (i.zero, i.size, i.bytes)) = some (some z, size, bytes)) (hzs : z.cells.size = size) (hsz : 0 < size)
    {w : World} (base : Nat) (v : Value) (n : Nat) (xs : List Value) (hown : w.ownsRow base e size v n xs) (x : Value) (m : Nat) (news : List Value) (hx : Row w x m news) (hl : news.length = m * size) (h1 : ∀ u ∈ news, u.oneCell' = true) (hb : (n + m) * bytes ≤ 140737488355328) (hb2 : n + m ≤ 1000000000) (hbase : base ≤ w.heap.size) :
    ∃ v' w', (Builtin.append_ #[T, T] T #[v, x]).run Tryz.prog w = .ok v' w' ∧ w'.ownsRow base e size v' (n + m) (xs ++ news) ∧ w.grownBy w' v.ownBlock ∧ (v'.ownBlock = v.ownBlock ∨ v'.ownBlock = some w.heap.size) := by
  obtain ⟨i0, hi, hz0, hz1, hz2⟩ := info_parts hinfo
  obtain ⟨a, cap, rfl, k1, k2, k3, k4⟩ := hx
  cases a with
  | none =>
    have hn : news = [] := by
      cases news with
      | nil => rfl
      | cons y l => obtain ⟨b, o, he, _⟩ := k4 (by simp); cases he
    subst hn
    have hm : m = 0 := by
      have h0 : m * size = 0 := by simpa using hl.symm
      rcases Nat.mul_eq_zero.1 h0 with h | h
      · exact h
      · omega
    subst hm
    obtain ⟨vb, vn, vc, rfl, hle⟩ : ∃ vb vn vc, v = .slice vb n vc ∧ n ≤ vc ∧ vn = n := by
      rcases hown.2 with ⟨rfl, h0⟩ | ⟨g, c, cur, rfl, _, _, hc, _⟩
      · exact ⟨none, n, 0, by rw [h0], by omega, rfl⟩
      · exact ⟨_, n, c, rfl, hc, rfl⟩
    refine ⟨_, w, run_append_nothing w _ _ _ _ i0 ht hi vb n vc hle.1 _ (by rw [hz1]; exact Src.ofNil w ht cap), by simpa using hown, ⟨rfl, rfl, rfl, Nat.le_refl _, fun _ _ _ => rfl⟩, .inl rfl⟩
  | some ad =>
    have hnews : ∀ j u, news[j]? = some u → w.cell? (ad.add j) = some u := fun j u hu => by
      obtain ⟨b, o, he, hc⟩ := k4 (by rintro rfl; simp at hu)
      cases he
      have hadd : (⟨b, o, none⟩ : Addr).add j = ⟨b, o + j, none⟩ := by unfold Addr.add; split <;> simp_all
      rw [hadd]
      exact hc j u hu
    obtain ⟨v', w', h2, h3, h4, _, h5⟩ := run_append_own_at (P := Tryz.prog) w base T T e i0 _ size bytes ht hi hz0 hz1 hz2 hzs hsz v n xs hown ad m cap news hl hnews h1 (by unfold maxLen; omega) hb hbase
    exact ⟨v', w', h2, h3, h4, h5⟩
section
variable {ops : Array Oper} {rest : List Oper} {o : Oper} {a : Act} {Q : Exit → Act → World → Prop} {w : World}
theorem appS_op (T e : TypeId) (z : Value) (size bytes : Nat) (ht : Tryz.prog.underlying T = some (.slice e)) (hinfo : (Tryz.prog.info? e).map (fun i => (i.zero, i.size, i.bytes)) = some (some z, size, bytes)) (hzs : z.cells.size = size) (hsz : 0 < size)
    (hgd : o.guard = none) (s x : Operand) (ho : o.op = .call { callee := .builtin .append, args := #[s, x], argTypes := #[T, T] }) (hty : o.type = T)
    (base : Nat) (v : Value) (n : Nat) (xs : List Value) (hs : a.eval s = v) (hown : w.ownsRow base e size v n xs)
    (xv : Value) (m : Nat) (news : List Value) (hx : a.eval x = xv) (hrow : Row w xv m news) (hl : news.length = m * size) (h1 : ∀ u ∈ news, u.oneCell' = true) (hb : (n + m) * bytes ≤ 140737488355328) (hb2 : n + m ≤ 1000000000) (hbase : base ≤ w.heap.size)
    (h : ∀ v' w', w'.ownsRow base e size v' (n + m) (xs ++ news) → w.grownBy w' v.ownBlock → wpList Tryz.prog ops Q rest (a.put o.dst v') w') : wpList Tryz.prog ops Q (o :: rest) a w := by
  refine wpList_plain hgd fun K hK => ?_
  obtain ⟨v', w', hr, h2, h3, h4⟩ := appS_run T e z size bytes ht hinfo hzs hsz base v n xs hown xv m news hrow hl h1 hb hb2 hbase
  unfold Oper.wp execOp
  simp only [ho, hty, resolve, invoke, builtin, Sem.run_bind, Sem.run_pure, Result.andThen_ok, List.map_toArray, List.map_cons, List.map_nil, hs, hx, hr]
  exact hK _ _ (h v' w' h2 h3)
end

/-- What stands behind a slice's place. -/
theorem IsBytes.tail {w : World} {a : Option Addr} {cap : Nat} {l : B8} (k : Nat) (h : IsBytes w (.slice a l.length cap) l) (hk : k ≤ l.length) (ht : TypB w (.slice a l.length cap)) :
    ∀ a', (a = none → a' = none) → (cap ≠ k → ∀ b o, a = some ⟨b, o, none⟩ → a' = some ⟨b, o + k, none⟩) → IsBytes w (.slice a' (l.length - k) (cap - k)) (l.drop k) := by
  obtain ⟨a2, cap2, he, h1, h2, h3, h4⟩ := h
  simp only [Value.slice.injEq, true_and] at he
  obtain ⟨rfl, rfl⟩ := he
  intro a' hn hs
  have hlen : (l.drop k).length = l.length - k := List.length_drop
  unfold IsBytes
  rw [hlen]
  refine ⟨a', cap - k, rfl, by omega, by omega, by omega, fun hne => ?_⟩
  have hlt : k < l.length := by
    rcases Nat.lt_or_ge k l.length with h | h
    · exact h
    · rw [List.drop_eq_nil_of_le h] at hne; simp at hne
  obtain ⟨b, o, rfl, hc⟩ := h4 (by intro h0; rw [List.map_eq_nil_iff] at h0; subst h0; simp at hlt)
  refine ⟨b, o + k, hs (by omega) b o rfl, fun i u hu => ?_⟩
  rw [List.getElem?_map, List.getElem?_drop] at hu
  have := hc (k + i) u (by rw [List.getElem?_map]; exact hu)
  rwa [← Nat.add_assoc] at this
/-- the slice from a place on, as the walk leaves it. -/
def tailV (a : Option Addr) (n c k : Nat) : Value := .slice (if c = k then a else Option.map (fun x => { block := x.block, off := x.off + k }) a) (n - k) (c - k)
theorem IsBytes.tailV {w : World} {a : Option Addr} {cap : Nat} {l : B8} (k : Nat) (h : IsBytes w (.slice a l.length cap) l) (hk : k ≤ l.length) (ht : TypB w (.slice a l.length cap)) :
    IsBytes w (tailV a l.length cap k) (l.drop k) ∧ TypB w (Go.Proofs.YtdhgmpibjneplaaGreatDoor.tailV a l.length cap k) := by
  constructor
  · refine h.tail k hk ht _ (fun hn => by subst hn; simp) (fun hne b o hb => by subst hb; simp [hne])
  · intro a' n' c' he
    unfold Go.Proofs.YtdhgmpibjneplaaGreatDoor.tailV at he
    simp only [Value.slice.injEq] at he
    obtain ⟨he, -, -⟩ := he
    split at he
    · subst he; exact ht _ _ _ rfl
    · cases a with
      | none => cases he
      | some ad => simp only [Option.map_some, Option.some.injEq] at he; subst he; exact ht ad _ _ rfl
theorem IsBytes.head {w : World} {a : Option Addr} {cap : Nat} {l : B8} (k : Nat) (h : IsBytes w (.slice a l.length cap) l) (hk : k ≤ l.length) : IsBytes w (.slice a k cap) (l.take k) := by
  obtain ⟨a2, cap2, he, h1, h2, h3, h4⟩ := h
  simp only [Value.slice.injEq, true_and] at he
  obtain ⟨rfl, rfl⟩ := he
  have hlen : (l.take k).length = k := by rw [List.length_take]; omega
  unfold IsBytes
  rw [hlen]
  refine ⟨a, cap, rfl, by omega, by omega, by omega, fun hne => ?_⟩
  obtain ⟨b, o, rfl, hc⟩ := h4 (by intro h0; rw [List.map_eq_nil_iff] at h0; subst h0; simp at hne)
  refine ⟨b, o, rfl, fun i u hu => hc i u ?_⟩
  rw [List.getElem?_map, List.getElem?_take] at hu
  split at hu
  · rw [List.getElem?_map]; exact hu
  · cases hu

end Go.Proofs.YtdhgmpibjneplaaGreatDoor

/-! wire: put, Put. Conditions: as each theorem states. -/
namespace Go.Proofs.YtdhgmpibjneplaaGreatDoor
open Go Go.RowKit
set_option linter.unusedVariables false
set_option linter.unusedSimpArgs false
set_option linter.unusedSectionVars false

theorem or128_all : ∀ r : Fin 256, bits BinOp.or IntKind.u8 (r.val : Int) 128 = (((UInt8.ofNat (r.val % 128 + 128)).toNat : Nat) : Int) := by decide +kernel
theorem or128 (m : Nat) : bits BinOp.or IntKind.u8 ((m : Int) % 256) 128 = (((UInt8.ofNat (m % 128 + 128)).toNat : Nat) : Int) := by
  have h := or128_all ⟨m % 256, by omega⟩
  rw [show (((⟨m % 256, by omega⟩ : Fin 256).val : Nat) : Int) = (m : Int) % 256 by simp] at h
  rw [h]
  show (((UInt8.ofNat (m % 256 % 128 + 128)).toNat : Nat) : Int) = _
  rw [show m % 256 % 128 = m % 128 by omega]
theorem low8 {m : Nat} (h : m ≤ 127) : (m : Int) = (((UInt8.ofNat m).toNat : Nat) : Int) := by
  rw [UInt8.toNat_ofNat']
  omega
set_option maxRecDepth 100000 in
set_option maxHeartbeats 1000000 in
theorem wput_any (n : Nat) (w : World) (hn : n ≤ maxW) :
    Calls Tryz.prog 203 #[.int .i64 n] w fun e w' => (∃ v, e = .returned v ∧ w'.ownsRow w.heap.size 5 1 v (putN n).length ((putN n).map fun x => .int .u8 x.toNat)) ∧ Ext w w' := by
  unfold maxW at hn
  go_enter Tryz.func203, Tryz.ntmps203
  go_wp2
  go_loopw [0, 3] (fun nv v wr => ∃ (m : Nat) (l : B8), nv = .int .i64 m ∧ m ≤ n ∧ Hid (putN n = l ++ putN m) ∧ Hid (wr.ownsRow w.heap.size 5 1 v l.length (l.map fun x => .int .u8 x.toNat)) ∧ Hid (Ext w wr)) (fun nv _ _ => (intOf nv).toNat)
  case atStart => exact ⟨n, [], rfl, Nat.le_refl _, rfl, World.ownsRow_nil _ _ _ _, Ext.refl _⟩
  case round =>
    obtain ⟨m, l, rfl, hm, HP, HO, HX⟩ := hrel
    by_cases hlt : 127 < m
    · have hor := or128 m
      obtain ⟨c, hc⟩ : ∃ c, UInt8.ofNat (m % 128 + 128) = c := ⟨_, rfl⟩
      rw [hc] at hor
      have HC : Hid _ := hc
      have hlen : l.length ≤ 9 := by
        have h1 := putN_len9 (n := n) (by unfold maxW; omega)
        rw [HP.out, List.length_append] at h1
        omega
      clear hc
      go_wp2_with (at_builtin; go_must (refine app_u8 rfl _ _ rfl w.heap.size _ l.length _ rfl (owns_ext HO.out ((Ext.refl _).alloc _)) wr.heap.size 1 1 [c] rfl rfl (alloc_at _ _) (by omega) (by have := HX.out.size; simp; omega) ?_; intro v' w3 hown3 hg3))
      go_roundw
      case rel =>
        refine ⟨m / 128, l ++ [c], ?_, by omega, ?_, ?_, ?_⟩
        · go_num
        · unfold Hid
          rw [HP.out, putN_big hlt, HC.out, List.append_assoc]
          rfl
        · unfold Hid
          simpa using hown3
        · exact owns_ext_app (HX.out.alloc _) (owns_ext HO.out ((Ext.refl _).alloc _)) hg3
      case measure => simp [intOf]; omega
    · have hm7 : m ≤ 127 := by omega
      have hga : (wr.alloc (.cells #[.int .u8 m] 5)).heap[wr.heap.size]? = some (.cells (List.map (fun x : UInt8 => Value.int .u8 x.toNat) [UInt8.ofNat m]).toArray 5 (0, 0)) := by
        rw [alloc_at, List.map_cons, List.map_nil, ← low8 hm7]
      have hlen : l.length ≤ 9 := by
        have h1 := putN_len9 (n := n) (by unfold maxW; omega)
        rw [HP.out, List.length_append] at h1
        omega
      go_wp2_with (at_builtin; go_must (refine app_u8 rfl _ _ rfl w.heap.size _ l.length _ rfl (owns_ext HO.out ((Ext.refl _).alloc _)) wr.heap.size 1 1 [UInt8.ofNat m] rfl rfl hga (by omega) (by have := HX.out.size; simp; omega) ?_; intro v' w3 hown3 hg3))
      go_ret
      have hpe : putN n = l ++ [UInt8.ofNat m] := by rw [HP.out, putN_small hm7]
      rw [hpe]
      exact ⟨⟨_, rfl, by simpa using hown3⟩, owns_ext_app (HX.out.alloc _) (owns_ext HO.out ((Ext.refl _).alloc _)) hg3⟩

set_option maxRecDepth 100000 in
set_option maxHeartbeats 1000000 in
theorem wPut_any (n : Int) (w : World) :
    Calls Tryz.prog 155 #[.int .i64 n] w fun e w' => (∃ v, e = .returned (.tuple #[v, .int .i64 (putW n).2]) ∧ w'.ownsRow w.heap.size 5 1 v (putW n).1.length ((putW n).1.map fun x => .int .u8 x.toNat)) ∧ Ext w w' := by
  obtain ⟨r, hr⟩ : ∃ r, putW n = r := ⟨_, rfl⟩
  rw [hr]
  by_cases h0 : n < 0
  · have hb : r = ([], 1) := by rw [← hr]; unfold putW; rw [if_pos (.inl h0)]
    subst hb
    clear hr
    go_enter Tryz.func155, Tryz.ntmps155
    go_wp2
    go_ret2
    exact ⟨⟨_, rfl, World.ownsRow_nil _ _ _ _⟩, Ext.refl _⟩
  · by_cases h1 : (72057594037927936 : Int) < n
    · have hb : r = ([], 1) := by rw [← hr]; unfold putW; rw [if_pos (.inr h1)]
      subst hb
      clear hr
      go_enter Tryz.func155, Tryz.ntmps155
      go_wp2
      go_ret2
      exact ⟨⟨_, rfl, World.ownsRow_nil _ _ _ _⟩, Ext.refl _⟩
    · obtain ⟨k, rfl⟩ : ∃ k : Nat, n = k := ⟨n.toNat, by omega⟩
      have hb : r = (putN k, 0) := by rw [← hr]; unfold putW; rw [if_neg (by unfold maxW; omega)]; rfl
      subst hb
      clear hr
      go_enter Tryz.func155, Tryz.ntmps155
      go_wp2_with fail
      go_at_call 203
      refine (wput_any k w (by unfold maxW; omega)).mono ?_
      rintro e w1 ⟨⟨v, rfl, hv⟩, hx⟩
      have HV : Hid _ := hv
      have HX : Hid (Ext w w1) := hx
      clear hv hx
      go_wp2
      go_ret2
      exact ⟨⟨_, rfl, HV.out⟩, HX.out⟩

end Go.Proofs.YtdhgmpibjneplaaGreatDoor

/-! wire: Get; slices.Equal of bytes. Conditions: as each theorem states. -/
namespace Go.Proofs.YtdhgmpibjneplaaGreatDoor
open Go Go.RowKit
set_option linter.unusedVariables false
set_option linter.unusedSimpArgs false
set_option linter.unusedSectionVars false

theorem IsBytes.take {w : World} {a : Option Addr} {c : Nat} {b : B8} (h : IsBytes w (.slice a b.length c) b) {j : Nat} (hj : j ≤ b.length) : IsBytes w (.slice a j c) (b.take j) := by
  obtain ⟨a2, c2, he, h1, h2, h3, h4⟩ := h
  cases he
  have hl : (b.take j).length = j := by rw [List.length_take]; omega
  unfold IsBytes
  rw [hl]
  refine ⟨a, c, rfl, by omega, h2, by omega, fun hne => ?_⟩
  obtain ⟨bb, o, rfl, hc⟩ := h4 (by
    intro e
    rw [List.map_eq_nil_iff] at e
    subst e
    simp at hne)
  refine ⟨bb, o, rfl, fun i u hu => ?_⟩
  have hi := (List.getElem?_eq_some_iff.1 hu).1
  rw [List.length_map, hl] at hi
  refine hc i u ?_
  rw [List.getElem?_map] at hu ⊢
  rwa [List.getElem?_take_of_lt hi] at hu
end Go.Proofs.YtdhgmpibjneplaaGreatDoor

/-! A region that draws its order and whose calls make blocks of their own: that the blocks of two of them differ is known behind it. Conditions: each operation of the head leaves what was there as it was. -/
namespace Go.Proofs.YtdhgmpibjneplaaGreatDoor
open Go Go.RowKit

/-- The block that a map or a slice lies in. -/
def blkOf : Value → Option Nat
  | .map (some g) => some g
  | .slice (some a) _ _ => some a.block
  | .pointer (some a) => some a.block
  | _ => none
/-- What an operation hands back lies in a block that it made. -/
def FreshIn (u : Value) (w w' : World) : Prop := ∀ b, blkOf u = some b → w.heap.size ≤ b ∧ b < w'.heap.size
def Dis (F : List Nat) (xs : Nat → Value) (i j : Nat) : Prop := i ∈ F → j ∈ F → i ≠ j → ∀ b, blkOf (xs i) = some b → blkOf (xs j) = some b → False

section
variable {P : Program} {C : World → Prop} {le : World → World → Prop}
def stepDis (P : Program) (C : World → Prop) (le : World → World → Prop) (F : List Nat) (ops : Array Oper) (V : List (Value → World → Prop)) (head : List Oper) (a0 : Act) (k : Nat) (d : List Nat) (o : Oper) : Prop :=
  ∀ (xs : Nat → Value) (w : World), C w → knows V xs w d → ∀ R : Value → World → Prop, (∀ u w', le w w' → getV V k u w' → (k ∈ F → FreshIn u w w') → R u w') →
    if Region.wanted o (yielded ops (fillFrom xs head 0 a0).tmps) then relUpon P R ((execOp (fillFrom xs head 0 a0).eval o).run P w) else R undef w
def oblDis (P : Program) (C : World → Prop) (le : World → World → Prop) (F : List Nat) (ops : Array Oper) (V : List (Value → World → Prop)) (D : List (List Nat)) (head : List Oper) (a0 : Act) : List Oper → Nat → Prop
  | [], _ => True
  | o :: l, k => stepDis P C le F ops V head a0 k (D.getD k []) o ∧ oblDis P C le F ops V D head a0 l (k + 1)
structure RDis (C : World → Prop) (F : List Nat) (ops : Array Oper) (n : Nat) (V : List (Value → World → Prop)) (a0 : Act) (listed : Array Bool) (a : Act) (w : World) : Prop where
  head : HeadInv .any ops n listed
  ext : C w
  fill : ∃ xs : Nat → Value, a = fillFrom xs (ops.toList.take n) 0 a0 ∧ (∀ j, j < n → listed.getD j false = true → getV V j (xs j) w) ∧ (∀ i j, i < n → j < n → listed.getD i false = true → listed.getD j false = true → Dis F xs i j) ∧ (∀ j, j < n → listed.getD j false = true → j ∈ F → ∀ b, blkOf (xs j) = some b → b < w.heap.size)

end

end Go.Proofs.YtdhgmpibjneplaaGreatDoor
