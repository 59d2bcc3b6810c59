/- table.Set, table.Same. Conditions: as each theorem states. -/
import Derived.Test.YtalpfoomkhhgnaaGreatDoorZad
import Derived.Test.YtalpfoomkhhgnaaGreatDoorZaf
import Derived.Test.YtalpfoomkhhgnaaGreatDoorZag
import Derived.Test.YtalpfoomkhhgnaaGreatDoorZae
import Derived.Deep.DeepCutAuto
import Derived.Test.YtalpfoomkhhgnaaGreatDoorZac
import Derived.Test.YtalpfoomkhhgnaaGreatDoorZab
import Derived.Test.YtalpfoomkhhgnaaGreatDoorZaa
import Derived.Lib.SliceRun
import Derived.Lib.SlKept
import Derived.Shelf.SlicesQ.IndexFunc
import Derived.Shelf.SlicesE.DeleteFunc
import Derived.Deep.Upon
import Derived.OwnWalk
import Derived.BigQuiet
import Derived.Test.YtalpfoomkhhgnaaGreatDoorShelf
import Derived.Shelf.SlicesQ.Equal
import Derived.Shelf.SlSortCmp.NoneTotal

set_option linter.unusedVariables false
set_option linter.unusedSimpArgs false
set_option linter.unusedSectionVars false

/-! Tables' rows in memory. No conditions of its own. -/
namespace Go.Proofs.YtalpfoomkhhgnaaGreatDoor
open Go Go.RowKit

def rwC (r : Rw) : List Value := [S8 r.path, .int .i64 r.mode, S8 r.id]
/-- The slice holds these rows. -/
def IsRws (w : World) (v : Value) (l : List Rw) : Prop := Row w v l.length (l.flatMap rwC)
theorem IsRws.ext {w w' : World} {v : Value} {l : List Rw} (h : IsRws w v l) (hx : Ext w w') : IsRws w' v l := Row.ext h hx
theorem IsRws.nil (w : World) : IsRws w (.slice none 0 0) [] := Row.nil w
theorem flat_rw : ∀ (l : List Rw) (k : Nat) (x : Rw), l[k]? = some x → (l.flatMap rwC)[3 * k]? = some (S8 x.path) ∧ (l.flatMap rwC)[3 * k + 1]? = some (.int .i64 x.mode) ∧ (l.flatMap rwC)[3 * k + 2]? = some (S8 x.id)
  | [], k, x, h => by simp at h
  | y :: l, 0, x, h => by
    simp only [List.getElem?_cons_zero, Option.some.injEq] at h
    subst h
    exact ⟨rfl, rfl, rfl⟩
  | y :: l, k + 1, x, h => by
    have ih := flat_rw l k x (by simpa using h)
    have e : (y :: l).flatMap rwC = S8 y.path :: .int .i64 y.mode :: S8 y.id :: l.flatMap rwC := by rw [List.flatMap_cons]; rfl
    rw [e, show 3 * (k + 1) = 3 * k + 1 + 1 + 1 by omega]
    exact ih
theorem IsRws.get {w : World} {v : Value} {l : List Rw} (h : IsRws w v l) : ∃ a cap, v = .slice a l.length cap ∧ l.length ≤ cap ∧ l.length ≤ 140737488355328 ∧ cap ≤ 9223372036854775807 ∧
    ∀ (k : Nat) x, l[k]? = some x → ∃ b o, a = some ⟨b, o, none⟩ ∧ w.cell? ⟨b, o + 3 * k, none⟩ = some (S8 x.path) ∧ w.cell? ⟨b, o + 3 * k + 1, none⟩ = some (.int .i64 x.mode) ∧ w.cell? ⟨b, o + 3 * k + 2, none⟩ = some (S8 x.id) := by
  obtain ⟨a, cap, rfl, h1, h2, h3, h4⟩ := h
  refine ⟨a, cap, rfl, h1, h3, h2, fun k x hk => ?_⟩
  obtain ⟨e0, e1, e2⟩ := flat_rw l k x hk
  obtain ⟨b, o, ha, hc⟩ := h4 (fun h0 => by rw [h0] at e0; simp at e0)
  exact ⟨b, o, ha, hc _ _ e0, by have := hc _ _ e1; rwa [← Nat.add_assoc] at this, by have := hc _ _ e2; rwa [← Nat.add_assoc] at this⟩

end Go.Proofs.YtalpfoomkhhgnaaGreatDoor

/-! scan: an index in memory; NewIndex, hash. Conditions: as each theorem states. -/
namespace Go.Proofs.YtalpfoomkhhgnaaGreatDoor
open Go Go.RowKit Go.Sort
set_option linter.unusedVariables false
set_option linter.unusedSimpArgs false
set_option linter.unusedSectionVars false

def knV (f : Fi) : Value := .agg #[.int .i64 f.time, S8 f.data]
section
variable {w0 w w' : World} {O O' : Nat → Prop} {gs gc gi gx : Nat} {ix : Files} {wr : Int}
end
/-- All blocks but X are as they were, and apart from the file system still. -/
def FrX (X O O' : Nat → Prop) (w w' : World) : Prop := ∀ k, k < w.heap.size → ¬ O k → ¬ X k → w'.heap[k]? = w.heap[k]? ∧ ¬ O' k
section
variable {X Y O O1 O2 O' : Nat → Prop} {w w1 w2 w' : World} {gs gc : Nat}
theorem FrX.of (h : FrS O O' gs gc w w') (h1 : X gs) (h2 : X gc) : FrX X O O' w w' := fun k hk hO hX => h k hk hO (fun e => hX (e ▸ h1)) (fun e => hX (e ▸ h2))
theorem FrX.ext (h : Ext w w1) : FrX X O O w w1 := fun k hk hO _ => ⟨h.block k hk, hO⟩
theorem FrX.lt (h : FrX X O O' w w') {k : Nat} (hk : k < w.heap.size) (hO : ¬ O k) (hX : ¬ X k) : k < w'.heap.size := by
  have : w'.heap[k]? = some (w.heap[k]'hk) := (h k hk hO hX).1.trans (Array.getElem?_eq_getElem hk)
  exact (Array.getElem?_eq_some_iff.1 this).1
theorem FrX.trans (h : FrX X O O1 w w1) (g : FrX X O1 O2 w1 w2) : FrX X O O2 w w2 := fun k hk hO hX => by
  obtain ⟨a, b⟩ := h k hk hO hX
  obtain ⟨c, d⟩ := g k (h.lt hk hO hX) b hX
  exact ⟨c.trans a, d⟩
theorem FrX.mono (h : FrX X O O' w w') (hXY : ∀ k, X k → Y k) : FrX Y O O' w w' := fun k hk hO hY => h k hk hO (fun hX => hY (hXY k hX))
theorem FrX.but {b : Nat} (h : w.grownBy w' (some b)) (hb : X b) : FrX X O O w w' := fun k hk hO hX => ⟨h.block k hk (fun e => hX (by cases e; exact hb)), hO⟩
theorem FrX.row (h : FrX X O O' w w') {k : Nat} {o : Obj} (hk : w.heap[k]? = some o) (hO : ¬ O k) (hX : ¬ X k) : w'.heap[k]? = some o ∧ ¬ O' k := by
  obtain ⟨a, b⟩ := h k (Array.getElem?_eq_some_iff.1 hk).1 hO hX
  exact ⟨a.trans hk, b⟩
end
def trM (m : Fs) (ix : Files) (wr : Int) (p : B8) (f : Fi) : Fs × Bool := if trustX ix wr p f.time = true then ((getO m (lookD ix p)).1, hasO m (lookD ix p)) else (m, false)
def kn0 : Fi := ⟨0, [], 0⟩
def lookK (ix : Files) (p : B8) : Fi := (look ix p).getD kn0
variable [Inhabited BaseW] [KW : Inhabited KeptW]
end Go.Proofs.YtalpfoomkhhgnaaGreatDoor

/-! names: Pattern, takes, Ignored. Conditions: texts of at most 1000000 signs. -/
namespace Go.Proofs.YtalpfoomkhhgnaaGreatDoor
open Go Go.RowKit
set_option linter.unusedVariables false
set_option linter.unusedSimpArgs false
set_option linter.unusedSectionVars false

def hitF (rest : B8) (dir : Bool) (n : Nat) (x : B8 × Nat) : Bool := takesB rest x.1 && !(dir && decide (x.2 + 1 = n))
end Go.Proofs.YtalpfoomkhhgnaaGreatDoor

/-! scan: Scan. Conditions: as each theorem states. -/
namespace Go.Proofs.YtalpfoomkhhgnaaGreatDoor
open Go Go.RowKit Go.Sort
set_option linter.unusedVariables false
set_option linter.unusedSimpArgs false
set_option linter.unusedSectionVars false

theorem info_rw : (Tryz.prog.info? 30).map (fun i => (i.zero, i.size, i.bytes)) = some (some (.agg #[S8 [], .int .i64 0, S8 []]), 3, 40) := by kernel_rfl
section
variable {ops : Array Oper} {rest : List Oper} {o : Oper} {a : Act} {Q : Exit → Act → World → Prop} {w : World}
/-- append of a row that lies in a block known whole; where the slice then lies. -/
theorem app_rw (hgd : o.guard = none) (s x : Operand) (ho : o.op = .call { callee := .builtin .append, args := #[s, x], argTypes := #[22, 22] })
    (base : Nat) (v : Value) (n : Nat) (xs : List Value) (hs : a.eval s = v) (hown : w.ownsRow base 30 3 v n xs)
    (g c : Nat) (r : Rw) (hx : a.eval x = .slice (some ⟨g, 0, none⟩) 1 c) {fr : Nat × Nat} (hg : w.heap[g]? = some (.cells #[S8 r.path, .int .i64 r.mode, S8 r.id] 30 fr))
    (hb : n ≤ 10000000) (hbase : base ≤ w.heap.size)
    (h : ∀ v' w', w'.ownsRow base 30 3 v' (n + 1) (xs ++ rwC r) → w.grownBy w' v.ownBlock → (∀ k, v'.ownBlock = some k → v.ownBlock = some k ∨ w.heap.size ≤ k) → wpList Tryz.prog ops Q rest (a.put o.dst v') w') : wpList Tryz.prog ops Q (o :: rest) a w := by
  obtain ⟨i0, hi, hz0, hz1, hz2⟩ := info_parts info_rw
  exact wpList_append_own_at w hgd s x _ ho base _ i0 _ 3 40 Tryz.underlying22 hi hz0 hz1 hz2 rfl (by omega) v n xs hs hown ⟨g, 0, none⟩ 1 c (rwC r) hx rfl (by simpa [rwC] using news_of_block hg) (fun u hu => by simp [rwC] at hu; rcases hu with rfl | rfl | rfl <;> rfl) (by unfold maxLen; omega) (by omega) hbase
    (fun v' w' h1 h2 _ h4 => h v' w' h1 h2 (fun k hk => by
      rcases h4 with h4 | h4
      · exact .inl (h4.symm.trans hk)
      · rw [h4] at hk; simp only [Option.some.injEq] at hk; exact .inr (by omega)))
end
theorem row_same {w w' : World} {v : Value} {n : Nat} {cs : List Value} (h : Row w v n cs) (hb : ∀ q, v.ownBlock = some q → w'.heap[q]? = w.heap[q]?) : Row w' v n cs := by
  obtain ⟨a, cap, rfl, h1, h2, h3, h4⟩ := h
  refine ⟨a, cap, rfl, h1, h2, h3, fun hn => ?_⟩
  obtain ⟨b, o, rfl, hc⟩ := h4 hn
  refine ⟨b, o, rfl, fun i u hu => ?_⟩
  have hcu := hc i u hu
  rw [World.cell?_of_block (w := w) (w' := w') (a := ⟨b, o + i, none⟩) (hb b rfl)]
  exact hcu
variable [Inhabited BaseW] [KW : Inhabited KeptW]
end Go.Proofs.YtalpfoomkhhgnaaGreatDoor

/-! Lists of texts in order, each once; in plain Lean. Conditions: as each theorem states. -/
namespace Go.Proofs.YtalpfoomkhhgnaaGreatDoor
open Go Go.RowKit

/-- a is not behind b. -/
def leT (a b : B8) : Bool := !ltB b a
theorem leT_trans (a b c : B8) (h1 : leT a b = true) (h2 : leT b c = true) : leT a c = true := by
  unfold leT at *
  cases h3 : ltB c a with
  | false => rfl
  | true =>
    exfalso
    simp only [Bool.not_eq_true'] at h1 h2
    by_cases hab : a = b
    · subst hab; rw [h3] at h2; cases h2
    · have h4 := ltB_total h1 (fun e => hab e.symm)
      have h5 := ltB_trans h3 h4
      rw [h5] at h2; cases h2
theorem leT_total (a b : B8) : (leT a b || leT b a) = true := by
  unfold leT
  cases h1 : ltB b a with
  | false => rfl
  | true =>
    cases h2 : ltB a b with
    | false => rfl
    | true =>
      have := ltB_trans h1 h2
      have := ltB_ne this
      exact (this rfl).elim
theorem leT_anti {a b : B8} (h1 : leT a b = true) (h2 : leT b a = true) : a = b := by
  unfold leT at h1 h2
  simp only [Bool.not_eq_true'] at h1 h2
  by_cases h : a = b
  · exact h
  · have := ltB_total h1 (fun e => h e.symm)
    rw [this] at h2; cases h2
def upL (l : List B8) : Prop := l.Pairwise fun a b => leT a b = true
/-- Texts in order. -/
def sortT (l : List B8) : List B8 := l.mergeSort leT
theorem sortT_perm (l : List B8) : (sortT l).Perm l := List.mergeSort_perm l leT
theorem sortT_up (l : List B8) : upL (sortT l) := List.pairwise_mergeSort leT_trans leT_total l
theorem up_ext : ∀ {a b : List B8}, upL a → upL b → a.Perm b → a = b
  | [], b, _, _, h => by have := h.length_eq; exact (List.eq_nil_of_length_eq_zero this.symm).symm
  | x :: a, [], _, _, h => by have := h.length_eq; simp at this
  | x :: a, y :: b, ha, hb, h => by
    have ha' := List.pairwise_cons.1 ha
    have hb' := List.pairwise_cons.1 hb
    have hxy : x = y := by
      have h1 : x ∈ y :: b := h.subset (by simp)
      have h2 : y ∈ x :: a := h.symm.subset (by simp)
      rcases List.mem_cons.1 h1 with h1 | h1
      · exact h1
      · rcases List.mem_cons.1 h2 with h2 | h2
        · exact h2.symm
        · exact leT_anti (ha'.1 _ h2) (hb'.1 _ h1)
    subst hxy
    rw [up_ext ha'.2 hb'.2 (List.Perm.cons_inv h)]
theorem sortT_of {l r : List B8} (hp : r.Perm l) (hu : upL r) : r = sortT l := up_ext hu (sortT_up l) (hp.trans (sortT_perm l).symm)
/-- Runs of one text, cut to one. -/
def runs1 : List B8 → List B8
  | a :: b :: l => if a = b then runs1 (b :: l) else a :: runs1 (b :: l)
  | l => l
def riseT (l : List B8) : Prop := l.Pairwise fun a b => ltB a b = true
/-- Texts in order, each once. -/
def uniqT (l : List B8) : List B8 := runs1 (sortT l)
end Go.Proofs.YtalpfoomkhhgnaaGreatDoor

/-! Two lists that rise, merged, in plain Lean; a text that is set into a list that rises. Conditions: as each theorem states. -/
namespace Go.Proofs.YtalpfoomkhhgnaaGreatDoor
open Go Go.RowKit

/-- A merge under way: what is left of both, what is done. -/
structure MInv (A B a b C : List B8) : Prop where
  ua : upL a
  ub : upL b
  uc : upL C
  le : ∀ c ∈ C, ∀ x ∈ a ++ b, leT c x = true
  perm : (C ++ (a ++ b)).Perm (A ++ B)
theorem MInv.start {A B : List B8} (ha : upL A) (hb : upL B) : MInv A B A B [] := ⟨ha, hb, List.Pairwise.nil, (fun c hc => by cases hc), List.Perm.refl _⟩
theorem MInv.swap {A B a b C : List B8} (h : MInv A B a b C) : MInv A B b a C :=
  ⟨h.ub, h.ua, h.uc, fun c hc x hx => h.le c hc x (List.perm_append_comm.mem_iff.1 hx), ((List.Perm.append_left C (List.perm_append_comm (l₁ := b) (l₂ := a)))).trans h.perm⟩
theorem MInv.step {A B a b C : List B8} {x y : B8} (h : MInv A B (x :: a) (y :: b) C) (hc : ltB y x = false) : MInv A B a (y :: b) (C ++ [x]) := by
  have hxy : leT x y = true := by unfold leT; rw [hc]; rfl
  have hx : ∀ z ∈ a ++ y :: b, leT x z = true := fun z hz => by
    rcases List.mem_append.1 hz with hz | hz
    · exact (List.pairwise_cons.1 h.ua).1 z hz
    · rcases List.mem_cons.1 hz with rfl | hz
      · exact hxy
      · exact leT_trans _ _ _ hxy ((List.pairwise_cons.1 h.ub).1 z hz)
  refine ⟨(List.pairwise_cons.1 h.ua).2, h.ub, List.pairwise_append.2 ⟨h.uc, List.pairwise_singleton _ _, fun c hc z hz => ?_⟩, fun c hc z hz => ?_, ?_⟩
  · rw [List.mem_singleton.1 hz]
    exact h.le c hc x (by simp)
  · rcases List.mem_append.1 hc with hc | hc
    · exact h.le c hc z (by rw [List.cons_append]; exact List.mem_cons_of_mem _ hz)
    · rw [List.mem_singleton.1 hc]
      exact hx z hz
  · have := h.perm
    simpa using this
theorem MInv.fin {A B a C : List B8} (h : MInv A B a [] C) : C ++ a = sortT (A ++ B) := by
  refine sortT_of (by simpa using h.perm) (List.pairwise_append.2 ⟨h.uc, h.ua, fun c hc z hz => h.le c hc z (by simpa using hz)⟩)
theorem MInv.len {A B a b C : List B8} (h : MInv A B a b C) : C.length + (a.length + b.length) = A.length + B.length := by
  have := h.perm.length_eq
  simpa using this
theorem sort_halves (l : List B8) (k : Nat) : sortT (sortT (l.take k) ++ sortT (l.drop k)) = sortT l := by
  refine sortT_of ((sortT_perm _).trans ?_) (sortT_up _)
  have h : (l.take k ++ l.drop k).Perm l := by rw [List.take_append_drop]
  exact ((sortT_perm _).append (sortT_perm _)).trans h
theorem sort_small {l : List B8} (h : l.length < 2) : sortT l = l := by
  refine (sortT_of (List.Perm.refl _) ?_).symm
  match l, h with
  | [], _ => exact List.Pairwise.nil
  | [x], _ => exact List.pairwise_singleton _ _
theorem sortT_len (l : List B8) : (sortT l).length = l.length := (sortT_perm l).length_eq

/-! ### A text set into a list that rises -/
end Go.Proofs.YtalpfoomkhhgnaaGreatDoor

/-! What differs between two tables; a row is set, in plain Lean. Conditions: as each theorem states. -/
namespace Go.Proofs.YtalpfoomkhhgnaaGreatDoor
open Go Go.RowKit

def entG (l : List Rw) (p : B8) : Int × B8 := match l.find? (fun r => r.path == p) with
  | some r => (r.mode, r.id)
  | none => (0, [])
structure Chg where
  path : B8
  old : Int × B8
  new : Int × B8
def pathsT (a b : List Rw) : List B8 := uniqT (a.map (·.path) ++ b.map (·.path))
def difL (a b : List Rw) (l : List B8) : List Chg := (l.filter fun p => entG a p != entG b p).map fun p => ⟨p, entG a p, entG b p⟩
def statM (a b : List Rw) : List Chg := difL a b (pathsT a b)
/-- A row is set: what is done so far; whether it is set. -/
def setStep (n : Rw) (x : List Rw × Bool) (r : Rw) : List Rw × Bool :=
  ((x.1 ++ (if (!x.2 && !ltB r.path n.path) = true then [n] else [])) ++ (if r.path = n.path then [] else [r]), x.2 || !ltB r.path n.path)
def setEndR (n : Rw) (x : List Rw × Bool) : List Rw := if x.2 = true then x.1 else x.1 ++ [n]
def setR (l : List Rw) (n : Rw) : List Rw := setEndR n (l.foldl (setStep n) ([], decide (n.mode = 0)))

/-- A table: its paths rise, each row is of something. -/
structure Tb (l : List Rw) : Prop where
  rise : riseT (l.map (·.path))
  mode : ∀ r ∈ l, r.mode ≠ 0
theorem lt_irr (a : B8) : ltB a a = false := by
  unfold ltB
  rw [decide_eq_false_iff_not]
  exact List.lt_irrefl a
theorem lt_trans' {a b c : B8} (h1 : ltB a b = true) (h2 : ltB b c = true) : ltB a c = true := by
  unfold ltB at h1 h2 ⊢
  rw [decide_eq_true_eq] at h1 h2 ⊢
  exact List.lt_trans h1 h2
theorem lt_ne {a b : B8} (h : ltB a b = true) : a ≠ b := fun e => by rw [e, lt_irr] at h; cases h
theorem lt_asym {a b : B8} (h : ltB a b = true) : ltB b a = false := by
  cases hq : ltB b a with
  | false => rfl
  | true => have := lt_trans' h hq; rw [lt_irr] at this; cases this
theorem lt_tri {a b : B8} (h1 : ltB a b = false) (h2 : a ≠ b) : ltB b a = true := by
  cases hq : ltB b a with
  | true => rfl
  | false => exact (h2 (leT_anti (by unfold leT; rw [hq]; rfl) (by unfold leT; rw [h1]; rfl))).elim
theorem Tb.tail {r : Rw} {l : List Rw} (h : Tb (r :: l)) : Tb l := ⟨(List.pairwise_cons.1 h.rise).2, fun x hx => h.mode x (by simp [hx])⟩
theorem Tb.head {r : Rw} {l : List Rw} (h : Tb (r :: l)) : ∀ x ∈ l, ltB r.path x.path = true := fun x hx => (List.pairwise_cons.1 h.rise).1 _ (List.mem_map.2 ⟨x, hx, rfl⟩)
theorem ent_none {l : List Rw} {p : B8} (h : ∀ r ∈ l, r.path ≠ p) : entG l p = (0, []) := by
  unfold entG
  rw [List.find?_eq_none.2 (fun r hr => by simpa using h r hr)]
def below (p : B8) (l : List Rw) : List Rw := l.filter fun r => ltB r.path p
def above (p : B8) (l : List Rw) : List Rw := l.filter fun r => ltB p r.path
/-- What differs, done to the one table, makes the other one. -/
def doneR (a : List Rw) (L : List Chg) : List Rw := L.foldl (fun l c => setR l ⟨c.path, c.new.1, c.new.2⟩) a
end Go.Proofs.YtalpfoomkhhgnaaGreatDoor

/-! Tables: what may be one, entries, paths, what is set into a list that rises; in plain Lean. Conditions: as each theorem states. -/
namespace Go.Proofs.YtalpfoomkhhgnaaGreatDoor
open Go Go.RowKit

def zRw : Rw := ⟨[], 0, []⟩
theorem ent_at {l : List Rw} {k : Nat} {x : Rw} (h : ∀ r ∈ l.take k, r.path ≠ x.path) (hx : l[k]? = some x) : entG l x.path = (x.mode, x.id) := by
  obtain ⟨hlt, he⟩ := List.getElem?_eq_some_iff.1 hx
  have e : l = l.take k ++ x :: l.drop (k + 1) := by
    rw [← he, List.getElem_cons_drop, List.take_append_drop]
  unfold entG
  rw [e, List.find?_append, List.find?_eq_none.2 (fun r hr => by simpa using h r hr)]
  simp
theorem ne_snoc {l : List Rw} {k : Nat} {x : Rw} {p : B8} (h : ∀ r ∈ l.take k, r.path ≠ p) (hx : l[k]? = some x) (hp : x.path ≠ p) : ∀ r ∈ l.take (k + 1), r.path ≠ p := by
  rw [List.take_add_one, hx]
  intro r hr
  rcases List.mem_append.1 hr with hr | hr
  · exact h r hr
  · obtain rfl : r = x := by simpa using hr
    exact hp

/-! ### Entries -/
def entStep (m : Files) (r : Rw) : Files := if (look m r.path).isSome = true then m else putF m r.path ⟨r.mode, r.id, 0⟩
def entF (l : List Rw) : Files := l.foldl entStep []
theorem take_snocR {α : Type} {l : List α} {k : Nat} {x : α} (h : l[k]? = some x) : l.take (k + 1) = l.take k ++ [x] := by rw [List.take_add_one, h]; rfl
/-! ### Paths -/
def pathsLs (ls : List (List Rw)) : List B8 := ls.flatMap fun l => l.map (·.path)
def statStep (a b : List Rw) (p : B8) : List Chg := if (entG a p != entG b p) = true then [⟨p, entG a p, entG b p⟩] else []
/-! ### A text set into a list that rises -/
theorem rise_lt {U : List B8} (h : riseT U) {i j : Nat} {x y : B8} (hx : U[i]? = some x) (hy : U[j]? = some y) (hij : i < j) : ltB x y = true := by
  obtain ⟨h1, rfl⟩ := List.getElem?_eq_some_iff.1 hx
  obtain ⟨h2, rfl⟩ := List.getElem?_eq_some_iff.1 hy
  exact List.pairwise_iff_getElem.1 h i j h1 h2 hij
/-! ### What may be a table, by the document -/
def parL (s : B8) (k : Nat) : List B8 := ((List.range k).filter fun i => s.getD i 0 == 47).map s.take
def parR (s : B8) : List B8 := if pathB s = true then parL s s.length else []
def mayR0 (l : List Rw) (k : Nat) (x : Rw) : Bool := pathB (dirW ++ x.path) && (decide (1 ≤ x.mode) && (decide (x.mode ≤ 3) && (validB x.id && (decide (k = 0) || ltB (l.getD (k - 1) zRw).path x.path))))
def mayRow (l : List Rw) (k : Nat) (x : Rw) : Bool := mayR0 l k x && (parR x.path).all fun p => (entG l p).1 == 0
def mayT (l : List Rw) : Bool := decide (l.length ≤ 256) && (List.range l.length).all fun k => mayRow l k (l.getD k zRw)
theorem getD_at {l : List Rw} {k : Nat} {x : Rw} (h : l[k]? = some x) : l.getD k zRw = x := by rw [List.getD_eq_getElem?_getD, h]; rfl
/-! ### Set, row by row -/
end Go.Proofs.YtalpfoomkhhgnaaGreatDoor

/-! What is set in a table: in plain Lean. Conditions: as each theorem states. -/
namespace Go.Proofs.YtalpfoomkhhgnaaGreatDoor
open Go Go.RowKit

def delR (l : List Rw) (p : B8) : List Rw := l.filter fun r => !(r.path == p)
def outR (l : List Rw) (p : B8) (e : Int × B8) : List Rw := delR l p ++ (if e.1 = 0 then [] else [⟨p, e.1, e.2⟩])
def RiseR (l : List Rw) : Prop := l.Pairwise fun a b => ltB a.path b.path = true
/-- The rows sorted. -/
def IsSet (l : List Rw) (p : B8) (e : Int × B8) (s : List Rw) : Prop := (∀ x, x ∈ s ↔ x ∈ outR l p e) ∧ s.length = (outR l p e).length ∧ RiseR s

theorem mem_delR {l : List Rw} {p : B8} {x : Rw} : x ∈ delR l p ↔ x ∈ l ∧ x.path ≠ p := by
  unfold delR
  rw [List.mem_filter]
  simp
theorem mem_outR {l : List Rw} {p : B8} {e : Int × B8} {x : Rw} : x ∈ outR l p e ↔ (x ∈ l ∧ x.path ≠ p) ∨ (e.1 ≠ 0 ∧ x = ⟨p, e.1, e.2⟩) := by
  unfold outR
  rw [List.mem_append, mem_delR]
  by_cases h : e.1 = 0
  · simp [h]
  · simp [h]
theorem rise_inj {l : List Rw} (h : RiseR l) : ∀ {x y : Rw}, x ∈ l → y ∈ l → x.path = y.path → x = y := by
  induction l with
  | nil => intro x y hx; cases hx
  | cons r l ih =>
    have h' := List.pairwise_cons.1 h
    intro x y hx hy he
    rcases List.mem_cons.1 hx with hx1 | hx1
    · rcases List.mem_cons.1 hy with hy1 | hy1
      · rw [hx1, hy1]
      · rw [hx1] at he; exact (lt_ne (h'.1 _ hy1) he).elim
    · rcases List.mem_cons.1 hy with hy1 | hy1
      · rw [hy1] at he; exact (lt_ne (h'.1 _ hx1) he.symm).elim
      · exact ih h'.2 hx1 hy1 he
theorem riseR_ext : ∀ {a b : List Rw}, RiseR a → RiseR b → (∀ x, x ∈ a ↔ x ∈ b) → a = b
  | [], [], _, _, _ => rfl
  | [], y :: b, _, _, h => by have := (h y).2 (by simp); cases this
  | x :: a, [], _, _, h => by have := (h x).1 (by simp); cases this
  | x :: a, y :: b, ha, hb, h => by
    have ha' := List.pairwise_cons.1 ha
    have hb' := List.pairwise_cons.1 hb
    have hne : ∀ {u v : B8}, ltB u v = true → ltB v u = true → False := fun h1 h2 => by rw [lt_asym h1] at h2; cases h2
    have hxy : x = y := by
      rcases List.mem_cons.1 ((h x).1 (by simp)) with h1 | h1
      · exact h1
      · rcases List.mem_cons.1 ((h y).2 (by simp)) with h2 | h2
        · exact h2.symm
        · exact (hne (ha'.1 _ h2) (hb'.1 _ h1)).elim
    subst hxy
    rw [riseR_ext ha'.2 hb'.2 (fun z => by
      have hz := h z
      simp only [List.mem_cons] at hz
      constructor
      · intro hza
        rcases hz.1 (.inr hza) with e | hm
        · subst e; exact (lt_ne (ha'.1 _ hza) rfl).elim
        · exact hm
      · intro hzb
        rcases hz.2 (.inr hzb) with e | hm
        · subst e; exact (lt_ne (hb'.1 _ hzb) rfl).elim
        · exact hm)]
theorem entR_mem {l : List Rw} (h : RiseR l) {x : Rw} (hx : x ∈ l) : entG l x.path = (x.mode, x.id) := by
  unfold entG
  cases hf : l.find? (fun r => r.path == x.path) with
  | none => exact ((by simpa using List.find?_eq_none.1 hf x hx) : False).elim
  | some r =>
    have h1 : r.path = x.path := by simpa using List.find?_some hf
    have h2 := rise_inj h (List.mem_of_find?_eq_some hf) hx h1
    rw [h2]
theorem entR_none {l : List Rw} {p : B8} (h : ∀ x ∈ l, x.path ≠ p) : entG l p = (0, []) := by
  unfold entG
  rw [List.find?_eq_none.2 (fun r hr => by simpa using h r hr)]
theorem entR_cases {l : List Rw} (h : RiseR l) (p : B8) : (∃ x ∈ l, x.path = p ∧ entG l p = (x.mode, x.id)) ∨ ((∀ x ∈ l, x.path ≠ p) ∧ entG l p = (0, [])) := by
  by_cases hx : ∃ x ∈ l, x.path = p
  · obtain ⟨x, h1, rfl⟩ := hx
    exact .inl ⟨x, h1, rfl, entR_mem h h1⟩
  · have h1 : ∀ x ∈ l, x.path ≠ p := fun x hx' he => hx ⟨x, hx', he⟩
    exact .inr ⟨h1, entR_none h1⟩
theorem set_get {l s : List Rw} {p : B8} {e : Int × B8} (hs : IsSet l p e s) : entG s p = if e.1 = 0 then (0, []) else e := by
  by_cases h : e.1 = 0
  · rw [if_pos h]
    refine entR_none fun x hx he => ?_
    rcases mem_outR.1 ((hs.1 x).1 hx) with h1 | h1
    · exact h1.2 he
    · exact h1.1 h
  · rw [if_neg h]
    exact entR_mem hs.2.2 (x := ⟨p, e.1, e.2⟩) ((hs.1 _).2 (mem_outR.2 (.inr ⟨h, rfl⟩)))
theorem set_other {l s : List Rw} {p q : B8} {e : Int × B8} (hl : RiseR l) (hs : IsSet l p e s) (hq : q ≠ p) : entG s q = entG l q := by
  rcases entR_cases hl q with ⟨x, h1, h2, h3⟩ | ⟨h1, h2⟩
  · have hx : x ∈ s := (hs.1 x).2 (mem_outR.2 (.inl ⟨h1, by rw [h2]; exact hq⟩))
    rw [h3, ← h2]
    exact entR_mem hs.2.2 hx
  · rw [h2]
    refine entR_none fun x hx he => ?_
    rcases mem_outR.1 ((hs.1 x).1 hx) with h3 | h3
    · exact h1 x h3.1 he
    · rw [h3.2] at he; exact hq he.symm
/-- Set back it is the table. -/
theorem set_back {l s t : List Rw} {p : B8} {e : Int × B8} (hl : RiseR l) (hm : ∀ x ∈ l, x.mode ≠ 0) (hs : IsSet l p e s) (ht : IsSet s p (entG l p) t) : t = l := by
  refine riseR_ext ht.2.2 hl fun x => ?_
  rw [ht.1 x, mem_outR]
  rcases entR_cases hl p with ⟨y, h1, h2, h3⟩ | ⟨h1, h2⟩
  · rw [h3]
    constructor
    · rintro (⟨g1, g2⟩ | ⟨g1, g2⟩)
      · rcases mem_outR.1 ((hs.1 x).1 g1) with g3 | g3
        · exact g3.1
        · rw [g3.2] at g2; exact (g2 rfl).elim
      · rw [g2, ← h2]; exact h1
    · intro hx
      by_cases hp : x.path = p
      · have : x = y := rise_inj hl hx h1 (hp.trans h2.symm)
        subst this
        exact .inr ⟨hm x hx, by rw [← hp]⟩
      · exact .inl ⟨(hs.1 x).2 (mem_outR.2 (.inl ⟨hx, hp⟩)), hp⟩
  · rw [h2]
    constructor
    · rintro (⟨g1, g2⟩ | ⟨g1, -⟩)
      · rcases mem_outR.1 ((hs.1 x).1 g1) with g3 | g3
        · exact g3.1
        · rw [g3.2] at g2; exact (g2 rfl).elim
      · exact (g1 rfl).elim
    · intro hx
      exact .inl ⟨(hs.1 x).2 (mem_outR.2 (.inl ⟨hx, h1 x hx⟩)), h1 x hx⟩
/-- Out of what a sort tells. -/
theorem isSet_of {l s : List Rw} {p : B8} {e : Int × B8} (hl : RiseR l) (hp : s.Perm (outR l p e)) (hs : s.Pairwise fun a b => ltB b.path a.path = false) : IsSet l p e s := by
  have hd : (outR l p e).Pairwise fun a b => a.path ≠ b.path := by
    unfold outR
    rw [List.pairwise_append]
    refine ⟨?_, ?_, fun a ha b hb => ?_⟩
    · exact List.Pairwise.filter _ (List.Pairwise.imp (fun h => lt_ne h) hl)
    · split
      · exact List.Pairwise.nil
      · exact List.pairwise_singleton _ _
    · split at hb
      · cases hb
      · obtain rfl := List.mem_singleton.1 hb
        exact (mem_delR.1 ha).2
  have hd2 : s.Pairwise fun a b => a.path ≠ b.path := (List.Perm.pairwise_iff (fun h => Ne.symm h) hp).2 hd
  exact ⟨fun x => hp.mem_iff, hp.length_eq, List.Pairwise.imp₂ (fun a b h1 h2 => lt_tri h1 (fun he => h2 he.symm)) hs hd2⟩
end Go.Proofs.YtalpfoomkhhgnaaGreatDoor

/-! A table's rows in memory of the call's own: cloned, sorted in place. Conditions: as each theorem states. -/
namespace Go.Proofs.YtalpfoomkhhgnaaGreatDoor
open Go Go.Shelf Go.RowKit Go.Lib Go.Sort
set_option linter.unusedVariables false
set_option linter.unusedSimpArgs false
set_option linter.unusedSectionVars false

instance : Inhabited Rw := ⟨zRw⟩
theorem rwC_len (x : Rw) : (rwC x).length = 3 := rfl
theorem rwC_one (x : Rw) : ∀ v ∈ rwC x, v.oneCell' = true := by intro v hv; simp [rwC] at hv; rcases hv with rfl | rfl | rfl <;> rfl
theorem flat_rwL (l : List Rw) : (l.flatMap rwC).length = l.length * 3 := by
  induction l with
  | nil => rfl
  | cons c l ih => rw [List.flatMap_cons, List.length_append, ih, List.length_cons]; show 3 + _ = _; omega
theorem flat_at (l : List Rw) (j : Nat) (hj : j < l.length * 3) : (l.flatMap rwC)[j]? = some (flatK rwC 3 l.toArray)[j]! := by
  have hk : j / 3 < l.length := by omega
  rw [get_flatK _ _ _ j (by simpa using hj)]
  obtain ⟨x, hx⟩ : ∃ x, l[j / 3]? = some x := ⟨_, List.getElem?_eq_getElem hk⟩
  have hx2 : l.toArray[j / 3]! = x := by
    rw [getElem!_pos l.toArray (j / 3) (by simpa using hk)]
    rw [List.getElem?_eq_getElem hk] at hx
    simpa using hx
  rw [hx2]
  obtain ⟨e0, e1, e2⟩ := flat_rw l _ x hx
  have hm : j % 3 < 3 := Nat.mod_lt _ (by omega)
  have hd : j = 3 * (j / 3) + j % 3 := (Nat.div_add_mod j 3).symm
  obtain ⟨c, hc⟩ : ∃ c, j % 3 = c := ⟨_, rfl⟩
  rw [hc] at hm hd ⊢
  rw [hd]
  match c, hm with
  | 0, _ => exact e0
  | 1, _ => exact e1
  | 2, _ => exact e2
section
variable {w W : World} {base g n cap : Nat} {e : TypeId}
theorem own_cells {l : List Rw} (h : w.ownsRow base e 3 (.slice (some ⟨g, 0, none⟩) n cap) n (l.flatMap rwC)) : n = l.length ∧ base ≤ g ∧ n ≤ cap ∧ cap ≤ maxLen ∧ ∃ cur, w.heap[g]? = some (.cells cur e (0, 0)) ∧ cur.size = cap * 3 ∧ cur.toList.take (n * 3) = l.flatMap rwC := by
  have h0 := h.1
  rw [flat_rwL] at h0
  rcases h.2 with ⟨h1, -⟩ | ⟨g', c', cur, h1, h2, h3, h4, h5, h6, h7⟩
  · cases h1
  · cases h1
    exact ⟨by omega, h2, h4, h5, cur, h3, h6, h7⟩
theorem own_holds {l : List Rw} (h : w.ownsRow base e 3 (.slice (some ⟨g, 0, none⟩) n cap) n (l.flatMap rwC)) : HoldsK rwC 3 w g 0 l.toArray := by
  obtain ⟨hn, -, -, -, cur, hb, -, ht⟩ := own_cells h
  intro j hj
  have hj3 : j < l.length * 3 := by simpa using hj
  have h1 := flat_at l j hj3
  rw [← ht, List.getElem?_take_of_lt (by omega), Array.getElem?_toList] at h1
  rw [Nat.zero_add]
  exact ⟨by simp [World.cell?, hb, h1], by simp [World.frozen?, hb]⟩
theorem own_lt {l : List Rw} (h : w.ownsRow base e 3 (.slice (some ⟨g, 0, none⟩) n cap) n (l.flatMap rwC)) : g < w.heap.size := by
  obtain ⟨-, -, -, -, cur, hb, -⟩ := own_cells h
  exact (Array.getElem?_eq_some_iff.1 hb).1
/-- A world of the sort's: the row's block alone is changed. -/
theorem swk_grown {d : Array Rw} (S : SWK rwC 3 w g 0 d W) : w.grownBy W (some g) := by
  obtain ⟨m, os, rfl⟩ := S
  refine ⟨rfl, rfl, rfl, by rw [show (sortWorldK rwC 3 w g 0 m d os).heap.size = _ from size_grow _ _, size_putRowK]; exact Nat.le_add_right _ _, fun k hk hne => ?_⟩
  have hne' : ¬ g = k := fun h => hne (by rw [h])
  show (((Go.Sort.ahead w m).heap.modify g _) ++ os)[k]? = _
  rw [Array.getElem?_append_left (by simpa using hk), Array.getElem?_modify, if_neg hne']
  rfl
theorem swk_own {l : List Rw} {d : Array Rw} (h : w.ownsRow base e 3 (.slice (some ⟨g, 0, none⟩) n cap) n (l.flatMap rwC)) (S : SWK rwC 3 w g 0 d W) (hs : d.size = l.length) : W.ownsRow base e 3 (.slice (some ⟨g, 0, none⟩) n cap) n (d.toList.flatMap rwC) := by
  obtain ⟨hn, hbg, hc1, hc2, cur, hb, hcs, -⟩ := own_cells h
  obtain ⟨m, os, rfl⟩ := S
  have hg := (Array.getElem?_eq_some_iff.1 hb).1
  refine ⟨by rw [flat_rwL, Array.length_toList, hs, hn], .inr ⟨g, cap, putCells _root_.id 0 (flatK rwC 3 d) cur, rfl, hbg, ?_, hc1, hc2, by simp [putCells, hcs], ?_⟩⟩
  · show (((Go.Sort.ahead w m).heap.modify g _) ++ os)[g]? = _
    rw [Array.getElem?_append_left (by simpa using hg), Array.getElem?_modify, if_pos rfl]
    show (w.heap[g]?).map _ = _
    rw [hb]
    rfl
  · apply List.ext_getElem?
    intro j
    by_cases hj : j < n * 3
    · rw [List.getElem?_take_of_lt hj, Array.getElem?_toList]
      have hjd : j < d.toList.length * 3 := by rw [Array.length_toList, hs]; omega
      have h2 := flat_at d.toList j hjd
      rw [h2]
      have hjc : j < cur.size := by
        rw [hcs]
        exact Nat.lt_of_lt_of_le hj (Nat.mul_le_mul_right 3 hc1)
      simp only [putCells, Array.getElem?_mapIdx, Array.getElem?_eq_getElem hjc, Option.map_some]
      rw [if_pos ⟨Nat.zero_le _, by rw [Nat.zero_add, size_flatK, hs]; omega⟩]
      simp
    · rw [List.getElem?_eq_none (by rw [List.length_take]; omega), List.getElem?_eq_none (by rw [flat_rwL, Array.length_toList, hs]; omega)]
end

set_option maxRecDepth 100000 in
set_option maxHeartbeats 1000000 in
theorem clone_rws {w : World} {v : Value} {l : List Rw} (hv : IsRws w v l) (hn : l.length ≤ 10000000) :
    Calls Tryz.prog 23 #[v] w fun e w' => (∃ v', e = .returned v' ∧ w'.ownsRow w.heap.size 30 3 v' l.length (l.flatMap rwC)) ∧ Ext w w' := by
  obtain ⟨a, cap, rfl, r1, r2, r3, r4⟩ := hv
  obtain ⟨n, hnn⟩ : ∃ n, n = l.length := ⟨_, rfl⟩
  have hl : (l.flatMap rwC).length = n * 3 := by rw [flat_rwL, hnn]
  have h1 : ∀ u ∈ l.flatMap rwC, u.oneCell' = true := by
    intro u hu
    obtain ⟨x, -, hx⟩ := List.mem_flatMap.1 hu
    exact rwC_one x u hx
  obtain ⟨xs, hxs⟩ : ∃ xs, l.flatMap rwC = xs := ⟨_, rfl⟩
  rw [hxs] at hl h1 r4 ⊢
  rw [← hnn] at hn r1 r3 ⊢
  clear hnn hxs
  have hq : ∀ W : World, (binOp .eql 22 (.slice a n cap) (.slice none 0 0)).run Tryz.prog W = .ok (.bool a.isNone) W := fun W => Go.Lib.run_eql_slice_nil W _ _ a n cap 0 0 Tryz.underlying22
  cases a with
  | none =>
    have hx : xs = [] := by
      cases xs with
      | nil => rfl
      | cons x l => obtain ⟨b, o, he, _⟩ := r4 (by simp); cases he
    subst hx
    have hn0 : n = 0 := by simp at hl; omega
    subst hn0
    go_enter Tryz.func23, Tryz.ntmps23
    go_wp2
    go_ret
    exact ⟨⟨_, rfl, World.ownsRow_nil _ _ _ _⟩, Ext.refl _⟩
  | some ad =>
    have hxa : Ext w (w.alloc (.cells #[] 30)) := (Ext.refl _).alloc _
    have hnews : ∀ j u, xs[j]? = some u → (w.alloc (.cells #[] 30)).cell? (ad.add j) = some u := fun j u hu => by
      obtain ⟨b, o, he, hc⟩ := r4 (by rintro rfl; simp at hu)
      cases he
      rw [show (⟨b, o, none⟩ : Addr).add j = ⟨b, o + j, none⟩ by unfold Addr.add; split <;> simp_all]
      exact hxa.cell (hc j u hu)
    have HN : Hid _ := hnews
    have H1 : Hid _ := h1
    have HL : Hid _ := hl
    have HOE : Hid ((w.alloc (.cells #[] 30)).ownsRow w.heap.size 30 3 (.slice (some ⟨w.heap.size, 0, none⟩) 0 0) 0 []) := ⟨by simp, .inr ⟨w.heap.size, 0, #[], rfl, Nat.le_refl _, alloc_at _ _, Nat.le_refl _, Nat.zero_le _, by simp, by simp⟩⟩
    clear hnews r4 h1 hl
    go_enter Tryz.func23, Tryz.ntmps23
    go_wp2_with (at_builtin; go_must (refine app_any _ _ _ 3 40 Tryz.underlying22 info_rw rfl (by omega) rfl _ _ rfl w.heap.size _ 0 [] rfl HOE.out ad n cap xs rfl HL.out HN.out H1.out (by omega) (by omega) (by simp) ?_); intro v' w2 hown hgr _)
    simp only [Nat.zero_add, List.nil_append] at hown
    have hx2 : Ext w w2 := Below.grown hxa hgr hxa.size (fun k hk => by cases hk; exact Nat.le_refl _)
    go_wp2
    go_ret
    exact ⟨⟨_, rfl, hown⟩, hx2⟩
end Go.Proofs.YtalpfoomkhhgnaaGreatDoor

/-! slices.DeleteFunc at a table's rows. Conditions: as each theorem states. -/
namespace Go.Proofs.YtalpfoomkhhgnaaGreatDoor
open Go Go.Shelf Go.RowKit Go.Lib Go.Sort
set_option linter.unusedVariables false
set_option linter.unusedSimpArgs false
set_option linter.unusedSectionVars false

/-- W is w with the block's first cells holding F, and with what was laid since. -/
def FlatW (w : World) (g : Nat) (F : Array Value) (W : World) : Prop := ∃ m os, W = grow (putRow _root_.id (Go.Sort.ahead w m) g 0 F) os
section
variable {w W : World} {g : Nat} {F : Array Value}
theorem FlatW.start {F : Array Value} (h : Holds _root_.id w g 0 F) : FlatW w g F w := ⟨0, #[], by rw [grow_empty, ahead_zero, putRow_self _root_.id w g 0 F h]⟩
theorem FlatW.size (h : FlatW w g F W) : w.heap.size ≤ W.heap.size := by
  obtain ⟨m, os, rfl⟩ := h
  rw [size_grow]
  simp [putRow, mapBlock, ahead]
theorem FlatW.ext (h : FlatW w g F W) (hg : g < w.heap.size) {W' : World} (hx : ∃ n os, W' = grow (W.drewN n) os) : FlatW w g F W' := by
  obtain ⟨m, os, rfl⟩ := h
  obtain ⟨n, os', rfl⟩ := hx
  refine ⟨m + n, os ++ os', ?_⟩
  rw [show (grow (putRow _root_.id (Go.Sort.ahead w m) g 0 F) os).drewN n = grow ((putRow _root_.id (Go.Sort.ahead w m) g 0 F).drewN n) os from rfl, grow_grow, Go.Proofs.putRow_drewN]
theorem FlatW.set (h : FlatW w g F W) (hg : g < w.heap.size) (s : Nat) (vs : List Value) (hs : s + vs.length ≤ F.size) : FlatW w g (setMany F s vs) (W.setCells g s vs) := by
  obtain ⟨m, os, rfl⟩ := h
  refine ⟨m, os, ?_⟩
  rw [setCells_grow os g vs s _ (by simpa [putRow, mapBlock, ahead] using hg)]
  have := setCells_putRow (Go.Sort.ahead w m) g 0 vs s F hs
  rw [Nat.zero_add] at this
  rw [this]
theorem FlatW.holds (h : FlatW w g F W) (hg : g < w.heap.size) {F0 : Array Value} (h0 : Holds _root_.id w g 0 F0) (hs : F.size = F0.size) : Holds _root_.id W g 0 F := by
  obtain ⟨m, os, rfl⟩ := h
  exact holds_grow _root_.id _ os g 0 F (by simpa [putRow, mapBlock, ahead] using hg) (holds_putRow _root_.id _ g 0 F0 F (holds_ahead _root_.id w m g 0 F0 h0) hs)
theorem FlatW.grown (h : FlatW w g F W) : w.grownBy W (some g) := by
  obtain ⟨m, os, rfl⟩ := h
  refine ⟨rfl, rfl, rfl, by rw [size_grow]; simp [putRow, mapBlock, ahead], fun k hk hne => ?_⟩
  have hne' : ¬ g = k := fun h => hne (by rw [h])
  show (((Go.Sort.ahead w m).heap.modify g _) ++ os)[k]? = _
  rw [Array.getElem?_append_left (by simpa using hk), Array.getElem?_modify, if_neg hne']
  rfl
theorem FlatW.cell (h : FlatW w g F W) {b : Nat} {v : Value} (hc : w.cell? ⟨b, 0, none⟩ = some v) (hne : b ≠ g) : W.cell? ⟨b, 0, none⟩ = some v := by
  have hb := World.block_lt_of_cell? _ _ hc
  rw [World.cell?_of_block (w := w) (w' := W) (a := ⟨b, 0, none⟩) (h.grown.block b hb (by intro he; cases he; exact hne rfl))]
  exact hc
theorem FlatW.own {base n cap i : Nat} {e : TypeId} {xs ys : List Value} (h : w.ownsRow base e 3 (.slice (some ⟨g, 0, none⟩) n cap) n xs) (S : FlatW w g F W) (hF : F.size = n * 3) (hi : i ≤ n) (hy : ys.length = i * 3) (hx : ∀ j, j < i * 3 → ys[j]? = some F[j]!) : W.ownsRow base e 3 (.slice (some ⟨g, 0, none⟩) i cap) i ys := by
  rcases h.2 with ⟨h1, -⟩ | ⟨g', c', cur, h1, h2, h3, h4, h5, h6, h7⟩
  · cases h1
  · cases h1
    obtain ⟨m, os, rfl⟩ := S
    have hg := (Array.getElem?_eq_some_iff.1 h3).1
    refine ⟨hy, .inr ⟨g, cap, putCells _root_.id 0 F cur, rfl, h2, ?_, by omega, h5, by simp [putCells, h6], ?_⟩⟩
    · show (((Go.Sort.ahead w m).heap.modify g _) ++ os)[g]? = _
      rw [Array.getElem?_append_left (by simpa using hg), Array.getElem?_modify, if_pos rfl]
      show (w.heap[g]?).map _ = _
      rw [h3]
      rfl
    · apply List.ext_getElem?
      intro j
      by_cases hj : j < i * 3
      · rw [List.getElem?_take_of_lt hj, Array.getElem?_toList, hx j hj]
        have hjn : j < n * 3 := Nat.lt_of_lt_of_le hj (Nat.mul_le_mul_right 3 hi)
        have hjc : j < cur.size := by
          rw [h6]
          exact Nat.lt_of_lt_of_le hjn (Nat.mul_le_mul_right 3 h4)
        simp only [putCells, Array.getElem?_mapIdx, Array.getElem?_eq_getElem hjc, Option.map_some]
        rw [if_pos ⟨Nat.zero_le _, by rw [Nat.zero_add, hF]; exact hjn⟩]
        simp
      · rw [List.getElem?_eq_none (by rw [List.length_take]; omega), List.getElem?_eq_none (by omega)]
end
theorem flatK_set (dk : Array Rw) (i : Nat) (u : Rw) (hi : i < dk.size) : setMany (flatK rwC 3 dk) (i * 3) (rwC u) = flatK rwC 3 (dk.setIfInBounds i u) := by
  refine ext_get! (by simp) fun t ht => ?_
  have ht' : t < dk.size * 3 := by simpa using ht
  rw [get_setMany _ _ _ t (by simpa using ht'), get_flatK _ _ _ t ht', get_flatK _ _ _ t (by simpa using ht')]
  have hl : (rwC u).length = 3 := rfl
  rw [hl]
  by_cases a : t / 3 = i
  · rw [if_pos ((blk_iff 3 i t (by omega)).2 a), a, getElem!_set_same dk i u hi]
    congr 1
    omega
  · rw [if_neg (fun h => a ((blk_iff 3 i t (by omega)).1 h)), getElem!_set_other dk i _ u a]
/-- clear at rows. -/
theorem run_clear_rows {w w2 : World} (ty : TypeId) (b o n c : Nat) (hn : 0 < n) (hst : ∀ vs : List Value, vs.length = n * 3 → (∀ v ∈ vs, v.oneCell' = true) → Sem.run Tryz.prog (storeCells ⟨b, o, none⟩ vs 0) w = .ok () (w.setCells b o vs)) :
    ∃ vs : List Value, vs.length = n * 3 ∧ (Builtin.clear_ #[22] ty #[.slice (some ⟨b, o, none⟩) n c]).run Tryz.prog w = .ok (.tuple #[]) (w.setCells b o vs) := by
  obtain ⟨m, rfl⟩ : ∃ m, n = m + 1 := ⟨n - 1, by omega⟩
  have hz : ∀ w, (zeroValue 30).run Tryz.prog w = .ok (.agg #[S8 [], .int .i64 0, S8 []]) w := fun w => by kernel_rfl
  have h1 := hst (Builtin.zeroCells #[S8 [], .int .i64 0, S8 []] (m + 1)).toList (by simp [Builtin.zeroCells]) (by
    intro v hv
    simp only [Builtin.zeroCells, Array.toList_map, List.mem_map] at hv
    obtain ⟨i, -, rfl⟩ := hv
    have : i % 3 < 3 := Nat.mod_lt _ (by omega)
    obtain ⟨q, hq⟩ : ∃ q, i % 3 = q := ⟨_, rfl⟩
    show (#[S8 [], .int .i64 0, S8 []][i % 3]!).oneCell' = true
    rw [hq] at this ⊢
    match q, this with
    | 0, _ => rfl
    | 1, _ => rfl
    | 2, _ => rfl)
  refine ⟨(Builtin.zeroCells #[S8 [], .int .i64 0, S8 []] (m + 1)).toList, by simp [Builtin.zeroCells], ?_⟩
  have hc : (Value.agg #[S8 [], .int .i64 0, S8 []]).cells = #[S8 [], .int .i64 0, S8 []] := rfl
  simp [Builtin.clear_, run_underlying Tryz.underlying22, hz, hc, h1]
section
variable {ops : Array Oper} {rest : List Oper} {o : Oper} {a : Act} {Q : Exit → Act → World → Prop} {w : World}
/-- A store of a row among rows. -/
theorem store_row_at (hgd : o.guard = none) (x y : Operand) (ho : o.op = .store 30 x y) (g j : Nat) (hx : a.eval x = .pointer (some ⟨g, j, none⟩)) (r : Rw) (hy : a.eval y = .agg #[S8 r.path, .int .i64 r.mode, S8 r.id]) (w2 : World) (hs : Sem.run Tryz.prog (storeCells ⟨g, j, none⟩ (rwC r) 0) w = .ok () w2)
    (h : wpList Tryz.prog ops Q rest (a.put o.dst undef) w2) : wpList Tryz.prog ops Q (o :: rest) a w :=
  wpList_plain hgd fun _ hK => by
    have hc : (Value.agg #[S8 r.path, .int .i64 r.mode, S8 r.id]).cells.toList = rwC r := rfl
    have hcs : (Value.agg #[S8 r.path, .int .i64 r.mode, S8 r.id]).cells.size = 3 := rfl
    have hsz : ∀ w, (Go.sizeOf 30).run Tryz.prog w = .ok 3 w := fun w => Tryz.sizeOf30 w
    have hr : (storeVar 30 ⟨g, j, none⟩ (.agg #[S8 r.path, .int .i64 r.mode, S8 r.id])).run Tryz.prog w = .ok () w2 := by
      simp [storeVar, hsz, hc, hcs, hs]
    unfold Oper.wp execOp
    simp only [ho, hx, hy, Instr.storeAt, Instr.sureAddr, Sem.run_bind, Sem.run_pure, Result.andThen_ok, hr]
    exact hK _ _ h
end
theorem setPred_any (p : B8) (x : Rw) (bx : Nat) (W : World) (hc : W.cell? ⟨bx, 0, none⟩ = some (S8 p)) : Calls Tryz.prog 24 #[.agg (rwC x).toArray, .pointer (some ⟨bx, 0, none⟩)] W fun e w' => e = .returned (.bool (x.path == p)) ∧ ∃ os, w' = grow W os := by
  have htx : (⟨x.path.toArray⟩ : ByteArray).toList = x.path := Lib.toList_data _
  have htp : (⟨p.toArray⟩ : ByteArray).toList = p := Lib.toList_data _
  have hbx := World.block_lt_of_cell? _ _ hc
  have hx1 : Ext W (W.alloc (.cells #[S8 x.path, .int .i64 x.mode, S8 x.id] 30)) := (Ext.refl _).alloc _
  have hc2 := hx1.cell hc
  show Calls Tryz.prog 24 #[.agg #[S8 x.path, .int .i64 x.mode, S8 x.id], .pointer (some ⟨bx, 0, none⟩)] W _
  obtain ⟨z, hz⟩ : ∃ z, (x.path == p) = z := ⟨_, rfl⟩
  rw [hz]
  go_enter Tryz.func24, Tryz.ntmps24
  go_wp2
  go_ret
  exact ⟨rfl, #[.cells #[S8 x.path, .int .i64 x.mode, S8 x.id] 30], alloc_eq_grow _ _⟩
end Go.Proofs.YtalpfoomkhhgnaaGreatDoor

/-! slices.DeleteFunc at a table's rows: walked. Conditions: as each theorem states. -/
namespace Go.Proofs.YtalpfoomkhhgnaaGreatDoor
open Go Go.Shelf Go.RowKit Go.Lib Go.Sort
set_option linter.unusedVariables false
set_option linter.unusedSimpArgs false
set_option linter.unusedSectionVars false

theorem rows_cell {W : World} {g j : Nat} {d : Array Rw} (h : HoldsK rwC 3 W g 0 d) (hj : j < d.size) : W.cell? ⟨g, j * 3, none⟩ = some (S8 d[j]!.path) ∧ W.cell? ⟨g, j * 3 + 1, none⟩ = some (.int .i64 d[j]!.mode) ∧ W.cell? ⟨g, j * 3 + 2, none⟩ = some (S8 d[j]!.id) := by
  have e0 := (h.cell (i := j) (c := 0) hj (by omega)).1
  have e1 := (h.cell (i := j) (c := 1) hj (by omega)).1
  have e2 := (h.cell (i := j) (c := 2) hj (by omega)).1
  rw [Nat.zero_add] at e0 e1 e2
  exact ⟨e0, e1, e2⟩
theorem toArr_get (l : List Rw) (j : Nat) (hj : j < l.length) : l.toArray[j]! = l[j]! := by
  rw [getElem!_pos l.toArray j (by simpa using hj), getElem!_pos l j hj]
  rfl
theorem kept_del (l : List Rw) (p : B8) : keptUpTo (fun j => !(l.toArray[j]!.path == p)) l.toArray l.toArray.size = delR l p := keptUpTo_filter (fun x => !(x.path == p)) l.toArray

theorem grown_trans {w w1 w2 : World} {g : Nat} (h : Ext w w1) (h2 : w1.grownBy w2 (some g)) : w.grownBy w2 (some g) :=
  ⟨h2.os.trans h.os, h2.tape.trans h.tape, h2.output.trans h.output, Nat.le_trans h.size h2.size, fun k hk hne => (h2.block k (Nat.lt_of_lt_of_le hk h.size) hne).trans (h.block k hk)⟩

set_option maxRecDepth 100000 in
set_option maxHeartbeats 8000000 in
theorem delRows_any (g cap base bx : Nat) (l : List Rw) (p : B8) (w : World) (h : w.ownsRow base 30 3 (.slice (some ⟨g, 0, none⟩) l.length cap) l.length (l.flatMap rwC)) (hbx : w.cell? ⟨bx, 0, none⟩ = some (S8 p)) (hne : bx ≠ g) (hl : l.length ≤ 100000) :
    Calls Tryz.prog 22 #[.slice (some ⟨g, 0, none⟩) l.length cap, .func (.func 24) #[] #[.pointer (some ⟨bx, 0, none⟩)]] w fun e w' => e = .returned (.slice (some ⟨g, 0, none⟩) (delR l p).length cap) ∧ w'.ownsRow base 30 3 (.slice (some ⟨g, 0, none⟩) (delR l p).length cap) (delR l p).length ((delR l p).flatMap rwC) ∧ w.grownBy w' (some g) := by
  have hg := own_lt h
  have hHK := own_holds h
  obtain ⟨-, -, hnc, hcm, -⟩ := own_cells h
  have hcap : cap ≤ 9223372036854775807 := by unfold maxLen at hcm; omega
  have hbl := World.block_lt_of_cell? _ _ hbx
  have eg : ∀ args w, (callFunc 24 args).run Tryz.prog w = .ok (.enter 24 args) w := enters_of Tryz.func24 (by kernel_rfl) rfl
  have hp : PredBelow Tryz.prog 24 #[.pointer (some ⟨bx, 0, none⟩)] (fun x => .agg (rwC x).toArray) (fun x => x.path == p) w := fun W x hW =>
    (setPred_any p x bx W (cell_later hW hbx)).mono fun e w' ⟨he, os, hw⟩ => ⟨he, by rw [hw]; exact Below.trans hW (Below.mono (Ext.of_grow 0 os) hW.size)⟩
  have hIF := AnyQ.slices_IndexFunc Tryz.laysIdxR 3 (fun w => Tryz.isAgg30 w) (fun w => Tryz.sizeOf30 w) rwC rwC_len (fun x => x.path == p) _ _ eg g 0 l.length cap l w hp (Nat.le_refl _) (by omega) hg (fun j hj i v hv => by
    have hj' : j < l.toArray.size := by simpa using hj
    have hi : i < 3 := by have := (List.getElem?_eq_some_iff.1 hv).1; rwa [rwC_len] at this
    have h1 := (hHK.cell hj' hi).1
    rw [toArr_get l j hj] at h1
    rw [h1, ← hv, List.getElem?_eq_getElem (by rw [rwC_len]; exact hi), getElem!_pos _ i (by rw [rwC_len]; exact hi)])
  rw [show l.take l.length = l from List.take_of_length_le (Nat.le_refl _)] at hIF
  obtain ⟨kp, HK⟩ : ∃ kp : Nat → Bool, Hid (kp = fun j => !(l.toArray[j]!.path == p)) := ⟨_, rfl⟩
  have HKD : Hid (keptUpTo kp l.toArray l.toArray.size = delR l p) := by unfold Hid; rw [HK.out]; exact kept_del l p
  have HO : Hid _ := h
  have HBX : Hid _ := hbx
  rcases idxByFrom_spec (fun _ (y : Rw) => y.path == p) default l 0 with ⟨e1, hall⟩ | ⟨k0, hk0, e1, ht, hall⟩
  · have e2 : Lib.idxBy (fun _ (y : Rw) => y.path == p) l default = -1 := e1
    rw [e2] at hIF
    have hdl : delR l p = l := by
      unfold delR
      rw [List.filter_eq_self]
      intro x hx
      obtain ⟨j, hj, rfl⟩ := List.mem_iff_getElem.1 hx
      have := hall j hj
      rw [getElem!_pos l j hj] at this
      simp only [this, Bool.not_false]
    rw [hdl]
    clear hp hHK hall e1 e2 h hbx HKD hdl
    go_enter Tryz.func22, Tryz.ntmps22
    go_wp2_with (go_at_call 56; refine hIF.mono ?_; rintro e w' ⟨rfl, hb'⟩)
    go_ret
    exact ⟨rfl, owns_ext HO.out hb', ⟨hb'.os, hb'.tape, hb'.output, hb'.size, fun k hk _ => hb'.block k hk⟩⟩
  · have e2 : Lib.idxBy (fun _ (y : Rw) => y.path == p) l default = (k0 : Int) := by unfold Lib.idxBy; rw [e1]; simp
    rw [e2] at hIF
    have hkeep : ∀ j, j < k0 → kp j = true := fun j hj => by
      rw [HK.out]
      show (!(l.toArray[j]!.path == p)) = true
      rw [toArr_get l j (by omega), hall j hj]
      rfl
    have hdrop : kp k0 = false := by
      rw [HK.out]
      show (!(l.toArray[k0]!.path == p)) = false
      rw [toArr_get l k0 hk0]
      rw [show (l[k0]!.path == p) = true from ht]
      rfl
    have HKP : Hid (∀ j, j < k0 → kp j = true) := hkeep
    have HDR : Hid (kp k0 = false) := hdrop
    have hne1 : ((k0 : Int) == -1) = false := beq_eq_false_iff_ne.2 (by omega)
    have hwk : IntKind.i64.wrap ((k0 : Int) + 1) = (k0 : Int) + 1 := by rw [IntKind.wrap_i64]; omega
    clear hp hHK hall ht e1 e2 h hbx hkeep hdrop
    go_enter Tryz.func22, Tryz.ntmps22
    go_wp2_with (go_at_call 56; refine hIF.mono ?_; rintro e w1 ⟨rfl, hb1⟩)
    have HO1 : Hid (w1.ownsRow base 30 3 (.slice (some ⟨g, 0, none⟩) l.length cap) l.length (l.flatMap rwC)) := owns_ext HO.out hb1
    have HX1 : Hid (Ext w w1) := hb1
    have HH1 : Hid (HoldsK rwC 3 w1 g 0 l.toArray) := own_holds HO1.out
    have HBX1 : Hid (w1.cell? ⟨bx, 0, none⟩ = some (S8 p)) := HX1.out.cell HBX.out
    have hg1 : g < w1.heap.size := own_lt HO1.out
    clear hb1 hIF
    go_loopg [5, 6] l.length (fun gg s5 s6 wr => ∃ (i j : Nat) (dk : Array Rw), s5 = .int .i64 i ∧ s6 = .int .i64 j ∧ j ≤ l.length ∧ l.length - j ≤ gg ∧ Hid (FlatW w1 g (flatK rwC 3 dk) wr) ∧ Hid (KeptInv kp l.toArray j i dk))
    case atStart => exact ⟨k0, k0 + 1, l.toArray, rfl, by go_num, by omega, by omega, FlatW.start HH1.out, KeptInv.start HKP.out HDR.out⟩
    case round =>
    obtain ⟨i, j, dk, rfl, rfl, hjd, hgg, F2, I2⟩ := hrel
    have hij := I2.out.lt
    have hds : dk.size = l.length := by have := I2.out.size; simpa using this
    have HHK : Hid (HoldsK rwC 3 wr g 0 dk) := F2.out.holds hg1 HH1.out (by rw [size_flatK, size_flatK, I2.out.size])
    by_cases hlt : j < l.length
    case neg =>
      obtain rfl : j = l.length := by omega
      have hltz : ¬ (l.length : Int) < (l.length : Int) := by omega
      have hci : ¬ cap = i := by omega
      obtain ⟨vs, hvl, hcl⟩ := run_clear_rows (w := wr) (w2 := wr) 0 g (i * 3) (l.length - i) (cap - i) (by omega) (fun vs hv h1 => by
        have := stores_of_holds Tryz.prog HHK.out (i * 3) vs (by rw [hv, size_flatK, hds]; omega) h1
        rwa [Nat.zero_add] at this)
      have F3 : Hid (FlatW w1 g (setMany (flatK rwC 3 dk) (i * 3) vs) (wr.setCells g (i * 3) vs)) := F2.out.set hg1 (i * 3) vs (by rw [hvl, size_flatK, hds]; omega)
      have HIL : Hid ((delR l p).length = i) := by unfold Hid; rw [← HKD.out, show l.toArray.size = l.length by simp]; exact I2.out.len
      have HLOW : Hid (∀ q, q < i → (delR l p)[q]? = some dk[q]!) := fun q hq => by rw [← HKD.out, show l.toArray.size = l.length by simp]; exact I2.out.low q hq
      clear HHK I2
      go_wp2
      go_ret
      have hil := HIL.out
      refine ⟨by rw [hil]; rfl, ?_, ?_⟩
      · rw [hil]
        refine F3.out.own HO1.out (by rw [size_setMany, size_flatK, hds]) (by omega) (by rw [flat_rwL, hil]) (fun q hq => ?_)
        rw [flat_at _ q (by rw [hil]; exact hq)]
        have hqs : q < dk.size * 3 := by omega
        rw [get_setMany _ _ _ q (by rw [size_flatK]; exact hqs), if_neg (by omega), get_flatK _ _ _ q (by rw [List.size_toArray, hil]; exact hq), get_flatK _ _ _ q hqs]
        have hq3 : q / 3 < i := by omega
        rw [toArr_get _ _ (by omega)]
        have h9 := HLOW.out (q / 3) hq3
        rw [List.getElem?_eq_getElem (by omega)] at h9
        rw [getElem!_pos (delR l p) (q / 3) (by omega), Option.some.inj h9]
      · exact grown_trans HX1.out F3.out.grown
    have hltz : (j : Int) < (l.length : Int) := by omega
    have hjs : j < dk.size := by omega
    obtain ⟨y0, y1, y2⟩ := rows_cell HHK.out hjs
    obtain ⟨u, hu⟩ : ∃ u, dk[j]! = u := ⟨_, rfl⟩
    rw [hu] at y0 y1 y2
    have HU : Hid (l.toArray[j]! = u) := by unfold Hid; rw [← hu]; exact (I2.out.high j (by omega)).symm
    have hbr := F2.out.cell HBX1.out hne
    clear hu
    go_upto_region 8 with fail
    obtain ⟨w8, hw8⟩ : ∃ w8, w8 = wr.alloc (.cells #[S8 u.path, .int .i64 u.mode, S8 u.id] 30) := ⟨_, rfl⟩
    have F8 : Hid (FlatW w1 g (flatK rwC 3 dk) w8) := by rw [hw8]; exact F2.out.ext hg1 ⟨0, #[_], alloc_eq_grow _ _⟩
    have hb8 : w8.heap[wr.heap.size]? = some (.cells #[S8 u.path, .int .i64 u.mode, S8 u.id] 30 (0, 0)) := by rw [hw8]; exact alloc_at _ _
    rw [← hw8]
    obtain ⟨z0, z1, z2⟩ := cellsAt3 hb8
    obtain ⟨gv, hgv⟩ : ∃ gv, wr.heap.size = gv := ⟨_, rfl⟩
    rw [hgv] at z0 z1 z2 ⊢
    have hcall := setPred_any p u bx w8 (F8.out.cell HBX1.out hne)
    have HST : Hid (∀ W, FlatW w1 g (flatK rwC 3 dk) W → Sem.run Tryz.prog (storeCells ⟨g, i * 3, none⟩ (rwC u) 0) W = .ok () (W.setCells g (i * 3) (rwC u)) ∧ FlatW w1 g (flatK rwC 3 (dk.setIfInBounds i u)) (W.setCells g (i * 3) (rwC u))) := fun W hW => by
      have hHW := hW.holds hg1 HH1.out (by rw [size_flatK, size_flatK, I2.out.size])
      have h1 := stores_of_holds Tryz.prog hHW (i * 3) (rwC u) (by rw [rwC_len, size_flatK, hds]; omega) (rwC_one u)
      rw [Nat.zero_add] at h1
      refine ⟨h1, ?_⟩
      rw [← flatK_set dk i u (by omega)]
      exact hW.set hg1 (i * 3) (rwC u) (by rw [rwC_len, size_flatK, hds]; omega)
    have hil : (i : Int) < (l.length : Int) := by omega
    obtain ⟨z, hz⟩ : ∃ z, (u.path == p) = z := ⟨_, rfl⟩
    have HZ : Hid (kp j = !z) := by unfold Hid; rw [HK.out, ← hz, ← HU.out]
    rw [hz] at hcall
    clear y0 y1 y2 hbr hw8 hb8 hgv hz HHK F2
    cases z with
    | true =>
      go_wp2_with (go_at_fn 24; refine hcall.mono ?_; rintro e w9 ⟨rfl, os, hw9⟩; have F9 : Hid (FlatW w1 g (flatK rwC 3 dk) w9) := F8.out.ext hg1 ⟨0, os, hw9⟩; clear hw9)
      go_roundg (l.length - (j + 1))
      case measure => omega
      case rel => exact ⟨i, j + 1, dk, rfl, by go_num, by omega, Nat.le_refl _, F9, I2.out.skip HZ.out⟩
    | false =>
      go_wp2_with (first | (go_at_fn 24; refine hcall.mono ?_; rintro e w9 ⟨rfl, os, hw9⟩; have hx9 : Ext w8 w9 := (by rw [hw9]; exact Ext.of_grow 0 os); have F9 : Hid (FlatW w1 g (flatK rwC 3 dk) w9) := F8.out.ext hg1 ⟨0, os, hw9⟩; have v0 := hx9.cell z0; have v1 := hx9.cell z1; have v2 := hx9.cell z2; clear hw9 hx9) | (refine store_row_at rfl (.tmp 33) (.tmp 32) rfl g (i * 3) rfl u rfl _ (HST.out _ F9.out).1 ?_))
      go_roundg (l.length - (j + 1))
      case measure => omega
      case rel =>
        refine ⟨i + 1, j + 1, dk.setIfInBounds i u, by go_num, by go_num, by omega, Nat.le_refl _, (HST.out _ F9.out).2, ?_⟩
        have h9 := I2.out.keep (by rw [List.size_toArray]; exact hlt) HZ.out
        rw [HU.out] at h9
        exact h9
end Go.Proofs.YtalpfoomkhhgnaaGreatDoor

/-! wire: merge, Sort, Unique. Conditions: lists of at most 1000000 texts. -/
namespace Go.Proofs.YtalpfoomkhhgnaaGreatDoor
open Go Go.RowKit
set_option linter.unusedVariables false
set_option linter.unusedSimpArgs false
set_option linter.unusedSectionVars false

theorem bytesLess_ltB : ∀ a b : B8, Op.bytesLess a b = ltB a b
  | [], [] => by simp [Op.bytesLess, ltB]
  | [], _ :: _ => by simp [Op.bytesLess, ltB]
  | _ :: _, [] => by simp [Op.bytesLess, ltB]
  | a :: r, b :: s => by
    rw [Op.bytesLess, bytesLess_ltB r s]
    unfold ltB
    rw [Bool.eq_iff_iff]
    simp [List.cons_lt_cons_iff]
theorem IsStrs.tail {w : World} {a : Option Addr} {cap : Nat} {l : List B8} (k : Nat) (h : IsStrs w (.slice a l.length cap) l) (hk : k ≤ l.length) :
    ∀ a', (a = none → a' = none) → (cap ≠ k → ∀ b o, a = some ⟨b, o, none⟩ → a' = some ⟨b, o + k, none⟩) → IsStrs w (.slice a' (l.length - k) (cap - k)) (l.drop k) := by
  obtain ⟨a2, cap2, he, h1, h2, h3, h4⟩ := h
  simp only [Value.slice.injEq, true_and] at he
  obtain ⟨rfl, rfl⟩ := he
  intro a' hn hs
  have hlen : (l.drop k).length = l.length - k := List.length_drop
  unfold IsStrs
  rw [hlen]
  refine ⟨a', cap - k, rfl, by omega, by omega, by omega, fun hne => ?_⟩
  have hlt : k < l.length := by
    rcases Nat.lt_or_ge k l.length with h | h
    · exact h
    · rw [List.drop_eq_nil_of_le h] at hne; simp at hne
  obtain ⟨b, o, rfl, hc⟩ := h4 (by intro h0; rw [List.map_eq_nil_iff] at h0; subst h0; simp at hlt)
  refine ⟨b, o + k, hs (by omega) b o rfl, fun i u hu => ?_⟩
  rw [List.getElem?_map, List.getElem?_drop] at hu
  have := hc (k + i) u (by rw [List.getElem?_map]; exact hu)
  rwa [← Nat.add_assoc] at this
theorem IsStrs.head {w : World} {a : Option Addr} {cap : Nat} {l : List B8} (k : Nat) (h : IsStrs w (.slice a l.length cap) l) (hk : k ≤ l.length) : IsStrs w (.slice a k cap) (l.take k) := by
  obtain ⟨a2, cap2, he, h1, h2, h3, h4⟩ := h
  simp only [Value.slice.injEq, true_and] at he
  obtain ⟨rfl, rfl⟩ := he
  have hlen : (l.take k).length = k := by rw [List.length_take]; omega
  unfold IsStrs
  rw [hlen]
  refine ⟨a, cap, rfl, by omega, by omega, by omega, fun hne => ?_⟩
  obtain ⟨b, o, rfl, hc⟩ := h4 (by intro h0; rw [List.map_eq_nil_iff] at h0; subst h0; simp at hne)
  refine ⟨b, o, rfl, fun i u hu => hc i u ?_⟩
  rw [List.getElem?_map, List.getElem?_take] at hu
  split at hu
  · rw [List.getElem?_map]; exact hu
  · cases hu
theorem ltB_irr (a : B8) : ltB a a = false := by
  unfold ltB
  rw [decide_eq_false_iff_not]
  exact List.lt_irrefl a
def cmpI (a b : B8) : Int := if ltB a b = true then -1 else if ltB b a = true then 1 else 0
set_option maxRecDepth 100000 in
theorem compare_any (a b : B8) (w : World) : Calls Tryz.prog 35 #[S8 a, S8 b] w fun e w' => e = .returned (.int .i64 (cmpI a b)) ∧ w' = w := by
  obtain ⟨x, hx⟩ : ∃ x, ltB a b = x := ⟨_, rfl⟩
  have h1 : Op.bytesLess a b = x := by rw [bytesLess_ltB]; exact hx
  cases x with
  | true =>
    have hr : cmpI a b = -1 := by unfold cmpI; rw [hx]; rfl
    rw [hr]
    clear hr hx
    go_enter Tryz.func35, Tryz.ntmps35
    go_wp2
    go_ret
    exact ⟨rfl, rfl⟩
  | false =>
    obtain ⟨y, hy⟩ : ∃ y, ltB b a = y := ⟨_, rfl⟩
    have h2 : (a == b) = !y := by
      cases y with
      | true => simpa using fun e : a = b => by rw [e, ltB_irr] at hy; cases hy
      | false => simpa using leT_anti (a := a) (b := b) (by unfold leT; rw [hy]; rfl) (by unfold leT; rw [hx]; rfl)
    have hr : cmpI a b = if y = true then 1 else 0 := by unfold cmpI; rw [hx, hy]; rfl
    rw [hr]
    clear hr hx hy
    cases y with
    | true =>
      have h3 : (a == b) = false := h2
      clear h2
      go_enter Tryz.func35, Tryz.ntmps35
      go_wp2
      go_ret
      exact ⟨rfl, rfl⟩
    | false =>
      have h3 : (a == b) = true := h2
      clear h2
      go_enter Tryz.func35, Tryz.ntmps35
      go_wp2
      go_ret
      exact ⟨rfl, rfl⟩

def lenV : Value → Nat
  | .slice _ n _ => n
  | _ => 0
set_option maxRecDepth 100000 in
set_option maxHeartbeats 4000000 in
theorem wmerge_any (va vb : Value) (A B : List B8) (w : World) (hA : IsStrs w va A) (hB : IsStrs w vb B) (ua : upL A) (ub : upL B) (hl : A.length + B.length ≤ 2000000) :
    Calls Tryz.prog 86 #[va, vb] w fun e w' => (∃ v, e = .returned v ∧ w'.ownsRow w.heap.size 9 1 v (A.length + B.length) ((sortT (A ++ B)).map S8)) ∧ Ext w w' := by
  obtain ⟨a0, ac, rfl, la1, la2, la3, -⟩ := hA.get
  obtain ⟨b0, bc, rfl, lb1, lb2, lb3, -⟩ := hB.get
  have HA : Hid (IsStrs w (.slice a0 A.length ac) A) := hA
  have HB : Hid (IsStrs w (.slice b0 B.length bc) B) := hB
  have HM : Hid (MInv A B A B []) := MInv.start ua ub
  obtain ⟨i0, hi, hz0, hz1, hz2⟩ := info_parts info_str
  clear hA hB ua ub
  go_enter Tryz.func86, Tryz.ntmps86
  go_wp2_with (at_make; go_must (refine wpList_make_own _ rfl _ _ 33 rfl w.heap.size 9 i0 _ 1 Tryz.underlying33 hi hz0 hz1 _ _ _ (A.length + B.length) rfl rfl (by omega) (by rw [hz2]; omega) (by unfold maxLen; omega) (Nat.le_refl _) ?_; intro w1 hown1 hg1))
  have HX1 : Hid (Ext w w1) := Below.grown (Ext.refl w) hg1 (Nat.le_refl _) (fun k hk => by cases hk)
  clear hg1
  go_loopw [0, 1, 5] (fun xa xb v wr => ∃ (a b C : List B8), Hid (MInv A B a b C) ∧ Hid (IsStrs w xa a) ∧ Hid (IsStrs w xb b) ∧ wr.ownsRow w.heap.size 9 1 v C.length (C.map S8) ∧ Hid (Ext w wr)) (fun xa xb _ _ => lenV xa + lenV xb)
  case atStart => exact ⟨A, B, [], HM, HA, HB, hown1, HX1⟩
  case round =>
  clear hown1
  obtain ⟨a, b, C, HI, HXA, HXB, hown, HX⟩ := hrel
  have hln := HI.out.len
  have HA1 : Hid (IsStrs wr _ a) := IsStrs.ext HXA.out HX.out
  have HB1 : Hid (IsStrs wr _ b) := IsStrs.ext HXB.out HX.out
  obtain ⟨aa, ca, rfl, ka1, ka2, ka3, hga⟩ := HA1.out.get
  obtain ⟨ab, cb, rfl, kb1, kb2, kb3, hgb⟩ := HB1.out.get
  have HGA : Hid _ := hga
  have HGB : Hid _ := hgb
  clear hga hgb
  have hsz := HX.out.size
  cases a with
  | nil =>
    have HF : Hid (C ++ ([] ++ b) = sortT (A ++ B)) := HI.out.swap.fin
    have hcl : C.length + 0 + b.length = A.length + B.length := by simpa using hln
    clear HGA HGB
    go_wp2_with first | (at_builtin; (have hq9 := HB4.out); go_must (refine appS_op _ _ _ 1 16 Tryz.underlying33 info_str rfl (by omega) rfl (.tmp 40) (.tmp 41) rfl rfl w.heap.size _ _ _ rfl hown4 _ b.length (b.map S8) rfl HB4.out (by simp) (by intro u hu; first | (obtain ⟨_, _, rfl⟩ := List.mem_map.1 hu; rfl) | cases hu) (by omega) (by omega) hsz4 ?_; intro v5 w5 hown5 hg5; have hx5 : Ext w w5 := owns_ext_app hx4 hown4 hg5)) | (at_builtin; go_must (refine appS_op _ _ _ 1 16 Tryz.underlying33 info_str rfl (by omega) rfl (.tmp 38) (.tmp 39) rfl rfl w.heap.size _ C.length (C.map S8) rfl hown _ 0 [] rfl HA1.out (by simp) (by intro u hu; first | (obtain ⟨_, _, rfl⟩ := List.mem_map.1 hu; rfl) | cases hu) (by omega) (by omega) hsz ?_; intro v4 w4 hown4 hg4; have hx4 : Ext w w4 := owns_ext_app HX.out hown hg4; have hsz4 := hx4.size; have HB4 : Hid (IsStrs w4 _ _) := IsStrs.ext HXB.out hx4))
    go_ret
    refine ⟨⟨_, rfl, ?_⟩, hx5⟩
    rw [← HF.out]
    have h9 := hown5
    rw [hcl] at h9
    simpa using h9
  | cons x a =>
    cases b with
    | nil =>
      have HF : Hid (C ++ ((x :: a) ++ []) = sortT (A ++ B)) := by have h9 := HI.out.fin; unfold Hid; rw [List.append_nil]; exact h9
      have hcl : C.length + (a.length + 1) + 0 = A.length + B.length := by simpa using hln
      clear HGA HGB
      go_wp2_with first | (at_builtin; (have hq9 := HB4.out); go_must (refine appS_op _ _ _ 1 16 Tryz.underlying33 info_str rfl (by omega) rfl (.tmp 40) (.tmp 41) rfl rfl w.heap.size _ _ _ rfl hown4 _ 0 [] rfl HB4.out (by simp) (by intro u hu; first | (obtain ⟨_, _, rfl⟩ := List.mem_map.1 hu; rfl) | cases hu) (by omega) (by omega) hsz4 ?_; intro v5 w5 hown5 hg5; have hx5 : Ext w w5 := owns_ext_app hx4 hown4 hg5)) | (at_builtin; go_must (refine appS_op _ _ _ 1 16 Tryz.underlying33 info_str rfl (by omega) rfl (.tmp 38) (.tmp 39) rfl rfl w.heap.size _ C.length (C.map S8) rfl hown _ (a.length + 1) ((x :: a).map S8) rfl HA1.out (by simp) (by intro u hu; first | (obtain ⟨_, _, rfl⟩ := List.mem_map.1 hu; rfl) | cases hu) (by omega) (by omega) hsz ?_; intro v4 w4 hown4 hg4; have hx4 : Ext w w4 := owns_ext_app HX.out hown hg4; have hsz4 := hx4.size; have HB4 : Hid (IsStrs w4 _ _) := IsStrs.ext HXB.out hx4))
      go_ret
      refine ⟨⟨_, rfl, ?_⟩, hx5⟩
      rw [← HF.out]
      have h9 := hown5
      rw [hcl] at h9
      simpa using h9
    | cons y b =>
      obtain ⟨ba, oa, rfl, hca⟩ := HGA.out 0 (by simp)
      obtain ⟨bb, ob, rfl, hcb⟩ := HGB.out 0 (by simp)
      have y1 : wr.cell? ⟨ba, oa, none⟩ = some (S8 x) := hca 0 (by simp)
      have y2 : wr.cell? ⟨bb, ob, none⟩ = some (S8 y) := hcb 0 (by simp)
      clear hca hcb HGA HGB HA1 HB1
      simp only [List.length_cons] at hln ka1 ka2 kb1 kb2
      obtain ⟨c, hc⟩ : ∃ c, cmpI y x = c := ⟨_, rfl⟩
      have HC : Hid _ := hc
      cases hq : ltB y x with
      | false =>
        have HQ : Hid (MInv A B a (y :: b) (C ++ [x])) := HI.out.step hq
        have hcn : ¬ c < 0 := by
          rw [← hc]
          unfold cmpI
          rw [hq]
          cases ltB x y <;> simp
        clear hc hq
        go_upto_region 3 with fail
        apply wp_region_mix 8 [_, _, S8 y, _, _, S8 x, .int .i64 c, .bool false] [none, none, none, none, none, none, none, none] [[], [0], [1], [], [3], [4], [2, 5], [6]] (by kernel_rfl) (by kernel_rfl) (by simp [mixV])
        · trivial
        · simp (maxSteps := 1000000) only [List.take_succ_cons, List.take_zero, oblFrom, stepObl, fillFrom, Act.put, List.setIfInBounds_toArray, List.set_cons_zero, List.set_cons_succ, knows, getV, mixV, List.getD_cons_zero, List.getD_cons_succ, and_true, true_and, forall_const]
          refine ⟨?_, ?_, ?_, ?_, ?_, ?_, ?_, ?_⟩
          · intro xs wq hq R hR
            have f1 := hq.cell y1; have f2 := hq.cell y2
            go_simp
            exact hR _ _ (Ext.refl _) rfl
          · intro xs wq hq hk R hR
            have f1 := hq.cell y1; have f2 := hq.cell y2
            go_simp
            exact hR _ _ (Ext.refl _) rfl
          · intro xs wq hq hk R hR
            have f1 := hq.cell y1; have f2 := hq.cell y2
            go_simp
            exact hR _ _ (Ext.refl _) rfl
          · intro xs wq hq R hR
            have f1 := hq.cell y1; have f2 := hq.cell y2
            go_simp
            exact hR _ _ (Ext.refl _) rfl
          · intro xs wq hq hk R hR
            have f1 := hq.cell y1; have f2 := hq.cell y2
            go_simp
            exact hR _ _ (Ext.refl _) rfl
          · intro xs wq hq hk R hR
            have f1 := hq.cell y1; have f2 := hq.cell y2
            go_simp
            exact hR _ _ (Ext.refl _) rfl
          · intro xs wq hq hk R hR
            obtain ⟨hk0, hk1⟩ := hk
            go_simp
            exact (compare_any y x _).mono (by rw [HC.out]; rintro e' w4 ⟨rfl, rfl⟩; exact ⟨_, rfl, hR _ _ (Ext.refl _) rfl⟩)
          · intro xs wq hq hk R hR
            have f1 := hq.cell y1; have f2 := hq.cell y2
            go_simp
            exact hR _ _ (Ext.refl _) rfl
        intro xs w2 hx2 hk
        simp only [heldV, Nat.zero_add, Nat.reduceAdd, and_true] at hk
        obtain ⟨q0, q1, q2, q3, q4, q5, q6, q7⟩ := hk
        simp (maxSteps := 1000000) only [List.take_succ_cons, List.take_zero, List.drop_succ_cons, List.drop_zero, fillFrom, Act.put, List.setIfInBounds_toArray, List.set_cons_zero, List.set_cons_succ, Nat.zero_add, Nat.reduceAdd, q0, q1, q2, q3, q4, q5, q6, q7]
        clear q0 q1 q2 q3 q4 q5 q6 q7
        have y3 := hx2.cell y1
        have hown2 := owns_ext hown hx2
        have hsz2 := hx2.size
        have HX2 : Hid (Ext w w2) := HX.out.trans hx2
        have HT : Hid (IsStrs w (.slice (if ca = 1 then some ⟨ba, oa, none⟩ else some ⟨ba, oa + 1, none⟩) a.length (ca - 1)) a) := IsStrs.tail (l := x :: a) 1 HXA.out (by simp) (if ca = 1 then some ⟨ba, oa, none⟩ else some ⟨ba, oa + 1, none⟩) (fun h => by cases h) (fun h b o e => by rw [if_neg h]; cases e; rfl)
        clear hx2 y1 y2
        go_wp2_with (at_builtin; go_must (refine app_str rfl _ _ rfl w.heap.size _ C.length _ rfl (hown2.alloc _) w2.heap.size 1 1 [x] rfl rfl (alloc_at _ _) (by omega) (by simp; omega) ?_; intro v' w3 hown3 hg3))
        go_roundw
        case rel => exact ⟨a, y :: b, C ++ [x], HQ, HT, HXB, by rw [List.length_append]; exact hown3, owns_ext_app (HX2.out.alloc _) (hown2.alloc _) hg3⟩
        case measure => simp [lenV]
      | true =>
        have hxy : ltB x y = false := by
          cases h9 : ltB x y with
          | false => rfl
          | true =>
            have := ltB_trans hq h9
            rw [ltB_irr] at this
            cases this
        have HQ : Hid (MInv A B b (x :: a) (C ++ [y])) := HI.out.swap.step hxy
        have hcn : c < 0 := by
          rw [← hc]
          unfold cmpI
          rw [hxy, hq]
          decide
        clear hc hq hxy
        go_upto_region 3 with fail
        apply wp_region_mix 8 [_, _, S8 y, _, _, S8 x, .int .i64 c, .bool true] [none, none, none, none, none, none, none, none] [[], [0], [1], [], [3], [4], [2, 5], [6]] (by kernel_rfl) (by kernel_rfl) (by simp [mixV])
        · trivial
        · simp (maxSteps := 1000000) only [List.take_succ_cons, List.take_zero, oblFrom, stepObl, fillFrom, Act.put, List.setIfInBounds_toArray, List.set_cons_zero, List.set_cons_succ, knows, getV, mixV, List.getD_cons_zero, List.getD_cons_succ, and_true, true_and, forall_const]
          refine ⟨?_, ?_, ?_, ?_, ?_, ?_, ?_, ?_⟩
          · intro xs wq hq R hR
            have f1 := hq.cell y1; have f2 := hq.cell y2
            go_simp
            exact hR _ _ (Ext.refl _) rfl
          · intro xs wq hq hk R hR
            have f1 := hq.cell y1; have f2 := hq.cell y2
            go_simp
            exact hR _ _ (Ext.refl _) rfl
          · intro xs wq hq hk R hR
            have f1 := hq.cell y1; have f2 := hq.cell y2
            go_simp
            exact hR _ _ (Ext.refl _) rfl
          · intro xs wq hq R hR
            have f1 := hq.cell y1; have f2 := hq.cell y2
            go_simp
            exact hR _ _ (Ext.refl _) rfl
          · intro xs wq hq hk R hR
            have f1 := hq.cell y1; have f2 := hq.cell y2
            go_simp
            exact hR _ _ (Ext.refl _) rfl
          · intro xs wq hq hk R hR
            have f1 := hq.cell y1; have f2 := hq.cell y2
            go_simp
            exact hR _ _ (Ext.refl _) rfl
          · intro xs wq hq hk R hR
            obtain ⟨hk0, hk1⟩ := hk
            go_simp
            exact (compare_any y x _).mono (by rw [HC.out]; rintro e' w4 ⟨rfl, rfl⟩; exact ⟨_, rfl, hR _ _ (Ext.refl _) rfl⟩)
          · intro xs wq hq hk R hR
            have f1 := hq.cell y1; have f2 := hq.cell y2
            go_simp
            exact hR _ _ (Ext.refl _) rfl
        intro xs w2 hx2 hk
        simp only [heldV, Nat.zero_add, Nat.reduceAdd, and_true] at hk
        obtain ⟨q0, q1, q2, q3, q4, q5, q6, q7⟩ := hk
        simp (maxSteps := 1000000) only [List.take_succ_cons, List.take_zero, List.drop_succ_cons, List.drop_zero, fillFrom, Act.put, List.setIfInBounds_toArray, List.set_cons_zero, List.set_cons_succ, Nat.zero_add, Nat.reduceAdd, q0, q1, q2, q3, q4, q5, q6, q7]
        clear q0 q1 q2 q3 q4 q5 q6 q7
        have y3 := hx2.cell y2
        have hown2 := owns_ext hown hx2
        have hsz2 := hx2.size
        have HX2 : Hid (Ext w w2) := HX.out.trans hx2
        have HT : Hid (IsStrs w (.slice (if cb = 1 then some ⟨bb, ob, none⟩ else some ⟨bb, ob + 1, none⟩) b.length (cb - 1)) b) := IsStrs.tail (l := y :: b) 1 HXB.out (by simp) (if cb = 1 then some ⟨bb, ob, none⟩ else some ⟨bb, ob + 1, none⟩) (fun h => by cases h) (fun h b o e => by rw [if_neg h]; cases e; rfl)
        clear hx2 y1 y2
        go_wp2_with (at_builtin; go_must (refine app_str rfl _ _ rfl w.heap.size _ C.length _ rfl (hown2.alloc _) w2.heap.size 1 1 [y] rfl rfl (alloc_at _ _) (by omega) (by simp; omega) ?_; intro v' w3 hown3 hg3))
        go_roundw
        case rel => exact ⟨b, x :: a, C ++ [y], HQ, HT, HXA, by rw [List.length_append]; exact hown3, owns_ext_app (HX2.out.alloc _) (hown2.alloc _) hg3⟩
        case measure => simp [lenV]; omega

end Go.Proofs.YtalpfoomkhhgnaaGreatDoor

/-! table.Build's two orders: of two texts, of one object. Conditions: as each theorem states. -/
namespace Go.Proofs.YtalpfoomkhhgnaaGreatDoor
open Go Go.RowKit Go.Sort Go.Lib
set_option linter.unusedVariables false
set_option linter.unusedSimpArgs false

theorem two_alloc (w : World) (a b : Array Value) (s t : TypeId) : (w.alloc (.cells a s)).alloc (.cells b t) = grow w #[.cells a s, .cells b t] := by
  unfold grow World.alloc
  have h : ∀ (x : Array Obj) (p q : Obj), (x.push p).push q = x ++ #[p, q] := fun x p q => by rw [Array.push_eq_append, Array.push_eq_append, Array.append_assoc]; rfl
  rw [h]
def nmB (b : Bool) : B8 := if b then [97] else []
def encB (b : Bool) : Value := S8 (nmB b)
def lenB (x y : Bool) : Int := ((nmB y).length : Int) - ((nmB x).length : Int)
set_option maxRecDepth 100000 in
theorem build1_gen (x y : B8) (w : World) (hx : x.length ≤ 1000) (hy : y.length ≤ 1000) : Calls Tryz.prog 45 #[S8 x, S8 y] w fun e w' => e = .returned (.int .i64 ((y.length : Int) - (x.length : Int))) ∧ w' = w := by
  have hw : IntKind.i64.wrap ((y.length : Int) - (x.length : Int)) = (y.length : Int) - (x.length : Int) := IntWalk.i64_in _ (by omega)
  go_enter Tryz.func45, Tryz.ntmps45
  go_wp2
  go_ret
  exact ⟨rfl, rfl⟩
theorem build1_any (x y : Bool) (w : World) : Calls Tryz.prog 45 #[encB x, encB y] w fun e w' => e = .returned (.int .i64 (lenB x y)) ∧ w' = w :=
  build1_gen (nmB x) (nmB y) w (by cases x <;> decide) (by cases y <;> decide)
set_option maxRecDepth 100000 in
theorem build2_any (m : Value) (nm id : B8) (w : World) : Calls Tryz.prog 47 #[.agg #[m, S8 nm, S8 id], .agg #[m, S8 nm, S8 id]] w fun e w' => e = .returned (.int .i64 0) ∧ ∃ os, w' = grow w os := by
  have h0 : cmpI nm nm = 0 := by unfold cmpI; rw [ltB_irr]; rfl
  go_enter Tryz.func47, Tryz.ntmps47
  go_wp2_with (go_at_call 35; go_must (refine (compare_any nm nm _).mono ?_; rw [h0]; rintro e w' ⟨rfl, rfl⟩))
  go_ret
  refine ⟨rfl, #[.cells #[m, S8 nm, S8 id] 81, .cells #[m, S8 nm, S8 id] 81], ?_⟩
  exact two_alloc _ _ _ _ _
theorem lens_any : ∀ (n : Nat) (W : World), n ≤ 12 → Calls Tryz.prog 65 #[.int .u64 n] W fun e w' => (∃ l : Int, e = .returned (.int .i64 l)) ∧ w' = W := fun n W h => (Tryz.bits_Len n W (by omega) (by omega)).mono fun e w' ⟨he, hw⟩ => ⟨⟨_, he⟩, hw⟩

theorem sort2_any (blk cap : Nat) (d : Array Bool) (w : World) (hH : Holds encB w blk 0 d) (hd : d.size ≤ 12) :
    Calls Tryz.prog 44 #[.slice (some ⟨blk, 0, none⟩) d.size cap, .func (.func 45) #[] #[]] w fun e w' => e = .returned (.tuple #[]) ∧ ∃ n, w' = (putRow encB w blk 0 (Sort.insertionSort (ltOf lenB) d 0 d.size)).drewN n := by
  have eg : ∀ args w, (callFunc 45 args).run Tryz.prog w = .ok (.enter 45 args) w := enters_of Tryz.func45 (by kernel_rfl) rfl
  exact Tryz.slices_SortFunc_small encB (fun _ => rfl) lenB _ #[] blk 0 cap d w eg (fun m os dk _ x y => (build1_any x y _).mono fun e w' ⟨he, hw⟩ => ⟨he, 0, hw⟩) hH hd lens_any

theorem sort1_any (m : Value) (h1m : m.oneCell' = true) (nm id : B8) (blk cap : Nat) (w : World) (hc : ∀ j v, #[m, S8 nm, S8 id][j]? = some v → w.cell? ⟨blk, j, none⟩ = some v ∧ w.frozen? ⟨blk, j, none⟩ = false) :
    Calls Tryz.prog 46 #[.slice (some ⟨blk, 0, none⟩) 1 cap, .func (.func 47) #[] #[]] w fun e w' => e = .returned (.tuple #[]) ∧ Ext w w' := by
  have eg : ∀ args w, (callFunc 47 args).run Tryz.prog w = .ok (.enter 47 args) w := enters_of Tryz.func47 (by kernel_rfl) rfl
  have hH : HoldsK (fun _ : Unit => [m, S8 nm, S8 id]) 3 w blk 0 #[()] := by
    intro j hj
    have hj3 : j < 3 := by simpa using hj
    rw [Nat.zero_add]
    rw [show _root_.id (flatK (fun _ : Unit => [m, S8 nm, S8 id]) 3 #[()])[j]! = (flatK (fun _ : Unit => [m, S8 nm, S8 id]) 3 #[()])[j]! from rfl, get_flatK _ _ _ j (by simpa using hj3)]
    match j, hj3 with
    | 0, _ => exact hc 0 m rfl
    | 1, _ => exact hc 1 _ rfl
    | 2, _ => exact hc 2 _ rfl
  have hb : blk < w.heap.size := World.block_lt_of_cell? _ _ (hc 0 m rfl).1
  have h := AnyQ.slices_SortFunc_small Tryz.laysSortI 3 (fun w => Tryz.isAgg81 w) (fun w => Tryz.sizeOf81 w) (fun _ : Unit => [m, S8 nm, S8 id]) (fun _ => rfl) (by intro x v hv; simp at hv; rcases hv with rfl | rfl | rfl <;> first | exact h1m | rfl) (fun _ _ => 0) _ #[] blk 0 cap #[()] w eg
    (fun q os dk _ x y => (build2_any m nm id _).mono fun e w' ⟨he, os', hw⟩ => ⟨he, 0, os', hw⟩) hH hb (by decide) lens_any
  refine Calls.mono h fun e w' ⟨he, n, os, hw⟩ => ⟨he, ?_⟩
  rw [hw]
  have hs : Sort.insertionSort (ltOf fun _ _ : Unit => (0 : Int)) #[()] 0 #[()].size = #[()] := by decide +kernel
  rw [hs]
  unfold sortWorldK
  rw [putRowK_self _ _ _ _ _ _ (holdsK_ahead _ _ _ _ _ _ _ hH)]
  exact Ext.of_grow n os

theorem perm2 {C : List B8} (h : C.Perm [[], [97]]) : ∃ d : List Bool, (d = [false, true] ∨ d = [true, false]) ∧ C = d.map nmB := by
  have hl := h.length_eq
  have m0 : [] ∈ C := h.symm.mem_iff.1 (by simp)
  have m1 : [97] ∈ C := h.symm.mem_iff.1 (by simp)
  match C, hl with
  | [x, y], _ =>
    simp at m0 m1
    rcases m0 with rfl | rfl
    · rcases m1 with h1 | rfl
      · cases h1
      · exact ⟨[false, true], .inl rfl, rfl⟩
    · rcases m1 with rfl | h1
      · exact ⟨[true, false], .inr rfl, rfl⟩
      · cases h1
theorem holds_nm {w : World} {q : Nat} {d : List Bool} (h : Holds encStr w q 0 (d.map nmB).toArray) : Holds encB w q 0 d.toArray := by
  intro j hj
  have hj' : j < d.length := by simpa using hj
  have h1 := h j (by simpa using hj')
  have e : encStr (d.map nmB).toArray[j]! = encB d.toArray[j]! := by
    rw [getElem!_pos (d.map nmB).toArray j (by simpa using hj'), getElem!_pos d.toArray j (by simpa using hj')]
    simp
    rfl
  rw [e] at h1
  exact h1
theorem putRow_gr {α : Type} [Inhabited α] (enc : α → Value) (w : World) (g n : Nat) (d : Array α) : w.grownBy ((putRow enc w g 0 d).drewN n) (some g) := by
  refine ⟨rfl, rfl, rfl, by simp [World.drewN, putRow, mapBlock], fun k hk hne => ?_⟩
  have : g ≠ k := fun e => hne (by rw [e])
  simp [World.drewN, putRow, mapBlock, Array.getElem?_modify, this]
theorem order_any (q c : Nat) (C : List B8) (cur : Array Value) (w : World) (hp : C.Perm [[], [97]]) (hb : w.heap[q]? = some (.cells cur 9 (0, 0))) (ht : cur.toList.take (C.length * 1) = C.map S8) :
    Calls Tryz.prog 44 #[.slice (some ⟨q, 0, none⟩) 2 c, .func (.func 45) #[] #[]] w fun e w' => e = .returned (.tuple #[]) ∧ w.grownBy w' (some q) ∧ w'.cell? ⟨q, 0, none⟩ = some (S8 [97]) ∧ w'.cell? ⟨q, 1, none⟩ = some (S8 []) := by
  obtain ⟨d, hd, rfl⟩ := perm2 hp
  have hH : Holds encB w q 0 d.toArray := holds_nm (holds_of_block hb (by rw [Nat.mul_one] at ht; exact ht))
  have hs : d.toArray.size = 2 := by rcases hd with rfl | rfl <;> rfl
  have hi : Sort.insertionSort (ltOf lenB) d.toArray 0 d.toArray.size = #[true, false] := by rcases hd with rfl | rfl <;> decide +kernel
  have h := sort2_any q c d.toArray w hH (by omega)
  rw [hi, hs] at h
  refine h.mono fun e w' ⟨he, n, hw⟩ => ⟨he, by rw [hw]; exact putRow_gr _ _ _ _ _, ?_, ?_⟩
  · rw [hw]
    show (putRow encB w q 0 #[true, false]).cell? ⟨q, 0, none⟩ = _
    exact cell?_putRow encB w q 0 d.toArray #[true, false] hH (by rw [hs]; rfl) 0 (by decide)
  · rw [hw]
    show (putRow encB w q 0 #[true, false]).cell? ⟨q, 1, none⟩ = _
    exact cell?_putRow encB w q 0 d.toArray #[true, false] hH (by rw [hs]; rfl) 1 (by decide)

theorem cells3 {w : World} {q : Nat} {cur : Array Value} {e : TypeId} {xs : Array Value} (hb : w.heap[q]? = some (.cells cur e (0, 0))) (h4 : cur.toList.take (1 * 3) = xs.toList) : ∀ j v, xs[j]? = some v → w.cell? ⟨q, j, none⟩ = some v ∧ w.frozen? ⟨q, j, none⟩ = false := by
  intro j v hj
  refine ⟨?_, by simp [World.frozen?, hb]⟩
  have h1 : (cur.toList.take (1 * 3))[j]? = some v := by rw [h4, Array.getElem?_toList]; exact hj
  rw [List.getElem?_take] at h1
  split at h1
  · simp only [World.cell?, hb]
    simp only [Option.isSome_none, Bool.false_eq_true, if_false]
    rw [← Array.getElem?_toList, h1]
  · cases h1
theorem item_sorts {w : World} {base : Nat} {v m : Value} {nm id : B8} (h : w.ownsRow base 81 3 v 1 [m, S8 nm, S8 id]) (h1m : m.oneCell' = true := by rfl) : ∃ q c, v = .slice (some ⟨q, 0, none⟩) 1 c ∧
    Calls Tryz.prog 46 #[.slice (some ⟨q, 0, none⟩) 1 c, .func (.func 47) #[] #[]] w fun e w' => e = .returned (.tuple #[]) ∧ Ext w w' := by
  rcases h.2 with ⟨-, h0⟩ | ⟨q, c, cur, rfl, hb, hbk, j1, j2, j3, j4⟩
  · cases h0
  · exact ⟨q, c, rfl, sort1_any m h1m nm id q c w (cells3 hbk j4)⟩
end Go.Proofs.YtalpfoomkhhgnaaGreatDoor

/-! table.sorted, table.Same. Conditions: as each theorem states. -/
namespace Go.Proofs.YtalpfoomkhhgnaaGreatDoor
open Go Go.Shelf Go.RowKit Go.Lib Go.Sort
set_option linter.unusedVariables false
set_option linter.unusedSimpArgs false
set_option linter.unusedSectionVars false

def cmpR (x y : Rw) : Int := cmpI x.path y.path
theorem cmpR_lt (x y : Rw) : ltOf cmpR x y = ltB x.path y.path := by
  unfold ltOf cmpR cmpI
  by_cases h : ltB x.path y.path = true
  · rw [if_pos h, h]; rfl
  · rw [if_neg h]
    have : ltB x.path y.path = false := by simpa using h
    rw [this]
    by_cases h2 : ltB y.path x.path = true
    · rw [if_pos h2]; rfl
    · rw [if_neg h2]; rfl
theorem cmpR_swo : SWO (ltOf cmpR) := by
  refine ⟨fun x => by rw [cmpR_lt]; exact lt_irr _, fun x y z h1 h2 => ?_, fun x y z h1 h2 => ?_⟩
  · rw [cmpR_lt] at h1 h2 ⊢
    exact lt_trans' h1 h2
  · rw [cmpR_lt] at h1 h2 ⊢
    cases h3 : ltB x.path z.path with
    | false => rfl
    | true =>
      by_cases hxy : x.path = y.path
      · rw [hxy, h2] at h3; cases h3
      · have h4 := lt_tri h1 hxy
        have h5 := lt_trans' h4 h3
        rw [h2] at h5; cases h5
theorem sorted1_any (x y : Rw) (w : World) : Calls Tryz.prog 58 #[.agg (rwC x).toArray, .agg (rwC y).toArray] w fun e w' => e = .returned (.int .i64 (cmpR x y)) ∧ ∃ os, w' = grow w os := by
  show Calls Tryz.prog 58 #[.agg #[S8 x.path, .int .i64 x.mode, S8 x.id], .agg #[S8 y.path, .int .i64 y.mode, S8 y.id]] w _
  go_enter Tryz.func58, Tryz.ntmps58
  go_wp2_with (go_at_call 35; go_must (refine (compare_any x.path y.path _).mono ?_; rintro e w' ⟨rfl, rfl⟩))
  go_ret
  exact ⟨rfl, _, two_alloc _ _ _ _ _⟩
theorem ins_rows (enc : Rw → List Value) (cf : Rw → Rw → Int) (g : Nat) (cb : Array Value) (blk off cap : Nat) (d0 : Array Rw) (w0 : World) (eg : ∀ args w, (callFunc g args).run Tryz.prog w = .ok (.enter g args) w) (hcmp : CmpLays Tryz.prog g cb enc 3 cf blk off d0.size w0) (R : RowK enc 3 w0 blk off d0) (hO : SWO (ltOf cf)) (hsz : d0.size < 1152921504606846976) : InsSays Tryz.prog 3 enc cf g cb blk off cap d0 w0 := fun a b d w hs S hab hb =>
  AnyQ.insertionSortCmpFunc_w Tryz.laysInsR 3 (fun w => Tryz.isAgg30 w) (fun w => Tryz.sizeOf30 w) enc cf g cb blk off cap a b d0 d w0 w eg hcmp R hs S hO hab hb (by omega)
theorem stF_tryz : StF Tryz.prog 3 where
  mixed := by kernel_rfl
  ti := by kernel_rfl
  ai := fun w => by kernel_rfl
  zi := fun w => by kernel_rfl
  vi := fun w => by kernel_rfl
  tb := by kernel_rfl
  ab := fun w => by kernel_rfl
  zb := fun w => by kernel_rfl
  vb := fun w => by kernel_rfl
  ts := Tryz.underlying22
  asl := fun w => by kernel_rfl
  zs := fun w => by kernel_rfl
  ar := fun w => Tryz.isAgg30 w
  zr := fun w => Tryz.sizeOf30 w
  eS := enters_of Tryz.func203 (by kernel_rfl) rfl
  eR := enters_of Tryz.func179 (by kernel_rfl) rfl
  fR := Tryz.func179
  fS := Tryz.func203
theorem stM_tryz : StM Tryz.prog 3 where
  F := stF_tryz
  tu := by kernel_rfl
  au := fun w => by kernel_rfl
  zu := fun w => by kernel_rfl
  vu := fun w => by kernel_rfl
  eM := enters_of Tryz.func140 (by kernel_rfl) rfl
  fM := Tryz.func140
theorem stS_tryz : StS Tryz.prog 3 where
  M := stM_tryz
  eB := enters_of Tryz.func84 (by kernel_rfl) rfl
  eI := enters_of Tryz.func139 (by kernel_rfl) rfl
  fB := Tryz.func84
  fU := Tryz.func57
set_option maxRecDepth 100000 in
theorem stable_nil (fv : Value) (w : World) : Calls Tryz.prog 84 #[.slice none 0 0, .int .i64 0, fv] w fun e w' => e = .returned (.tuple #[]) ∧ w' = w := by
  have hi : ∀ W, Calls Tryz.prog 139 #[.slice none 0 0, .int .i64 0, .int .i64 0, fv] W fun e w' => e = .returned (.tuple #[]) ∧ w' = W := fun W => AnyF.insertionSortCmpFunc_none Tryz.laysInsR none 0 fv W
  go_enter Tryz.func84, Tryz.ntmps84
  go_wp2
  refine wp_loop_rounds 1 ?_
  rw [rounds_succ]
  go_wp2_with (go_at_call 139; refine (hi _).mono ?_; rintro e w' ⟨rfl, rfl⟩)
  refine wp_loop_rounds 1 ?_
  rw [rounds_succ]
  go_wp2
  go_end0
  exact ⟨rfl, rfl⟩
set_option maxRecDepth 100000 in
theorem sortStable_nil (fv : Value) (w : World) : Calls Tryz.prog 57 #[.slice none 0 0, fv] w fun e w' => e = .returned (.tuple #[]) ∧ w' = w := by
  go_enter Tryz.func57, Tryz.ntmps57
  go_wp2_with (go_at_call 84; refine (stable_nil _ _).mono ?_; rintro e w' ⟨rfl, rfl⟩)
  go_end0
  exact ⟨rfl, rfl⟩

set_option maxRecDepth 100000 in
theorem sorted_any (v : Value) (l : List Rw) (base : Nat) (w : World) (h : w.ownsRow base 30 3 v l.length (l.flatMap rwC)) (hl : l.length ≤ 100000) :
    Calls Tryz.prog 25 #[v] w fun e w' => e = .returned v ∧ ∃ s : List Rw, s.Perm l ∧ (s.Pairwise fun a b => ltB b.path a.path = false) ∧ w'.ownsRow base 30 3 v s.length (s.flatMap rwC) ∧ w.grownBy w' v.ownBlock := by
  rcases h.2 with ⟨rfl, h0⟩ | ⟨g, cap, cur, rfl, -⟩
  · obtain rfl : l = [] := List.eq_nil_of_length_eq_zero h0
    go_enter Tryz.func25, Tryz.ntmps25
    go_wp2_with (go_at_call 57; refine (sortStable_nil _ _).mono ?_; rintro e w' ⟨rfl, rfl⟩)
    go_ret
    exact ⟨rfl, [], List.Perm.refl _, List.Pairwise.nil, World.ownsRow_nil _ _ _ _, ⟨rfl, rfl, rfl, Nat.le_refl _, fun _ _ _ => rfl⟩⟩
  · have hg := own_lt h
    have eg : ∀ args w, (callFunc 58 args).run Tryz.prog w = .ok (.enter 58 args) w := enters_of Tryz.func58 (by kernel_rfl) rfl
    have hcmp : CmpLays Tryz.prog 58 #[] rwC 3 cmpR g 0 l.toArray.size w := fun m os dk hdk x y => (sorted1_any x y _).mono fun e w' ⟨he, os', hw⟩ => ⟨he, 0, os', hw⟩
    have R : RowK rwC 3 w g 0 l.toArray := ⟨rwC_len, rwC_one, own_holds h, hg⟩
    have hs : l.toArray.size = l.length := by simp
    have hc := sortStable_any 3 stS_tryz rwC cmpR cmpR_swo 58 #[] g 0 cap l.toArray w eg hcmp R (ins_rows rwC cmpR _ #[] g 0 cap l.toArray w eg hcmp R cmpR_swo (by omega)) (by omega)
    rw [hs] at hc
    have HO : Hid _ := h
    clear h hcmp R
    go_enter Tryz.func25, Tryz.ntmps25
    go_wp2_with (go_at_call 57; refine hc.mono ?_; rintro e w' ⟨rfl, d', hw, hp, hsd⟩)
    go_ret
    have hds : d'.size = l.length := by rw [hp.1, hs]
    refine ⟨rfl, d'.toList, ?_, ?_, ?_, swk_grown hw⟩
    · have h1 := hp.2.2
      rw [Array.extract_eq_self_of_le (by omega), Array.extract_eq_self_of_le (by omega)] at h1
      exact h1
    · rw [List.pairwise_iff_getElem]
      intro i j hi hj hij
      have h2 := hsd i j (Nat.zero_le _) hij (by rw [Array.length_toList, hds] at hj; exact hj)
      rw [cmpR_lt, getElem!_pos d' j (by simpa using hj), getElem!_pos d' i (by simpa using hi)] at h2
      simpa using h2
    · have h3 := swk_own HO.out hw hds
      have hdl : d'.toList.length = l.length := by rw [Array.length_toList, hds]
      rw [hdl]
      exact h3
end Go.Proofs.YtalpfoomkhhgnaaGreatDoor

/-! table.Set, table.Same. Conditions: as each theorem states. -/
namespace Go.Proofs.YtalpfoomkhhgnaaGreatDoor
open Go Go.Shelf Go.RowKit Go.Lib Go.Sort
set_option linter.unusedVariables false
set_option linter.unusedSimpArgs false
set_option linter.unusedSectionVars false

set_option maxRecDepth 100000 in
theorem idxRows_nil (fv : Value) (w : World) : Calls Tryz.prog 56 #[.slice none 0 0, fv] w fun e w' => e = .returned (.int .i64 (-1)) ∧ w' = w := by
  go_enter Tryz.func56, Tryz.ntmps56
  go_wp2
  refine wp_loop_rounds 1 ?_
  rw [rounds_succ]
  go_wp2
  go_ret
  exact ⟨rfl, rfl⟩
set_option maxRecDepth 100000 in
theorem delRows_nil (fv : Value) (w : World) : Calls Tryz.prog 22 #[.slice none 0 0, fv] w fun e w' => e = .returned (.slice none 0 0) ∧ w' = w := by
  go_enter Tryz.func22, Tryz.ntmps22
  go_wp2_with (go_at_call 56; refine (idxRows_nil _ _).mono ?_; rintro e w' ⟨rfl, rfl⟩)
  go_ret
  exact ⟨rfl, rfl⟩
/-- DeleteFunc of rows of the call's own, nil too. -/
theorem delOwn_any (v : Value) (base bx : Nat) (l : List Rw) (p : B8) (w : World) (h : w.ownsRow base 30 3 v l.length (l.flatMap rwC)) (hbx : w.cell? ⟨bx, 0, none⟩ = some (S8 p)) (hne : bx < base) (hl : l.length ≤ 100000) :
    Calls Tryz.prog 22 #[v, .func (.func 24) #[] #[.pointer (some ⟨bx, 0, none⟩)]] w fun e w' => ∃ v', e = .returned v' ∧ w'.ownsRow base 30 3 v' (delR l p).length ((delR l p).flatMap rwC) ∧ w.grownBy w' v.ownBlock := by
  rcases h.2 with ⟨rfl, h0⟩ | ⟨g, cap, cur, rfl, hbg, -⟩
  · obtain rfl : l = [] := List.eq_nil_of_length_eq_zero h0
    exact (delRows_nil _ w).mono fun e w' ⟨he, hw⟩ => ⟨_, he, by rw [hw]; exact World.ownsRow_nil _ _ _ _, by rw [hw]; exact ⟨rfl, rfl, rfl, Nat.le_refl _, fun _ _ _ => rfl⟩⟩
  · exact (delRows_any g cap base bx l p w h hbx (by omega) hl).mono fun e w' ⟨he, ho, hg⟩ => ⟨_, he, ho, hg⟩
theorem delR_len (l : List Rw) (p : B8) : (delR l p).length ≤ l.length := List.length_filter_le _ _

set_option maxRecDepth 100000 in
set_option maxHeartbeats 4000000 in
theorem tset_any (v : Value) (l : List Rw) (p : B8) (e : Int × B8) (w : World) (hv : IsRws w v l) (hl : l.length ≤ 10000) (hr : RiseR l) :
    Calls Tryz.prog 10 #[v, S8 p, .agg #[.int .i64 e.1, S8 e.2]] w fun en w' => (∃ v' s, en = .returned v' ∧ IsSet l p e s ∧ w'.ownsRow w.heap.size 30 3 v' s.length (s.flatMap rwC)) ∧ Ext w w' := by
  obtain ⟨m, id⟩ := e
  obtain ⟨a, cap, rfl, -⟩ := hv.get
  have HV : Hid (IsRws w (.slice a l.length cap) l) := hv
  have HR : Hid _ := hr
  clear hv hr
  dsimp only
  go_enter Tryz.func10, Tryz.ntmps10
  go_upto_region 1 with fail
  obtain ⟨w1, hw1⟩ : ∃ w1, w1 = w.alloc (.cells #[S8 p] 9) := ⟨_, rfl⟩
  obtain ⟨w2, hw2⟩ : ∃ w2, w2 = w1.alloc (.cells #[.int .i64 m, S8 id] 26) := ⟨_, rfl⟩
  have hs1 : w1.heap.size = w.heap.size + 1 := by rw [hw1]; exact Array.size_push _
  have hs2 : w2.heap.size = w.heap.size + 2 := by rw [hw2]; show (w1.heap.push _).size = _; rw [Array.size_push, hs1]
  have HX1 : Hid (Ext w w1) := by rw [hw1]; exact (Ext.refl _).alloc _
  have HX12 : Hid (Ext w1 w2) := by rw [hw2]; exact (Ext.refl _).alloc _
  have hb1 : w1.heap[w.heap.size]? = some (.cells #[S8 p] 9 (0, 0)) := by rw [hw1]; exact alloc_at _ _
  have hb2 : w2.heap[w1.heap.size]? = some (.cells #[.int .i64 m, S8 id] 26 (0, 0)) := by rw [hw2]; exact alloc_at _ _
  have hc1 : w2.cell? ⟨w.heap.size, 0, none⟩ = some (S8 p) := HX12.out.cell (by simp [World.cell?, hb1])
  have e0 := (cell_of_row _ _ 0 _ _ _ hb2).trans rfl
  have e1 := (cell_of_row _ _ 1 _ _ _ hb2).trans rfl
  rw [hs1] at e0 e1
  have HX2 : Hid (Ext w w2) := HX1.out.trans HX12.out
  rw [← hw1, ← hw2]
  obtain ⟨g1, hg1⟩ : ∃ g1, w.heap.size = g1 := ⟨_, rfl⟩
  have HG1 : Hid _ := hg1
  rw [hg1] at hc1 e0 e1 hs2 ⊢
  obtain ⟨g2, hg2⟩ : ∃ g2, g1 + 1 = g2 := ⟨_, rfl⟩
  rw [hg2] at e0 e1 ⊢
  clear hw1 hw2 hb1 hb2 hs1 hg1 HX1 HX12
  go_wp2_with fail
  go_at_call 23
  refine (clone_rws (HV.out.ext HX2.out) (by omega)).mono ?_
  rintro en w3 ⟨⟨v3, rfl, ho3⟩, hx3⟩
  have HO3 : Hid _ := ho3
  have HX3 : Hid (Ext w2 w3) := hx3
  have HC3 : Hid _ := hx3.cell hc1
  have hlt : g1 < w2.heap.size := by omega
  clear ho3 hx3 hc1
  go_wp2_with fail
  go_at_call 22
  refine (delOwn_any v3 w2.heap.size g1 l p w3 HO3.out HC3.out hlt (by omega)).mono ?_
  rintro en w4 ⟨v4, rfl, ho4, hg4⟩
  have HX24 : Hid (Ext w2 w4) := owns_ext_app HX3.out HO3.out hg4
  have HO4 : Hid (w4.ownsRow w2.heap.size 30 3 v4 (delR l p).length ((delR l p).flatMap rwC)) := ho4
  have f0 := HX24.out.cell e0
  have f1 := HX24.out.cell e1
  have hd := delR_len l p
  have HB : Hid (w.heap.size ≤ w2.heap.size) := HX2.out.size
  have HCP : Hid (w4.cell? ⟨g1, 0, none⟩ = some (S8 p)) := by
    unfold Hid
    rw [World.cell?_of_block (w := w3) (w' := w4) (a := ⟨g1, 0, none⟩) (hg4.block g1 (World.block_lt_of_cell? _ _ HC3.out) (fun he => ?_))]
    · exact HC3.out
    · rcases HO3.out.2 with ⟨rfl, -⟩ | ⟨g, c, cur, rfl, hb, -⟩
      · cases he
      · simp only [Value.ownBlock, Option.some.injEq] at he
        have := hlt
        rw [he] at this
        exact absurd hb (Nat.not_le_of_lt this)
  have f2 := HCP.out
  clear e0 e1 ho4 hg4
  obtain ⟨z, hz⟩ : ∃ z, (m == 0) = z := ⟨_, rfl⟩
  have HZ : Hid (z = true ↔ m = 0) := by unfold Hid; rw [← hz]; exact beq_iff_eq
  clear HX3 HC3
  cases z with
  | true =>
    have hm := HZ.out.1 rfl
    subst hm
    have HOUT : Hid (outR l p (0, id) = delR l p) := by unfold Hid outR; rw [if_pos rfl, List.append_nil]
    go_wp2_with fail
    go_at_call 25
    refine (sorted_any v4 (delR l p) w2.heap.size w4 HO4.out (by omega)).mono ?_
    rintro en w5 ⟨rfl, s, hp, hs, ho5, hg5⟩
    have HX5 : Ext w2 w5 := owns_ext_app HX24.out HO4.out hg5
    go_wp2
    go_ret
    exact ⟨⟨_, s, rfl, isSet_of HR.out (by rw [HOUT.out]; exact hp) hs, by rw [← HG1.out]; exact World.ownsRow.mono ho5 HB.out⟩, HX2.out.trans HX5⟩
  | false =>
    have hm : m ≠ 0 := fun h => by have := HZ.out.2 h; cases this
    have HOUT : Hid (outR l p (m, id) = delR l p ++ [⟨p, m, id⟩]) := by unfold Hid outR; rw [if_neg hm]
    have hown : w4.ownsRow w2.heap.size 30 3 v4 (delR l p).length ((delR l p).flatMap rwC) := HO4.out
    have hsz := HX24.out.size
    go_wp2_with (at_builtin; go_must (refine app_rw rfl _ _ rfl w2.heap.size _ (delR l p).length _ rfl (hown.alloc _) w4.heap.size 1 ⟨p, m, id⟩ rfl (alloc_at _ _) (by omega) (by simp; omega) ?_; intro v' w5 hown5 hg5 _))
    go_at_call 25
    have HX5 : Hid (Ext w2 w5) := owns_ext_app (HX24.out.alloc _) (hown.alloc _) hg5
    have hown6 : w5.ownsRow w2.heap.size 30 3 v' (delR l p ++ [(⟨p, m, id⟩ : Rw)]).length ((delR l p ++ [(⟨p, m, id⟩ : Rw)]).flatMap rwC) := by
      rw [List.length_append, List.flatMap_append]
      exact hown5
    refine (sorted_any v' (delR l p ++ [⟨p, m, id⟩]) w2.heap.size w5 hown6 (by rw [List.length_append, List.length_singleton]; omega)).mono ?_
    rintro en w6 ⟨rfl, s, hp, hs, ho6, hg6⟩
    have HX6 : Ext w2 w6 := owns_ext_app HX5.out hown6 hg6
    go_wp2
    go_ret
    exact ⟨⟨_, s, rfl, isSet_of HR.out (by rw [HOUT.out]; exact hp) hs, by rw [← HG1.out]; exact World.ownsRow.mono ho6 HB.out⟩, HX2.out.trans HX6⟩
end Go.Proofs.YtalpfoomkhhgnaaGreatDoor
