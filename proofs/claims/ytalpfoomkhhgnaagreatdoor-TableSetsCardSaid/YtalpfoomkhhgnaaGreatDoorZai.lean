/- marref16.Paths, scan.entries: what they answer. Conditions: as each theorem states. -/
import Derived.Test.YtalpfoomkhhgnaaGreatDoorZah
import Derived.Test.YtalpfoomkhhgnaaGreatDoorZae
import Derived.Test.YtalpfoomkhhgnaaGreatDoorZab
import Derived.Test.YtalpfoomkhhgnaaGreatDoorZag
import Derived.Deep.DeepCutAuto
import Derived.Test.YtalpfoomkhhgnaaGreatDoorZaf
import Derived.Test.YtalpfoomkhhgnaaGreatDoorZac
import Derived.Deep.Upon
import Derived.Test.YtalpfoomkhhgnaaGreatDoorZad

set_option linter.unusedVariables false
set_option linter.unusedSimpArgs false

/-! table.Same. Conditions: as each theorem states. -/
namespace Go.Proofs.YtalpfoomkhhgnaaGreatDoor
open Go Go.Shelf Go.RowKit Go.Lib Go.Sort
set_option linter.unusedVariables false
set_option linter.unusedSimpArgs false
set_option linter.unusedSectionVars false

def eqRw (x y : Rw) : Bool := x.path == y.path && (x.mode == y.mode && x.id == y.id)
theorem eqRw_iff (x y : Rw) : eqRw x y = true ↔ x = y := by
  unfold eqRw
  simp only [Bool.and_eq_true, beq_iff_eq]
  constructor
  · rintro ⟨h1, h2, h3⟩
    cases x; cases y
    simp_all
  · rintro rfl
    exact ⟨rfl, rfl, rfl⟩
theorem allEq_rw : ∀ (a b : List Rw), Lib.allEq eqRw a b = true ↔ a = b
  | [], [] => by simp [Lib.allEq]
  | [], _ :: _ => by simp [Lib.allEq]
  | _ :: _, [] => by simp [Lib.allEq]
  | x :: a, y :: b => by
    rw [Lib.allEq, Bool.and_eq_true, eqRw_iff, allEq_rw a b]
    simp
theorem neq_rw (x y : Rw) (w : World) : (binOp .neq 30 (.agg (rwC x).toArray) (.agg (rwC y).toArray)).run Tryz.prog w = .ok (.bool (!eqRw x y)) w := by
  have hS : Tryz.prog.underlying 30 = some (.struct (Tryz.prog.fieldsOf 30)) := by kernel_rfl
  have hp : Tryz.prog.stoodInHeld 30 = false := by kernel_rfl
  show (binOp .neq 30 (.agg #[S8 x.path, .int .i64 x.mode, S8 x.id]) (.agg #[S8 y.path, .int .i64 y.mode, S8 y.id])).run Tryz.prog w = _
  rw [run_neq_struct, show (10000 : Nat) = 9999 + 1 from rfl, run_equalIn_agg w 9999 30 _ _ hS hp]
  simp only [Program.fieldsOf, Tryz.underlying30]
  go_simp
  obtain ⟨x1, x2, x3⟩ := x
  obtain ⟨y1, y2, y3⟩ := y
  have ha : (⟨x1.toArray⟩ : ByteArray).toList = x1 := Lib.toList_data _
  have hb : (⟨y1.toArray⟩ : ByteArray).toList = y1 := Lib.toList_data _
  have hc : (⟨x3.toArray⟩ : ByteArray).toList = x3 := Lib.toList_data _
  have hd : (⟨y3.toArray⟩ : ByteArray).toList = y3 := Lib.toList_data _
  unfold eqRw
  by_cases h1 : x1 = y1 <;> by_cases h2 : x2 = y2 <;> by_cases h3 : x3 = y3 <;> simp [h1, h2, h3, ha, hb, hc, hd]
theorem neqAt_rw : NeqAt Tryz.prog 30 (fun x => .agg (rwC x).toArray) eqRw := ⟨neq_rw, GuardAt.agg (fun x => (rwC x).toArray) (by kernel_rfl)⟩
theorem rows_cellsR {w : World} {b o cap : Nat} {l : List Rw} (h : IsRws w (.slice (some ⟨b, o, none⟩) l.length cap) l) : ∀ j, j < l.length → ∀ i v, (rwC l[j]!)[i]? = some v → w.cell? ⟨b, o + j * 3 + i, none⟩ = some v := by
  obtain ⟨a, c, he, -, -, -, hg⟩ := h.get
  cases he
  intro j hj i v hi
  have hx : l[j]? = some l[j]! := by rw [List.getElem?_eq_getElem hj, getElem!_pos l j hj]
  obtain ⟨b', o', hb, c0, c1, c2⟩ := hg j _ hx
  cases hb
  rw [Nat.mul_comm] at c0 c1 c2
  have hi' : [S8 l[j]!.path, .int .i64 l[j]!.mode, S8 l[j]!.id][i]? = some v := hi
  match i, hi' with
  | 0, hu => cases hu; exact c0
  | 1, hu => cases hu; exact c1
  | 2, hu => cases hu; exact c2
  | i + 3, hu => simp at hu

set_option maxRecDepth 100000 in
/-- Of lists of unlike length, or of none, the cells do not matter. -/
theorem eqRows_short (va vb : Option Addr) (n m ca cb : Nat) (w : World) (h : n ≠ m ∨ (n = 0 ∧ m = 0)) (hn : n ≤ 140737488355328) (hm : m ≤ 140737488355328) :
    Calls Tryz.prog 26 #[.slice va n ca, .slice vb m cb] w fun e w' => e = .returned (.bool (decide (n = m))) ∧ w' = w := by
  by_cases hnm : n = m
  · obtain ⟨rfl, rfl⟩ : n = 0 ∧ m = 0 := by omega
    go_enter Tryz.func26, Tryz.ntmps26
    go_wp2
    refine wp_loop_rounds 1 ?_
    rw [rounds_succ]
    go_wp2
    go_ret
    exact ⟨rfl, rfl⟩
  · have h1 : ((n : Int) == (m : Int)) = false := by rw [beq_eq_false_iff_ne]; omega
    have h2 : ((n : Int) != (m : Int)) = true := by rw [bne_iff_ne]; omega
    have h3 : ¬ (n : Int) = (m : Int) := by omega
    have h4 : decide (n = m) = false := decide_eq_false hnm
    rw [h4]
    go_enter Tryz.func26, Tryz.ntmps26
    go_wp2
    go_ret
    exact ⟨rfl, rfl⟩
theorem eqRows_any (va vb : Value) (a b : List Rw) (w : World) (ha : IsRws w va a) (hb : IsRws w vb b) :
    Calls Tryz.prog 26 #[va, vb] w fun e w' => (∃ c : Bool, e = .returned (.bool c) ∧ (c = true ↔ a = b)) ∧ Ext w w' := by
  obtain ⟨aa, ca, rfl, a1, a2, a3, hga⟩ := ha.get
  obtain ⟨ab, cb, rfl, b1, b2, b3, hgb⟩ := hb.get
  by_cases hab : a.length ≠ b.length ∨ (a.length = 0 ∧ b.length = 0)
  · refine (eqRows_short aa ab a.length b.length ca cb w hab a2 b2).mono fun e w' ⟨he, hw⟩ => ⟨⟨_, he, ?_⟩, by rw [hw]; exact Ext.refl _⟩
    rw [decide_eq_true_eq]
    constructor
    · intro h
      rcases hab with h9 | ⟨h8, h9⟩
      · exact absurd h h9
      · rw [List.eq_nil_of_length_eq_zero h8, List.eq_nil_of_length_eq_zero h9]
    · rintro rfl; rfl
  · have hal : 0 < a.length := by omega
    have hbl : 0 < b.length := by omega
    obtain ⟨b1', o1, rfl, -⟩ := hga 0 _ (List.getElem?_eq_getElem hal)
    obtain ⟨b2', o2, rfl, -⟩ := hgb 0 _ (List.getElem?_eq_getElem hbl)
    refine (AnyQ.slices_Equal Tryz.laysEqR 3 (fun w => Tryz.isAgg30 w) (fun w => Tryz.sizeOf30 w) rwC rwC_len eqRw neqAt_rw b1' o1 a.length ca b2' o2 b.length cb a b w (Nat.le_refl _) (Nat.le_refl _) (by omega) (by omega) (rows_cellsR ha) (rows_cellsR hb)).mono fun e w' ⟨he, q, hw⟩ => ⟨⟨_, he, ?_⟩, by rw [hw]; exact Ext.drawn _ _⟩
    rw [List.take_of_length_le (Nat.le_refl _), List.take_of_length_le (Nat.le_refl _)]
    exact allEq_rw a b
theorem tsame_any (va vb : Value) (a b : List Rw) (w : World) (ha : IsRws w va a) (hb : IsRws w vb b) :
    Calls Tryz.prog 11 #[va, vb] w fun e w' => (∃ c : Bool, e = .returned (.bool c) ∧ (c = true ↔ a = b)) ∧ Ext w w' := by
  have hc := eqRows_any va vb a b w ha hb
  go_enter Tryz.func11, Tryz.ntmps11
  go_wp2_with (go_at_call 26; refine hc.mono ?_; rintro e w' ⟨⟨c, rfl, hcc⟩, hx⟩)
  go_ret
  exact ⟨⟨c, rfl, hcc⟩, hx⟩
end Go.Proofs.YtalpfoomkhhgnaaGreatDoor

/-! marref1: digit, Unhex, Valid. Conditions: at most 30000000 signs. -/
namespace Go.Proofs.YtalpfoomkhhgnaaGreatDoor
open Go Go.RowKit

def digV (c : UInt8) : Int := if 48 ≤ c.toNat ∧ c.toNat ≤ 57 then c.toNat - 48 else if 97 ≤ c.toNat ∧ c.toNat ≤ 102 then c.toNat - 87 else -1
end Go.Proofs.YtalpfoomkhhgnaaGreatDoor

/-! marref16.Get, marref1.Parents, marref16.May, marlaw13.table: what they answer. Conditions: as each theorem states. -/
namespace Go.Proofs.YtalpfoomkhhgnaaGreatDoor
open Go Go.RowKit Go.Sort
set_option linter.unusedVariables false
set_option linter.unusedSimpArgs false
set_option linter.unusedSectionVars false

def entV (e : Int × B8) : Value := .agg #[.int .i64 e.1, S8 e.2]
theorem size_ent : (Tryz.prog.info? 26).map (·.size) = some 2 := by kernel_rfl
/-- A row's cells, as the walk meets them. -/
theorem IsRws.cells {w : World} {v : Value} {l : List Rw} (h : IsRws w v l) : ∃ a cap, v = .slice a l.length cap ∧ l.length ≤ cap ∧ l.length ≤ 140737488355328 ∧ cap ≤ 9223372036854775807 ∧
    ∀ (k : Nat) x, l[k]? = some x → ∃ b o, a = some ⟨b, o, none⟩ ∧ w.cell? ⟨b, o + k * 3, none⟩ = some (S8 x.path) ∧ w.cell? ⟨b, o + k * 3 + 1, none⟩ = some (.int .i64 x.mode) ∧ w.cell? ⟨b, o + k * 3 + 1 + 1, none⟩ = some (S8 x.id) := by
  obtain ⟨a, cap, he, h1, h2, h3, hg⟩ := h.get
  refine ⟨a, cap, he, h1, h2, h3, fun k x hx => ?_⟩
  obtain ⟨b, o, ha, c0, c1, c2⟩ := hg k x hx
  rw [Nat.mul_comm 3 k] at c0 c1 c2
  exact ⟨b, o, ha, c0, c1, c2⟩

end Go.Proofs.YtalpfoomkhhgnaaGreatDoor

/-! marref16.May: what may be a table. Conditions: as each theorem states. -/
namespace Go.Proofs.YtalpfoomkhhgnaaGreatDoor
open Go Go.RowKit Go.Sort
set_option linter.unusedVariables false
set_option linter.unusedSimpArgs false
set_option linter.unusedSectionVars false

theorem r0_no {l : List Rw} {k : Nat} {x : Rw} {r b : Bool} (h : mayR0 l k x = !r) (hb : mayR0 l k x = false) : r = true := by
  rw [hb] at h
  cases r
  · cases h
  · rfl
theorem r0_yes {l : List Rw} {k : Nat} {x : Rw} {r : Bool} (h : mayR0 l k x = !r) (hb : mayR0 l k x = true) : r = false := by
  rw [hb] at h
  cases r
  · rfl
  · cases h
theorem r0_of {l : List Rw} {k : Nat} {x : Rw} {a b c d e : Bool} (ha : pathB (dirW ++ x.path) = a) (hb : decide (1 ≤ x.mode) = b) (hc : decide (x.mode ≤ 3) = c) (hd : validB x.id = d) (he : (decide (k = 0) || ltB (l.getD (k - 1) zRw).path x.path) = e) : mayR0 l k x = (a && (b && (c && (d && e)))) := by
  unfold mayR0
  rw [ha, hb, hc, hd, he]
end Go.Proofs.YtalpfoomkhhgnaaGreatDoor

/-! table.find: where a path is in rows that rise. Conditions: as each theorem states. -/
namespace Go.Proofs.YtalpfoomkhhgnaaGreatDoor
open Go Go.RowKit Go.Sort
set_option linter.unusedVariables false
set_option linter.unusedSimpArgs false
set_option linter.unusedSectionVars false

set_option maxRecDepth 100000 in
theorem findF_any (x : Rw) (p : B8) (w : World) :
    Calls Tryz.prog 55 #[.agg #[S8 x.path, .int .i64 x.mode, S8 x.id], S8 p] w fun e w' => e = .returned (.int .i64 (cmpI x.path p)) ∧ Ext w w' := by
  obtain ⟨wa, hwa⟩ : ∃ wa, wa = w.alloc (.cells #[S8 x.path, .int .i64 x.mode, S8 x.id] 30) := ⟨_, rfl⟩
  have hxa : Ext w wa := by rw [hwa]; exact (Ext.refl _).alloc _
  have hba : wa.heap[w.heap.size]? = some (.cells #[S8 x.path, .int .i64 x.mode, S8 x.id] 30 (0, 0)) := by rw [hwa]; exact alloc_at _ _
  have HX : Hid (Ext w wa) := hxa
  obtain ⟨z0, z1, z2⟩ := cellsAt3 hba
  have HWA : Hid _ := hwa
  clear hxa hba hwa
  go_enter Tryz.func55, Tryz.ntmps55
  go_upto_region 1 with fail
  rw [← HWA.out]
  go_wp2_with fail
  go_at_call 35
  refine (compare_any x.path p wa).mono ?_
  rintro e w1 ⟨rfl, rfl⟩
  go_wp2
  go_ret
  exact ⟨rfl, HX.out⟩

/-- Ahead of a place all is below, from another place on nothing is. -/
structure BsI (l : List Rw) (p : B8) (i j : Nat) : Prop where
  le : i ≤ j
  len : j ≤ l.length
  lo : ∀ t x, t < i → l[t]? = some x → ltB x.path p = true
  hi : ∀ t x, j ≤ t → l[t]? = some x → ltB x.path p = false
theorem BsI.start (l : List Rw) (p : B8) : BsI l p 0 l.length := ⟨Nat.zero_le _, Nat.le_refl _, fun t x h => absurd h (Nat.not_lt_zero _), fun t x h hx => by have := (List.getElem?_eq_some_iff.1 hx).1; omega⟩
theorem BsI.up {l : List Rw} {p : B8} {i j h : Nat} {y : Rw} (b : BsI l p i j) (hr : riseT (l.map (·.path))) (hy : l[h]? = some y) (hh : i ≤ h ∧ h < j) (hb : ltB y.path p = true) : BsI l p (h + 1) j := by
  refine ⟨by omega, b.len, fun t x ht hx => ?_, b.hi⟩
  by_cases hth : t = h
  · subst hth
    rw [hy] at hx
    cases hx
    exact hb
  · exact lt_trans' (rise_lt hr (i := t) (j := h) (by rw [List.getElem?_map, hx]; rfl) (by rw [List.getElem?_map, hy]; rfl) (by omega)) hb
theorem BsI.down {l : List Rw} {p : B8} {i j h : Nat} {y : Rw} (b : BsI l p i j) (hr : riseT (l.map (·.path))) (hy : l[h]? = some y) (hh : i ≤ h ∧ h < j) (hb : ltB y.path p = false) : BsI l p i h := by
  refine ⟨by omega, by have := b.len; omega, b.lo, fun t x ht hx => ?_⟩
  by_cases hth : t = h
  · subst hth
    rw [hy] at hx
    cases hx
    exact hb
  · cases hq : ltB x.path p with
    | false => rfl
    | true =>
      have := lt_trans' (rise_lt hr (i := h) (j := t) (by rw [List.getElem?_map, hy]; rfl) (by rw [List.getElem?_map, hx]; rfl) (by omega)) hq
      rw [hb] at this
      cases this
def hasR (l : List Rw) (p : B8) : Bool := l.any fun r => r.path == p
theorem BsI.found {l : List Rw} {p : B8} {i : Nat} {y : Rw} (b : BsI l p i i) (hr : riseT (l.map (·.path))) (hy : l[i]? = some y) : hasR l p = (y.path == p) := by
  unfold hasR
  rw [Bool.eq_iff_iff, List.any_eq_true]
  constructor
  · rintro ⟨r, hm, hp⟩
    obtain ⟨t, ht, rfl⟩ := List.mem_iff_getElem.1 hm
    have hp : l[t].path = p := by simpa using hp
    have hx : l[t]? = some l[t] := List.getElem?_eq_getElem ht
    rcases Nat.lt_trichotomy t i with h | h | h
    · have := b.lo t _ h hx
      rw [hp, lt_irr] at this
      cases this
    · subst h
      rw [hy] at hx
      cases hx
      simpa using hp
    · have h1 := rise_lt hr (i := i) (j := t) (by rw [List.getElem?_map, hy]; rfl) (by rw [List.getElem?_map, hx]; rfl) h
      have h1 : ltB y.path l[t].path = true := h1
      rw [hp] at h1
      rw [b.hi i y (Nat.le_refl _) hy] at h1
      cases h1
  · intro h
    exact ⟨y, List.mem_of_getElem? hy, h⟩
theorem BsI.none {l : List Rw} {p : B8} (b : BsI l p l.length l.length) : hasR l p = false := by
  unfold hasR
  rw [List.any_eq_false]
  intro r hm
  obtain ⟨t, ht, rfl⟩ := List.mem_iff_getElem.1 hm
  have := b.lo t _ ht (List.getElem?_eq_getElem ht)
  have := lt_ne this
  simpa using this
theorem cmp_lt {a b : B8} : (decide (cmpI a b < 0)) = ltB a b := by
  unfold cmpI
  cases h1 : ltB a b with
  | true => simp
  | false =>
    cases h2 : ltB b a <;> simp
theorem cmp_eq {a b : B8} : (cmpI a b == 0) = (a == b) := by
  unfold cmpI
  cases h1 : ltB a b with
  | true =>
    have := lt_ne h1
    simp [this]
  | false =>
    cases h2 : ltB b a with
    | true =>
      have := (lt_ne h2).symm
      simp [this]
    | false =>
      have : a = b := Classical.byContradiction fun h => by have := lt_tri h1 h; rw [this] at h2; cases h2
      simp [this]

set_option maxRecDepth 100000 in
set_option maxHeartbeats 4000000 in
theorem bsearch_any (v : Value) (l : List Rw) (p : B8) (w : World) (hv : IsRws w v l) (hl : l.length ≤ 100000) (hr : riseT (l.map (·.path))) :
    Calls Tryz.prog 54 #[v, S8 p, .func (.func 55) #[] #[]] w fun e w' => (∃ i : Nat, e = .returned (.tuple #[.int .i64 i, .bool (hasR l p)])) ∧ Ext w w' := by
  obtain ⟨a, cap, rfl, l1, l2, l3, hg⟩ := hv.cells
  have HG : Hid _ := hg
  have HR : Hid (riseT (l.map (·.path))) := hr
  clear hv hg hr
  go_enter Tryz.func54, Tryz.ntmps54
  go_wp2_with fail
  go_loopw [9, 10] (fun vi vj wr => ∃ i j : Nat, Hid (BsI l p i j) ∧ vi = .int .i64 i ∧ vj = .int .i64 j ∧ Hid (Ext w wr)) (fun vi vj _ => (intOf vj).toNat - (intOf vi).toNat)
  case atStart => exact ⟨0, l.length, BsI.start l p, rfl, rfl, Ext.refl _⟩
  case round =>
  obtain ⟨i, j, HB, rfl, rfl, HX⟩ := hrel
  have hij := HB.out.le
  have hjl := HB.out.len
  by_cases hlt : i < j
  case neg =>
    have hij2 : i = j := by omega
    subst hij2
    by_cases hin : i < l.length
    case neg =>
      have hil : i = l.length := by omega
      subst hil
      have HN : Hid _ := HB.out.none
      go_wp2
      go_ret2
      exact ⟨⟨l.length, by rw [HN.out]; rfl⟩, HX.out⟩
    obtain ⟨y, hy⟩ : ∃ y, l[i]? = some y := ⟨_, List.getElem?_eq_getElem hin⟩
    obtain ⟨bb, oo, rfl, c0, c1, c2⟩ := HG.out i y hy
    have y0 := HX.out.cell c0
    have y1 := HX.out.cell c1
    have y2 := HX.out.cell c2
    have HN : Hid _ := HB.out.found HR.out hy
    clear c0 c1 c2 hy
    obtain ⟨c, hc⟩ : ∃ c, cmpI y.path p = c := ⟨_, rfl⟩
    have HC : Hid _ := hc
    have HCE : Hid ((c == 0) = (y.path == p)) := by unfold Hid; rw [← hc]; exact cmp_eq
    obtain ⟨q, hq⟩ : ∃ q, (c == 0) = q := ⟨_, rfl⟩
    have HQ : Hid (hasR l p = q) := by unfold Hid; rw [HN.out, ← HCE.out, hq]
    clear hc
    go_wp2_with fail
    go_at_call 55
    refine (findF_any y p wr).mono ?_
    rw [HC.out]
    rintro e w2 ⟨rfl, hx2⟩
    have HX2 : Hid (Ext w w2) := HX.out.trans hx2
    clear y0 y1 y2 hx2
    go_wp2
    go_ret2
    exact ⟨⟨i, by rw [HQ.out]; rfl⟩, HX2.out⟩
  have hw1 : IntKind.i64.wrap ((i : Int) + (j : Int)) = (i : Int) + (j : Int) := IntWalk.i64_in _ (by omega)
  go_upto_region 5 with fail
  obtain ⟨h, hh⟩ : ∃ h : Nat, ((i : Int) + (j : Int)) / 2 = (h : Int) := ⟨(i + j) / 2, by omega⟩
  have hih : i ≤ h ∧ h < j := by omega
  rw [hh]
  clear hw1 hh
  obtain ⟨hih, hhj⟩ := hih
  have hhl : h < l.length := by omega
  obtain ⟨y, hy⟩ : ∃ y, l[h]? = some y := ⟨_, List.getElem?_eq_getElem hhl⟩
  obtain ⟨bb, oo, rfl, c0, c1, c2⟩ := HG.out h y hy
  have y0 := HX.out.cell c0
  have y1 := HX.out.cell c1
  have y2 := HX.out.cell c2
  have HY : Hid _ := hy
  obtain ⟨c, hc⟩ : ∃ c, cmpI y.path p = c := ⟨_, rfl⟩
  have HC : Hid _ := hc
  have HCL : Hid (decide (c < 0) = ltB y.path p) := by unfold Hid; rw [← hc]; exact cmp_lt
  clear c0 c1 c2 hy hc
  go_wp2_with fail
  go_at_call 55
  refine (findF_any y p wr).mono ?_
  rw [HC.out]
  rintro e w2 ⟨rfl, hx2⟩
  have HX2 : Hid (Ext w w2) := HX.out.trans hx2
  clear y0 y1 y2 hx2
  by_cases hc0 : c < 0
  · have HBX : Hid (BsI l p (h + 1) j) := HB.out.up HR.out HY.out ⟨hih, hhj⟩ (by rw [← HCL.out]; exact decide_eq_true hc0)
    go_wp2_with fail
    go_roundw
    case rel => exact ⟨h + 1, j, HBX, by go_num, rfl, HX2⟩
    case measure => simp [intOf]; omega
  · have HBX : Hid (BsI l p i h) := HB.out.down HR.out HY.out ⟨hih, hhj⟩ (by rw [← HCL.out]; exact decide_eq_false hc0)
    go_wp2_with fail
    go_roundw
    case rel => exact ⟨i, h, HBX, rfl, rfl, HX2⟩
    case measure => simp [intOf]; omega

set_option maxRecDepth 100000 in
theorem tfind_any (v : Value) (l : List Rw) (p : B8) (w : World) (hv : IsRws w v l) (hl : l.length ≤ 100000) (hr : riseT (l.map (·.path))) :
    Calls Tryz.prog 21 #[v, S8 p] w fun e w' => (∃ i : Nat, e = .returned (.tuple #[.int .i64 i, .bool (hasR l p)])) ∧ Ext w w' := by
  have HB : Hid _ := bsearch_any v l p w hv hl hr
  obtain ⟨a, cap, rfl, -⟩ := hv.cells
  clear hv hr
  go_enter Tryz.func21, Tryz.ntmps21
  go_wp2_with fail
  go_at_call 54
  refine Calls.mono HB.out ?_
  rintro e w1 ⟨⟨i, rfl⟩, hx⟩
  go_wp2
  go_ret2
  exact ⟨⟨i, rfl⟩, hx⟩

end Go.Proofs.YtalpfoomkhhgnaaGreatDoor

/-! table.May: what may be a table. Conditions: as each theorem states. -/
namespace Go.Proofs.YtalpfoomkhhgnaaGreatDoor
open Go Go.RowKit Go.Sort
set_option linter.unusedVariables false
set_option linter.unusedSimpArgs false
set_option linter.unusedSectionVars false

def mayTRow (l : List Rw) (k : Nat) (x : Rw) : Bool := mayR0 l k x && (parentsL x.path).all fun p => !hasR (l.take k) p
def mayTab (l : List Rw) : Bool := ((List.range l.length).all fun k => mayTRow l k (l.getD k zRw)) && decide (l.length ≤ 256)
theorem tab_no {l : List Rw} {k : Nat} {x : Rw} (h : l[k]? = some x) (hb : mayTRow l k x = false) : mayTab l = false := by
  unfold mayTab
  have hl := (List.getElem?_eq_some_iff.1 h).1
  have : ((List.range l.length).all fun k => mayTRow l k (l.getD k zRw)) = false := by
    rw [List.all_eq_false]
    exact ⟨k, List.mem_range.2 hl, by rw [getD_at h, hb]; simp⟩
  rw [this, Bool.false_and]
theorem tab_no0 {l : List Rw} {k : Nat} {x : Rw} (h : l[k]? = some x) (hb : mayR0 l k x = false) : mayTab l = false := tab_no h (by unfold mayTRow; rw [hb]; rfl)
theorem tab_noP {l : List Rw} {k : Nat} {x : Rw} {p : B8} (h : l[k]? = some x) (hp : p ∈ parentsL x.path) (h0 : hasR (l.take k) p = true) : mayTab l = false := by
  refine tab_no h ?_
  unfold mayTRow
  have : ((parentsL x.path).all fun p => !hasR (l.take k) p) = false := by
    rw [List.all_eq_false]
    exact ⟨p, hp, by simp [h0]⟩
  rw [this, Bool.and_false]
theorem tab_yes {l : List Rw} (h : ∀ k x, l[k]? = some x → mayTRow l k x = true) : mayTab l = decide (l.length ≤ 256) := by
  unfold mayTab
  have : ((List.range l.length).all fun k => mayTRow l k (l.getD k zRw)) = true := by
    rw [List.all_eq_true]
    intro k hk
    have hk := List.mem_range.1 hk
    have hx : l[k]? = some l[k] := List.getElem?_eq_getElem hk
    rw [getD_at hx]
    exact h _ _ hx
  rw [this, Bool.true_and]
theorem tab_row {l : List Rw} (h : mayTab l = true) {k : Nat} {x : Rw} (hx : l[k]? = some x) : mayTRow l k x = true := by
  cases hq : mayTRow l k x with
  | true => rfl
  | false => rw [tab_no hx hq] at h; cases h
theorem r0_lt {l : List Rw} {k : Nat} (h : ∀ j x, j < k → l[j]? = some x → mayR0 l j x = true) {i j : Nat} {x y : Rw} (hij : i < j) (hj : j < k) (hx : l[i]? = some x) (hy : l[j]? = some y) : ltB x.path y.path = true := by
  have hs : ∀ i x y, i + 1 < k → l[i]? = some x → l[i + 1]? = some y → ltB x.path y.path = true := fun i x y hi hx hy => by
    have h1 := h _ _ hi hy
    unfold mayR0 at h1
    simp only [Bool.and_eq_true, Bool.or_eq_true, decide_eq_true_eq] at h1
    have h2 := h1.2.2.2.2
    rw [show i + 1 - 1 = i by omega, getD_at hx] at h2
    rcases h2 with h2 | h2
    · omega
    · exact h2
  have hd : ∀ (d i : Nat) (x y : Rw), i + 1 + d < k → l[i]? = some x → l[i + 1 + d]? = some y → ltB x.path y.path = true := by
    intro d
    induction d with
    | zero => exact hs
    | succ d ih =>
      intro i x y hi hx hy
      have hm := (List.getElem?_eq_some_iff.1 hy).1
      have hz : l[i + 1 + d]? = some l[i + 1 + d] := List.getElem?_eq_getElem (by omega)
      exact lt_trans' (ih i x _ (by omega) hx hz) (hs (i + 1 + d) _ y hi hz hy)
  exact hd (j - i - 1) i x y (by omega) hx (by rw [show i + 1 + (j - i - 1) = j by omega]; exact hy)
theorem r0_rise {l : List Rw} {k : Nat} (h : ∀ j x, j < k → l[j]? = some x → mayR0 l j x = true) : riseT ((l.take k).map (·.path)) := by
  refine List.pairwise_iff_getElem.2 fun i j hi hj hij => ?_
  rw [List.length_map, List.length_take] at hi hj
  rw [List.getElem_map, List.getElem_map, List.getElem_take, List.getElem_take]
  exact r0_lt h hij (by omega) (List.getElem?_eq_getElem (by omega)) (List.getElem?_eq_getElem (by omega))
theorem IsRws.take {w : World} {a : Option Addr} {l : List Rw} {cap k : Nat} (h : IsRws w (.slice a l.length cap) l) (hk : k ≤ l.length) : IsRws w (.slice a k cap) (l.take k) := by
  obtain ⟨a2, cap2, he, h1, h2, h3, h4⟩ := h
  simp only [Value.slice.injEq, true_and] at he
  obtain ⟨rfl, rfl⟩ := he
  have hlen : (l.take k).length = k := by rw [List.length_take]; omega
  unfold IsRws
  rw [hlen]
  refine ⟨a, cap, rfl, by omega, h2, by omega, fun hne => ?_⟩
  obtain ⟨b, o, ha, hc⟩ := h4 (fun h0 => hne (by
    have : l = [] := by
      cases l with
      | nil => rfl
      | cons x l => rw [List.flatMap_cons] at h0; simp [rwC] at h0
    subst this
    simp))
  refine ⟨b, o, ha, fun i u hu => hc i u ?_⟩
  have he : l.flatMap rwC = (l.take k).flatMap rwC ++ (l.drop k).flatMap rwC := by rw [← List.flatMap_append, List.take_append_drop]
  rw [he, List.getElem?_append_left (List.getElem?_eq_some_iff.1 hu).1]
  exact hu

set_option maxRecDepth 100000 in
set_option maxHeartbeats 16000000 in
theorem tmay_any (v : Value) (l : List Rw) (w : World) (hE : Env w) (hv : IsRws w v l) (hl : l.length ≤ 100000) (hs : ∀ r ∈ l, r.path.length ≤ 400 ∧ r.id.length ≤ 400) :
    Calls Tryz.prog 8 #[v] w fun e w' => e = .returned (.bool (mayTab l)) ∧ Ext w w' := by
  have HV : Hid (IsRws w v l) := hv
  obtain ⟨a, c, rfl, l1, l2, l3, hg⟩ := hv.cells
  have HG : Hid _ := hg
  have HS : Hid _ := hs
  clear hv hg hs
  have HE : Hid (Env w) := hE
  clear hE
  go_enter Tryz.func8, Tryz.ntmps8
  go_wp2_with fail
  go_loopw [11] (fun i wr => ∃ k : Nat, k ≤ l.length ∧ i = .int .i64 k ∧ Hid (∀ j x, j < k → l[j]? = some x → mayTRow l j x = true) ∧ Hid (Ext w wr)) (fun i _ => l.length - (intOf i).toNat)
  case atStart => exact ⟨0, Nat.zero_le _, rfl, fun j x hj => absurd hj (Nat.not_lt_zero _), Ext.refl _⟩
  case round =>
  obtain ⟨k, hk, rfl, HT, HX⟩ := hrel
  by_cases hlt : k < l.length
  case neg =>
    have HF : Hid (mayTab l = decide (l.length ≤ 256)) := tab_yes (fun j x hx => HT.out j x (by have := (List.getElem?_eq_some_iff.1 hx).1; omega) hx)
    go_wp2
    go_ret
    refine ⟨ret_b ?_, HX.out⟩
    rw [HF.out]
    exact decide_eq_decide.2 (by omega)
  obtain ⟨x, hx⟩ : ∃ x, l[k]? = some x := ⟨_, List.getElem?_eq_getElem hlt⟩
  obtain ⟨bb, oo, rfl, hc0, hc1, hc2⟩ := HG.out k x hx
  obtain ⟨hxn, hxi⟩ := HS.out x (List.mem_of_getElem? hx)
  have HK : Hid (l[k]? = some x) := hx
  have HPREV : Hid (∀ j, k = j + 1 → wr.cell? ⟨bb, oo + j * 3, none⟩ = some (S8 (l.getD j zRw).path)) := fun j hj => by
    subst hj
    have hjl : j < l.length := by omega
    obtain ⟨b2, o2, he, h9, -⟩ := HG.out j (l.getD j zRw) (by rw [List.getD_eq_getElem?_getD, List.getElem?_eq_getElem hjl]; rfl)
    cases he
    exact HX.out.cell h9
  have y0 := HX.out.cell hc0
  have y1 := HX.out.cell hc1
  have y2 := HX.out.cell hc2
  obtain ⟨path, mode, id⟩ := x
  dsimp only at y0 y1 y2 hxn hxi
  clear hx hc0 hc1 hc2
  go_upto_region 4 with fail
  obtain ⟨w4, hw4⟩ : ∃ w4, w4 = wr.alloc (.cells #[S8 path, .int .i64 mode, S8 id] 30) := ⟨_, rfl⟩
  have hx4 : Ext wr w4 := by rw [hw4]; exact (Ext.refl _).alloc _
  have hb4 : w4.heap[wr.heap.size]? = some (.cells #[S8 path, .int .i64 mode, S8 id] 30 (0, 0)) := by rw [hw4]; exact alloc_at _ _
  rw [← hw4]
  obtain ⟨gi, hgi⟩ : ∃ gi, wr.heap.size = gi := ⟨_, rfl⟩
  rw [hgi] at hb4 ⊢
  obtain ⟨z0, z1, z2⟩ := cellsAt3 hb4
  have HX4 : Hid (Ext w w4) := HX.out.trans hx4
  have HP4 : Hid (∀ j, k = j + 1 → w4.cell? ⟨bb, oo + j * 3, none⟩ = some (S8 (l.getD j zRw).path)) := fun j hj => hx4.cell (HPREV.out j hj)
  have HB4 : Hid _ := hb4
  have v0 := fun d os => cell_regrown z0 d os
  have v1 := fun d os => cell_regrown z1 d os
  have v2 := fun d os => cell_regrown z2 d os
  obtain ⟨nb, hnb⟩ : ∃ nb, pathB (dirW ++ path) = nb := ⟨_, rfl⟩
  obtain ⟨vb, hvb⟩ : ∃ vb, validB id = vb := ⟨_, rfl⟩
  have HNB : Hid _ := hnb
  have HVB : Hid _ := hvb
  have HNA : Hid (∀ d os, Calls Tryz.prog 19 #[.string (⟨#[119, 47]⟩ ++ ⟨path.toArray⟩)] (grow (redrawn w4 d) os) fun e w' => e = .returned (.bool nb) ∧ ∃ q : Regrown, w' = grow (redrawn w4 q.d) q.os) := fun d os => Calls.regrown_of (by
    have h9 := path_l (dirW ++ path) (grow (redrawn w4 d) os) (HE.out.ext (HX4.out.trans (Ext.regrown _ _ _))) (by simp [dirW]; omega)
    rw [hnb] at h9
    exact h9)
  have HVA : Hid (∀ d os, Calls Tryz.prog 18 #[S8 id] (grow (redrawn w4 d) os) fun e w' => e = .returned (.bool vb) ∧ ∃ q : Regrown, w' = grow (redrawn w4 q.d) q.os) := fun d os => Calls.regrown_of (by
    have h9 := valid_any id (grow (redrawn w4 d) os) (by omega)
    rwa [hvb] at h9)
  obtain ⟨okk, hokk⟩ : ∃ c, mayR0 l k ⟨path, mode, id⟩ = !c := ⟨!mayR0 l k ⟨path, mode, id⟩, by simp⟩
  have HOK : Hid _ := hokk
  clear hw4 hx4 hb4 hgi z0 z1 z2 y0 y1 y2 hnb hvb hokk HPREV HX
  have hcat : ¬ 9223372036854775807 < 2 + path.length := by omega
  go_cut [54] (fun c wx => c = .bool okk ∧ Ext w4 wx)
  case first =>
    cases nb with
    | false =>
      have HR : Hid (okk = true) := r0_no (b := true) HOK.out ((r0_of HNB.out rfl rfl rfl rfl).trans (by simp))
      refine qw_below (by kernel_rfl) (by kernel_rfl) ?_
      repeat (refine qw_step (fun K hK => ?_); go_simp; first | (refine hK _ ?_; clear hK K) | (apply Exists.intro; refine ⟨fun _ => ?_, hK _ ?_⟩; (first | exact HNA.out _ _ | exact HVA.out _ _); clear hK K))
      refine qw_nil ?_
      intro _ hw'
      obtain ⟨⟨dq, osq⟩, hw''⟩ := hw'
      subst hw''
      go_wp2_with fail
      go_meet
      case rel => exact ⟨by rw [HR.out], Ext.regrown _ _ _⟩
    | true =>
    by_cases h1 : mode < 1
    · have HR : Hid (okk = true) := r0_no (b := true) HOK.out ((r0_of rfl (decide_eq_false (by dsimp only; omega)) rfl rfl rfl).trans (by simp))
      refine qw_below (by kernel_rfl) (by kernel_rfl) ?_
      repeat (refine qw_step (fun K hK => ?_); go_simp; first | (refine hK _ ?_; clear hK K) | (apply Exists.intro; refine ⟨fun _ => ?_, hK _ ?_⟩; (first | exact HNA.out _ _ | exact HVA.out _ _); clear hK K))
      refine qw_nil ?_
      intro _ hw'
      obtain ⟨⟨dq, osq⟩, hw''⟩ := hw'
      subst hw''
      go_wp2_with fail
      go_meet
      case rel => exact ⟨by rw [HR.out], Ext.regrown _ _ _⟩
    by_cases h2 : 3 < mode
    · have HR : Hid (okk = true) := r0_no (b := true) HOK.out ((r0_of rfl rfl (decide_eq_false (by dsimp only; omega)) rfl rfl).trans (by simp))
      refine qw_below (by kernel_rfl) (by kernel_rfl) ?_
      repeat (refine qw_step (fun K hK => ?_); go_simp; first | (refine hK _ ?_; clear hK K) | (apply Exists.intro; refine ⟨fun _ => ?_, hK _ ?_⟩; (first | exact HNA.out _ _ | exact HVA.out _ _); clear hK K))
      refine qw_nil ?_
      intro _ hw'
      obtain ⟨⟨dq, osq⟩, hw''⟩ := hw'
      subst hw''
      go_wp2_with fail
      go_meet
      case rel => exact ⟨by rw [HR.out], Ext.regrown _ _ _⟩
    cases vb with
    | false =>
      have HR : Hid (okk = true) := r0_no (b := true) HOK.out ((r0_of rfl rfl rfl HVB.out rfl).trans (by simp))
      refine qw_below (by kernel_rfl) (by kernel_rfl) ?_
      repeat (refine qw_step (fun K hK => ?_); go_simp; first | (refine hK _ ?_; clear hK K) | (apply Exists.intro; refine ⟨fun _ => ?_, hK _ ?_⟩; (first | exact HNA.out _ _ | exact HVA.out _ _); clear hK K))
      refine qw_nil ?_
      intro _ hw'
      obtain ⟨⟨dq, osq⟩, hw''⟩ := hw'
      subst hw''
      go_wp2_with fail
      go_meet
      case rel => exact ⟨by rw [HR.out], Ext.regrown _ _ _⟩
    | true =>
    have HIO : Hid (∀ e : Bool, (decide (k = 0) || ltB (l.getD (k - 1) zRw).path path) = e → mayR0 l k ⟨path, mode, id⟩ = e) := fun e he => (r0_of HNB.out (decide_eq_true (by dsimp only; omega)) (decide_eq_true (by dsimp only; omega)) HVB.out he).trans (by simp)
    by_cases hk0 : k = 0
    · have HR : Hid (okk = false) := r0_yes HOK.out (HIO.out true (by rw [hk0]; rfl))
      subst hk0
     
      refine qw_below (by kernel_rfl) (by kernel_rfl) ?_
      repeat (refine qw_step (fun K hK => ?_); go_simp; first | (refine hK _ ?_; clear hK K) | (apply Exists.intro; refine ⟨fun _ => ?_, hK _ ?_⟩; (first | exact HNA.out _ _ | exact HVA.out _ _); clear hK K))
      refine qw_nil ?_
      intro _ hw'
      obtain ⟨⟨dq, osq⟩, hw''⟩ := hw'
      subst hw''
      go_wp2_with fail
      go_meet
      case rel => exact ⟨by rw [HR.out], Ext.regrown _ _ _⟩
    · obtain ⟨j, rfl⟩ : ∃ j, k = j + 1 := ⟨k - 1, by omega⟩
      have hwj : IntKind.i64.wrap (((j + 1 : Nat) : Int) - 1) = (j : Int) := by rw [IntWalk.i64_in _ (by omega)]; omega
      have y3 := HP4.out j rfl
      obtain ⟨z, hz⟩ : ∃ z, (l.getD j zRw).path = z := ⟨_, rfl⟩
      rw [hz] at y3
      have v3 := fun d os => cell_regrown y3 d os
      have hk1 : (0 : Int) < ((j + 1 : Nat) : Int) := by omega
      have hwj2 : IntKind.i64.wrap (j : Int) = (j : Int) := IntWalk.i64_in _ (by omega)
      have hk2 : (0 : Int) < (j : Int) + 1 := by omega
      have hjl : j < l.length := by omega
      have HZ : Hid _ := hz
      clear hz y3
      rcases leT_cases path z with ⟨hlt9, hb, he⟩ | ⟨hlt9, hb⟩ | ⟨hlt9, hb, he⟩
      · have HR : Hid (okk = false) := r0_yes HOK.out (HIO.out true (by rw [show j + 1 - 1 = j from rfl, HZ.out, hlt9]; simp))
        clear hlt9
        refine qw_below (by kernel_rfl) (by kernel_rfl) ?_
        repeat (refine qw_step (fun K hK => ?_); go_simp; first | (refine hK _ ?_; clear hK K) | (apply Exists.intro; refine ⟨fun _ => ?_, hK _ ?_⟩; (first | exact HNA.out _ _ | exact HVA.out _ _); clear hK K))
        refine qw_nil ?_
        intro _ hw'
        obtain ⟨⟨dq, osq⟩, hw''⟩ := hw'
        subst hw''
        go_wp2_with fail
        go_meet
        case rel => exact ⟨by rw [HR.out], Ext.regrown _ _ _⟩
      · have HR : Hid (okk = true) := r0_no (b := true) HOK.out (HIO.out false (by rw [show j + 1 - 1 = j from rfl, HZ.out, hlt9]; simp))
        clear hlt9
        refine qw_below (by kernel_rfl) (by kernel_rfl) ?_
        repeat (refine qw_step (fun K hK => ?_); go_simp; first | (refine hK _ ?_; clear hK K) | (apply Exists.intro; refine ⟨fun _ => ?_, hK _ ?_⟩; (first | exact HNA.out _ _ | exact HVA.out _ _); clear hK K))
        refine qw_nil ?_
        intro _ hw'
        obtain ⟨⟨dq, osq⟩, hw''⟩ := hw'
        subst hw''
        go_wp2_with fail
        go_meet
        case rel => exact ⟨by rw [HR.out], Ext.regrown _ _ _⟩
      · have HR : Hid (okk = true) := r0_no (b := true) HOK.out (HIO.out false (by rw [show j + 1 - 1 = j from rfl, HZ.out, hlt9]; simp))
        clear hlt9
        refine qw_below (by kernel_rfl) (by kernel_rfl) ?_
        repeat (refine qw_step (fun K hK => ?_); go_simp; first | (refine hK _ ?_; clear hK K) | (apply Exists.intro; refine ⟨fun _ => ?_, hK _ ?_⟩; (first | exact HNA.out _ _ | exact HVA.out _ _); clear hK K))
        refine qw_nil ?_
        intro _ hw'
        obtain ⟨⟨dq, osq⟩, hw''⟩ := hw'
        subst hw''
        go_wp2_with fail
        go_meet
        case rel => exact ⟨by rw [HR.out], Ext.regrown _ _ _⟩
  case rest =>
  obtain ⟨rfl, hxc⟩ := hcut
  have HXC : Hid (Ext w wc) := HX4.out.trans hxc
  have hbc := hxc.row HB4.out
  clear hxc
  cases okk with
  | true =>
    have HF : Hid (mayTab l = false) := tab_no0 HK.out (by rw [HOK.out]; rfl)
    go_wp2
    go_ret
    exact ⟨ret_b HF.out.symm, HXC.out⟩
  | false =>
  obtain ⟨z0, z1, z2⟩ := cellsAt3 hbc
  clear hbc z1 z2 v0 v1 v2 HNA HVA HP4
  have HRK : Hid (riseT ((l.take k).map (·.path))) := r0_rise (fun j x hj hx => by
    have h9 := HT.out j x hj hx
    unfold mayTRow at h9
    exact ((Bool.and_eq_true _ _).mp h9).1)
  go_wp2_with fail
  go_at_call 20
  refine (parents_any path _ (HE.out.ext HXC.out) (by omega)).mono ?_
  rintro e w5 ⟨⟨vP, rfl, hP⟩, hx5⟩
  obtain ⟨pa, pc, rfl, p1, p2, p3, hpg⟩ := hP.get
  have HPG : Hid _ := hpg
  obtain ⟨P, hPP⟩ : ∃ P, parentsL path = P := ⟨_, rfl⟩
  have HPP : Hid _ := hPP
  rw [hPP] at HPG p1 p2 ⊢
  have HX5 : Hid (Ext w w5) := HXC.out.trans hx5
  clear hP hpg hPP hx5 z0
  go_wp2_with fail
  go_loopw [59] (fun i wq => ∃ j : Nat, j ≤ P.length ∧ i = .int .i64 j ∧ Hid (∀ p ∈ P.take j, hasR (l.take k) p = false) ∧ Hid (Ext w5 wq)) (fun i _ => P.length - (intOf i).toNat)
  case atStart => exact ⟨0, Nat.zero_le _, rfl, fun p hp => by simp at hp, Ext.refl _⟩
  case round =>
  obtain ⟨j, hj, rfl, HZ, HX⟩ := hrel
  by_cases hjl : j < P.length
  case neg =>
    have HTX : Hid (∀ i x, i < k + 1 → l[i]? = some x → mayTRow l i x = true) := fun i x hi hx => by
      by_cases hik : i = k
      · subst hik
        rw [HK.out] at hx
        cases hx
        unfold mayTRow
        rw [HOK.out, Bool.not_false, Bool.true_and, HPP.out, List.all_eq_true]
        have h9 := HZ.out
        rw [List.take_of_length_le (by omega)] at h9
        exact fun p hp => by simp [h9 p hp]
      · exact HT.out i x (by omega) hx
    have HXR : Hid (Ext w wr) := HX5.out.trans HX.out
    go_wp2_with fail
    go_roundw
    case rel => exact ⟨k + 1, by omega, by go_num, HTX, HXR⟩
    case measure => simp [intOf]; omega
  obtain ⟨pb, po, rfl, hpc⟩ := HPG.out j hjl
  have u1 := HX.out.cell (hpc j hjl)
  obtain ⟨p, hp⟩ : ∃ p, P[j]? = some p := ⟨_, List.getElem?_eq_getElem hjl⟩
  rw [show P.getD j [] = p by rw [List.getD_eq_getElem?_getD, hp]; rfl] at u1
  have HPJ : Hid _ := hp
  obtain ⟨hb, hhb⟩ : ∃ q, hasR (l.take k) p = q := ⟨_, rfl⟩
  have HHB : Hid _ := hhb
  have hkc : k ≤ c := by omega
  have hrg := tfind_any _ (l.take k) p wr ((HV.out.ext (HX5.out.trans HX.out)).take (by omega)) (by rw [List.length_take]; omega) HRK.out
  rw [hhb] at hrg
  have HRG : Hid _ := hrg
  clear hpc hp hhb hrg
  go_wp2_with fail
  go_at_call 21
  refine Calls.mono HRG.out ?_
  rintro e w6 ⟨⟨ix, rfl⟩, hx6⟩
  have HX6 : Hid (Ext w5 w6) := HX.out.trans hx6
  clear hx6 u1
  cases hb with
  | false =>
    have HZX : Hid (∀ p ∈ P.take (j + 1), hasR (l.take k) p = false) := fun q hq => by
      rw [take_snocR HPJ.out] at hq
      rcases List.mem_append.1 hq with hq | hq
      · exact HZ.out q hq
      · obtain rfl : q = p := by simpa using hq
        exact HHB.out
    go_wp2
    go_roundw
    case rel => exact ⟨j + 1, by omega, by go_num, HZX, HX6⟩
    case measure => simp [intOf]; omega
  | true =>
    have HF : Hid (mayTab l = false) := tab_noP HK.out (by rw [HPP.out]; exact List.mem_of_getElem? HPJ.out) HHB.out
    go_wp2
    go_ret
    exact ⟨ret_b HF.out.symm, HX5.out.trans HX6.out⟩

end Go.Proofs.YtalpfoomkhhgnaaGreatDoor

/-! table.parent: the directory and the name of a path. Conditions: as each theorem states. -/
namespace Go.Proofs.YtalpfoomkhhgnaaGreatDoor
open Go Go.RowKit Go.Sort
set_option linter.unusedVariables false
set_option linter.unusedSimpArgs false
set_option linter.unusedSectionVars false

set_option maxRecDepth 100000 in
theorem parent_none (p : B8) (w : World) (hp : p.length ≤ 1000000) (h : Lib.lastIndexByte ⟨p.toArray⟩ 47 = -1) :
    Calls Tryz.prog 43 #[S8 p] w fun e w' => e = .returned (.tuple #[S8 [], S8 p]) ∧ w' = w := by
  have hl := Tryz.strings_LastIndexByte ⟨p.toArray⟩ 47 (by show p.length < _; omega) w
  rw [h] at hl
  have HL : Hid _ := hl
  clear hl h
  go_enter Tryz.func43, Tryz.ntmps43
  go_wp2_with fail
  go_at_call 73
  refine Calls.mono HL.out ?_
  rintro e w1 ⟨rfl, rfl⟩
  go_wp2
  go_ret2
  exact ⟨rfl, rfl⟩
set_option maxRecDepth 100000 in
theorem parent_at (p q : B8) (w : World) (hp : p.length ≤ 100000) (hq : q.length ≤ 100000) (h : Lib.lastIndexByte ⟨(p ++ 47 :: q).toArray⟩ 47 = p.length) :
    Calls Tryz.prog 43 #[S8 (p ++ 47 :: q)] w fun e w' => e = .returned (.tuple #[S8 p, S8 q]) ∧ Ext w w' := by
  have hl := Tryz.strings_LastIndexByte ⟨(p ++ 47 :: q).toArray⟩ 47 (by show (p ++ 47 :: q).length < _; rw [List.length_append, List.length_cons]; omega) w
  rw [h] at hl
  have HL : Hid _ := hl
  have hsz : (⟨(p ++ 47 :: q).toArray⟩ : ByteArray).size = p.length + 1 + q.length := by show (p ++ 47 :: q).length = _; rw [List.length_append, List.length_cons]; omega
  have e1 : (⟨(p ++ 47 :: q).toArray⟩ : ByteArray).extract 0 p.length = ⟨p.toArray⟩ := by
    rw [extract_list _ 0 p.length (Nat.zero_le _) (by omega)]
    simp
  have e2 : (⟨(p ++ 47 :: q).toArray⟩ : ByteArray).extract (p.length + 1) (p.length + 1 + q.length) = ⟨q.toArray⟩ := by
    rw [extract_list _ (p.length + 1) (p.length + 1 + q.length) (by omega) (by omega)]
    simp
  obtain ⟨s, hs⟩ : ∃ s : ByteArray, (⟨(p ++ 47 :: q).toArray⟩ : ByteArray) = s := ⟨_, rfl⟩
  have HS : Hid _ := hs
  rw [hs] at hsz e1 e2
  have HL : Hid (Calls Tryz.prog 73 #[.string s, .int .u8 47] w fun e w' => e = .returned (.int .i64 p.length) ∧ w' = w) := by rw [← hs]; exact HL.out
  show Calls Tryz.prog 43 #[.string ⟨(p ++ 47 :: q).toArray⟩] w _
  rw [hs]
  clear hl h hs
  have hw1 : IntKind.i64.wrap ((p.length : Int) + 1) = (p.length : Int) + 1 := IntWalk.i64_in _ (by omega)
  have hn : ¬ (p.length : Int) < 0 := by omega
  have hb1 : (0 : Int) ≤ (p.length : Int) + 1 := by omega
  have hb2 : (p.length : Int) + 1 ≤ (s.size : Int) := by omega
  have hb3 : (p.length : Int) ≤ (s.size : Int) := by omega
  have hb4 : (p.length : Int) ≤ (p.length : Int) + 1 + (q.length : Int) := by omega
  have hb5 : (p.length : Int) + 1 ≤ (p.length : Int) + 1 + (q.length : Int) := by omega
  go_enter Tryz.func43, Tryz.ntmps43
  go_wp2_with fail
  go_at_call 73
  refine Calls.mono HL.out ?_
  rintro e w1 ⟨rfl, rfl⟩
  go_upto_region 4 with fail
  go_quiet (fail)
  go_wp2
  go_ret2
  exact ⟨rfl, Ext.drawn _ _⟩

end Go.Proofs.YtalpfoomkhhgnaaGreatDoor

/-! wire: Sort, Unique. Conditions: lists of at most 1000000 texts. -/
namespace Go.Proofs.YtalpfoomkhhgnaaGreatDoor
open Go Go.RowKit Go.Sort
set_option linter.unusedVariables false
set_option linter.unusedSimpArgs false
set_option linter.unusedSectionVars false

/-! ### Neighbours that are alike, in plain Lean -/
structure CpInv (zs : List B8) (m : Nat) : Prop where
  rise : riseT (Lib.compactUpTo zs.toArray m)
  mem : ∀ x, x ∈ Lib.compactUpTo zs.toArray m ↔ x ∈ zs.take m
  last : 0 < m → (Lib.compactUpTo zs.toArray m).getLast? = some (zs.getD (m - 1) [])
/-! ### In memory -/
theorem clone_strs {w : World} {v : Value} {l : List B8} (hv : IsStrs w v l) (hl : l.length ≤ 10000000) :
    Calls Tryz.prog 85 #[v] w fun e w' => (∃ v', e = .returned v' ∧ w'.ownsRow w.heap.size 9 1 v' l.length (l.map S8)) ∧ Ext w w' := by
  obtain ⟨a, cap, rfl, l1, l2, l3, hg⟩ := hv.get
  cases l with
  | nil =>
    cases a with
    | none => exact (Tryz.slices_Clone_string_nil 0 cap w).mono fun e w' ⟨he, hw⟩ => ⟨⟨_, he, World.ownsRow_nil _ _ _ _⟩, by rw [hw]; exact Ext.refl _⟩
    | some ad => exact (Tryz.slices_Clone_string_zero ad cap w).mono fun e w' ⟨v', he, ho, _, hb⟩ => ⟨⟨_, he, ho⟩, hb⟩
  | cons x l =>
    obtain ⟨b, o, rfl, hc⟩ := hg 0 (by simp)
    refine (Tryz.slices_Clone_string b o (x :: l).length cap ((x :: l).map fun s => (⟨s.toArray⟩ : ByteArray)) w (by simp) (by omega) (fun j hj => ?_)).mono fun e w' ⟨v', he, ho, _, hb⟩ => ⟨⟨_, he, ?_⟩, hb⟩
    · rw [List.length_map] at hj
      rw [hc j hj, List.getD_eq_getElem?_getD, List.getD_eq_getElem?_getD, List.getElem?_map, List.getElem?_eq_getElem hj]
      rfl
    · rw [List.take_of_length_le (by simp), List.map_map] at ho
      exact ho

set_option maxRecDepth 100000 in
set_option maxHeartbeats 4000000 in
theorem wsort_all : ∀ (N : Nat) (v : Value) (l : List B8) (w : World), l.length ≤ N → IsStrs w v l → l.length ≤ 1000000 →
    Calls Tryz.prog 60 #[v] w fun e w' => (∃ v', e = .returned v' ∧ w'.ownsRow w.heap.size 9 1 v' l.length ((sortT l).map S8)) ∧ Ext w w' := by
  intro N
  induction N with
  | zero =>
    intro v l w hN hv hl
    have hl0 : l.length = 0 := by omega
    obtain ⟨a, cap, rfl, l1, l2, l3, -⟩ := hv.get
    have HV : Hid (IsStrs w (.slice a l.length cap) l) := hv
    have HS : Hid (sortT l = l) := sort_small (by omega)
    have h2b : (l.length : Int) < 2 := by omega
    clear hv hl0 hN
    go_enter Tryz.func60, Tryz.ntmps60
    go_wp2_with fail
    go_at_call 85
    refine (clone_strs HV.out (by omega)).mono ?_
    rintro e w1 ⟨⟨v1, rfl, ho⟩, hx⟩
    have HO : Hid _ := ho
    have HX : Hid _ := hx
    clear ho hx
    go_wp2
    go_ret
    exact ⟨⟨_, rfl, by rw [HS.out]; exact HO.out⟩, HX.out⟩
  | succ N ih =>
    intro v l w hN hv hl
    obtain ⟨a, cap, rfl, l1, l2, l3, hga⟩ := hv.get
    have HGA : Hid _ := hga
    have HV : Hid (IsStrs w (.slice a l.length cap) l) := hv
    have HI : Hid _ := ih
    clear hv ih hga
    go_enter Tryz.func60, Tryz.ntmps60
    by_cases h2 : l.length < 2
    · have h2b : (l.length : Int) < 2 := by omega
      have HS : Hid (sortT l = l) := sort_small h2
      go_wp2_with fail
      go_at_call 85
      refine (clone_strs HV.out (by omega)).mono ?_
      rintro e w1 ⟨⟨v1, rfl, ho⟩, hx⟩
      have HO : Hid _ := ho
      have HX : Hid _ := hx
      clear ho hx
      go_wp2
      go_ret
      exact ⟨⟨_, rfl, by rw [HS.out]; exact HO.out⟩, HX.out⟩
    · have h2b : ¬ (l.length : Int) < 2 := by omega
      obtain ⟨k, hk⟩ : ∃ k, l.length / 2 = k := ⟨_, rfl⟩
      have hk1 : (l.length : Int) / 2 = (k : Int) := by omega
      have hk2 : Int.tdiv (l.length : Int) 2 = (k : Int) := by rw [Int.tdiv_eq_ediv_of_nonneg (by omega)]; exact hk1
      have hk3 : 0 < k ∧ k < l.length := by omega
      obtain ⟨ba, oa, rfl, -⟩ := HGA.out 0 (by omega)
      have hmn : k ≤ cap := by omega
      have hkl : k ≤ l.length := by omega
      have HLT : Hid ((sortT (l.take k)).length + (sortT (l.drop k)).length = l.length) := by unfold Hid; rw [sortT_len, sortT_len, List.length_take, List.length_drop]; omega
      have HSH : Hid (sortT (sortT (l.take k) ++ sortT (l.drop k)) = sortT l) := sort_halves l k
      have HT1 : Hid (IsStrs w (.slice (some ⟨ba, oa, none⟩) k cap) (l.take k)) := IsStrs.head k HV.out (by omega)
      have HT2 : Hid (IsStrs w (.slice (if cap = k then some ⟨ba, oa, none⟩ else some ⟨ba, oa + k, none⟩) (l.length - k) (cap - k)) (l.drop k)) := IsStrs.tail k HV.out (by omega) (if cap = k then some ⟨ba, oa, none⟩ else some ⟨ba, oa + k, none⟩) (fun h => by cases h) (fun h b o e => by rw [if_neg h]; cases e; rfl)
      clear HGA
      go_upto_region 4 with fail
      apply wp_region_mix 9 [_, _, _, undef, _, _, _, undef, undef] [none, none, none, some (fun u w' => IsStrs w' u (sortT (l.take k))), none, none, none, some (fun u w' => IsStrs w' u (sortT (l.drop k))), some (fun u w' => w'.ownsRow w.heap.size 9 1 u l.length ((sortT l).map S8))] [[], [], [0, 1], [2], [], [], [4, 5], [6], [3, 7]] (by kernel_rfl) (by kernel_rfl) (by simp [mixV])
      · refine ⟨?_, ?_, ?_, trivial⟩
        · exact fun _ _ _ he hu => hu.ext he
        · exact fun _ _ _ he hu => hu.ext he
        · exact fun _ _ _ he hu => owns_ext hu he
      · simp (maxSteps := 1000000) only [List.take_succ_cons, List.take_zero, oblFrom, stepObl, fillFrom, Act.put, List.setIfInBounds_toArray, List.set_cons_zero, List.set_cons_succ, knows, getV, mixV, List.getD_cons_zero, List.getD_cons_succ, and_true, true_and, forall_const]
        refine ⟨?_, ?_, ?_, ?_, ?_, ?_, ?_, ?_, ?_⟩
        · intro xs wq hq R hR
          go_simp
          exact hR _ _ (Ext.refl _) rfl
        · intro xs wq hq R hR
          go_simp
          exact hR _ _ (Ext.refl _) rfl
        · intro xs wq hq hk R hR
          obtain ⟨hk0, hk1⟩ := hk
          go_simp
          exact hR _ _ (Ext.refl _) rfl
        · intro xs wq hq hk R hR
          go_simp
          exact (HI.out _ _ _ (by rw [List.length_take]; omega) (IsStrs.ext HT1.out hq) (by rw [List.length_take]; omega)).mono (by rintro e' w4 ⟨⟨v, rfl, ho⟩, hx⟩; exact ⟨_, rfl, hR _ _ hx (strs_owned ho (by rw [sortT_len]) (by rw [List.length_take]; omega))⟩)
        · intro xs wq hq R hR
          go_simp
          exact hR _ _ (Ext.refl _) rfl
        · intro xs wq hq R hR
          go_simp
          exact hR _ _ (Ext.refl _) rfl
        · intro xs wq hq hk R hR
          obtain ⟨hk0, hk1⟩ := hk
          go_simp
          exact hR _ _ (Ext.refl _) rfl
        · intro xs wq hq hk R hR
          go_simp
          exact (HI.out _ _ _ (by rw [List.length_drop]; omega) (IsStrs.ext HT2.out hq) (by rw [List.length_drop]; omega)).mono (by rintro e' w4 ⟨⟨v, rfl, ho⟩, hx⟩; exact ⟨_, rfl, hR _ _ hx (strs_owned ho (by rw [sortT_len]) (by rw [List.length_drop]; omega))⟩)
        · intro xs wq hq hk R hR
          obtain ⟨hk0, hk1⟩ := hk
          go_simp
          exact (wmerge_any _ _ _ _ _ hk0 hk1 (sortT_up _) (sortT_up _) (by rw [HLT.out]; omega)).mono (by rw [HLT.out, HSH.out]; rintro e' w4 ⟨⟨v, rfl, ho⟩, hx⟩; exact ⟨_, rfl, hR _ _ hx (World.ownsRow.mono ho hq.size)⟩)
      intro xs w2 hx2 hk
      simp only [heldV, Nat.zero_add, Nat.reduceAdd, and_true] at hk
      obtain ⟨q0, q1, q2, q3, q4, q5, q6, q7, q8⟩ := hk
      simp (maxSteps := 1000000) only [List.take_succ_cons, List.take_zero, List.drop_succ_cons, List.drop_zero, fillFrom, Act.put, List.setIfInBounds_toArray, List.set_cons_zero, List.set_cons_succ, Nat.zero_add, Nat.reduceAdd, q0, q1, q2, q4, q5, q6]
      clear q0 q1 q2 q4 q5 q6
      generalize xs 3 = x3 at *
      generalize xs 7 = x7 at *
      generalize xs 8 = x8 at *
      have HO : Hid _ := q8
      have HX : Hid _ := hx2
      clear hx2 q8
      go_wp2
      go_ret
      exact ⟨⟨_, rfl, HO.out⟩, HX.out⟩

end Go.Proofs.YtalpfoomkhhgnaaGreatDoor

/-! Maps whose elements are given by a function, gone through; table.Rising. Conditions: as each theorem states. -/
namespace Go.Proofs.YtalpfoomkhhgnaaGreatDoor
open Go Go.RowKit Go.Sort
set_option linter.unusedVariables false
set_option linter.unusedSimpArgs false
set_option linter.unusedSectionVars false

section
variable {ops : Array Oper} {rest : List Oper} {o : Oper} {a : Act} {Q : Exit → Act → World → Prop} {w : World}
theorem next_mg (V : Fi → Value) (hgd : o.guard = none) (it : Operand) (hop : o.op = Op.next it false) (b r n : Nat) (l : Files) (left : Lit → Bool) (cnt : Nat)
    (hit : a.eval it = .pointer (some ⟨r, 0, none⟩)) (h : w.ranges Tryz.prog 9 elemV b r n (datG V l) left cnt)
    (hDone : cnt = 0 → (∀ kl, left kl = false) → wpList Tryz.prog ops Q rest (a.put o.dst (.tuple #[.bool false])) w)
    (hMore : ∀ (p : B8) (f : Fi) (w' : World) (cnt' : Nat), look l p = some f → left (.string p) = true →
      w'.ranges Tryz.prog 9 elemV b r n (datG V l) (fun z => left z && !z.sameKey (.string p)) cnt' → cnt' < cnt → w.grownBy w' (some r) → w'.heap.size = w.heap.size →
      (Instr.entry (.pointer (some ⟨r, 0, none⟩))).run Tryz.prog w' = .ok (.tuple #[S8 p, V f]) w' →
      wpList Tryz.prog ops Q rest (a.put o.dst (.tuple #[.bool true, S8 p, V f])) w') :
    wpList Tryz.prog ops Q (o :: rest) a w := by
  refine wpList_next_ranges w hgd it hop 9 K_str elemV Value.string (id : Value → Value) (fun key kl hk => key_inv hk) (fun v y _ => ⟨v, rfl⟩) b r n (datG V l) left cnt hit h hDone ?_
  intro x v kl y w' cnt' hkey hl hv hat hrg hlt hg hsz hen
  obtain rfl := key_lit hkey
  have hy : y.1 = .held v := by
    have : some (DataW.held v, ([] : List MemPlace)) = some y := hv
    rw [← Option.some.inj this]
  have hlk : ∃ f, look l x.data.toList = some f := by
    cases hk : look l x.data.toList with
    | some f => exact ⟨f, rfl⟩
    | none =>
      have h1 := hat .nil
      rw [datG_at, hk, hy] at h1
      cases h1
  obtain ⟨f, hf⟩ := hlk
  have hvv : v = V f := by
    have h1 := hat .nil
    rw [datG_at, hf, hy] at h1
    exact (DataW.held.inj h1).symm
  subst hvv
  exact hMore x.data.toList f w' cnt' hf hl hrg hlt hg hsz hen
end
theorem leftG_all (V : Fi → Value) {l : Files} : leftF (Maps.has (datG V l)) l = l := by
  unfold leftF
  rw [List.filter_eq_self]
  intro e he
  rw [datG_has]
  unfold look
  rw [Option.isSome_map, List.find?_isSome]
  exact ⟨e, he, by simp⟩

set_option maxRecDepth 100000 in
set_option maxHeartbeats 4000000 in
theorem rising_any (V : Fi → Value) (b : Nat) (l : Files) (w : World) (hr : Rising l) (hm : IsMG V w b l) (hl : l.length ≤ 100000) (hp : ∀ p ∈ pathsL l, p.length ≤ 1000000) (hV : ∀ p f, look l p = some f → ∃ a n c, V f = .slice a n c) :
    Calls Tryz.prog 37 #[.map (some b)] w fun e w' => (∃ a c, e = .returned (.slice a l.length c)) ∧ Ext w w' := by
  have hown := hm.map
  have hbl := hm.lt
  have HM : Hid (IsMG V w b l) := hm
  have HR : Hid (Rising l) := hr
  have HP : Hid (∀ p ∈ pathsL l, p.length ≤ 1000000) := hp
  have HA : Hid _ := leftG_all V (l := l)
  clear hr hp hm
  go_enter Tryz.func37, Tryz.ntmps37
  go_wp2_with (first
    | (at_range; refine wpList_range_own _ rfl _ 66 rfl 9 45 K_str Tryz.underlying66 _ b _ _ rfl hown ?_; intro w0 hrg0 hg0 hs0)
    | go_in)
  go_frame
  go_loopw [3] (fun sv wr => ∃ (left : Lit → Bool) (cnt : Nat) (C : List B8), wr.ranges Tryz.prog 9 elemV b w.heap.size l.length (datG V l) left cnt ∧ wr.ownsRow w.heap.size 9 1 sv C.length (C.map S8) ∧ (C ++ pathsL (leftF left l)).Perm (pathsL l) ∧ Ext w wr)
    (fun _ wr => wr.rangeLeft b w.heap.size)
  case atStart => exact ⟨_, _, [], hrg0, World.ownsRow_nil _ _ _ _, by rw [HA.out]; exact List.Perm.refl _, Below.grown (Below.refl _ _) hg0 (Nat.le_refl _) (fun j hj => by cases hj)⟩
  case round =>
    obtain ⟨left, cnt, C, hrg, hown, hpm, hx⟩ := hrel
    have HPM : Hid _ := hpm
    have hCl : C.length ≤ l.length := by
      have := hpm.length_eq
      simp only [List.length_append, pathsL, List.length_map] at this
      omega
    have HOW : Hid _ := hown
    clear hpm hown
    go_wp2_with (at_next; refine next_mg V rfl _ rfl b w.heap.size _ l _ _ rfl hrg ?_ ?_)
    · intro hc0 hl0
      have hpe : C.Perm (pathsL l) := by
        have := HPM.out
        rw [leftF_none hl0] at this
        simpa [pathsL] using this
      have hle : C.length = l.length := by have := hpe.length_eq; simpa [pathsL] using this
      have HPE : Hid (C.Perm (pathsL l)) := hpe
      have HLE : Hid (C.length = l.length) := hle
      have HXR : Hid (Ext w wr) := hx
      have HIS : Hid (IsStrs wr _ C) := Row.of_owns HOW.out (by omega)
      obtain ⟨ca, cc, he, -⟩ := HIS.out.get
      subst he
      clear hl0 hpe hle hx
      go_wp2_with fail
      go_at_call 60
      have hpl : C.length ≤ 1000000 := by have := HLE.out; omega
      refine (wsort_all C.length _ C wr (Nat.le_refl _) HIS.out hpl).mono ?_
      rintro e w2 ⟨⟨v2, rfl, hv2⟩, hx2⟩
      have HS2 : Hid (IsStrs w2 v2 (sortT C)) := by
        have h9 := Row.of_owns hv2 (by omega)
        unfold Hid IsStrs
        rw [sortT_len]
        exact h9
      obtain ⟨sa, sc, he2, s1, s2, s3, hsg⟩ := HS2.out.get
      have HSG : Hid _ := hsg
      rw [sortT_len, HLE.out] at he2 s1
      subst he2
      have HX2 : Hid (Ext w w2) := HXR.out.trans hx2
      have HM2 : Hid (IsMG V w2 b l) := HM.out.ext HX2.out
      clear hv2 hx2 hsg s2
      go_wp2_with fail
      go_loopw [5, 21] (fun sv i wq => ∃ (k : Nat) (xs : List Value), k ≤ l.length ∧ i = .int .i64 k ∧ Hid (wq.ownsRow w2.heap.size 45 1 sv k xs) ∧ Hid (Ext w2 wq)) (fun _ i _ => l.length - (intOf i).toNat)
      case atStart => exact ⟨0, [], Nat.zero_le _, rfl, World.ownsRow_nil _ _ _ _, Ext.refl _⟩
      case round =>
      obtain ⟨k, xs, hk, rfl, HOQ, HXQ⟩ := hrel
      by_cases hlt : k < l.length
      case neg =>
        have hkk : k = l.length := by omega
        subst hkk
        obtain ⟨ra, rc, he, -⟩ := Row.of_owns HOQ.out (by omega)
        subst he
        go_wp2
        go_ret
        exact ⟨⟨_, _, rfl⟩, HX2.out.trans HXQ.out⟩
      have hks : k < (sortT C).length := by rw [sortT_len, HLE.out]; exact hlt
      obtain ⟨q, hq⟩ : ∃ q, (sortT C)[k]? = some q := ⟨_, List.getElem?_eq_getElem hks⟩
      obtain ⟨bb, oo, rfl, hc⟩ := HSG.out k hks
      have y1 := HXQ.out.cell (hc k hks)
      rw [show (sortT C).getD k [] = q by rw [List.getD_eq_getElem?_getD, hq]; rfl] at y1
      have hqm : q ∈ pathsL l := HPE.out.mem_iff.1 ((sortT_perm C).mem_iff.1 (List.mem_of_getElem? hq))
      have hql := HP.out q hqm
      obtain ⟨f, hf⟩ : ∃ f, look l q = some f := Option.isSome_iff_exists.1 (by unfold look; rw [Option.isSome_map, List.find?_isSome]; obtain ⟨e, he, hee⟩ := List.mem_map.1 hqm; exact ⟨e, he, by simp [hee]⟩)
      obtain ⟨va, vn, vc, hvf⟩ := hV q f hf
      have hlk := ((HM2.out.ext HXQ.out).look_run 66 45 (.slice none 0 0) Tryz.underlying66 (by kernel_rfl) q hql).2
      rw [show lookG V (.slice none 0 0) l q = .slice va vn vc by unfold lookG; rw [hf]; exact hvf] at hlk
      have hown := HOQ.out
      have hsz := HXQ.out.size
      clear hc hq hqm hf hvf
      go_wp2_with (at_builtin; go_must (refine app_any 35 45 (.slice none 0 0) 1 24 Tryz.underlying35 (by kernel_rfl) rfl (by omega) rfl _ _ rfl w2.heap.size _ k xs rfl (hown.alloc _) ⟨wr.heap.size, 0, none⟩ 1 1 [.slice va vn vc] rfl rfl (news_of_block (alloc_at _ _)) (by simp [Value.oneCell']) (by omega) (by omega) (by simp; omega) ?_; intro v' w3 hown3 hg3 _))
      go_roundw
      case rel => exact ⟨k + 1, _, by omega, by go_num, hown3, owns_ext_app (HXQ.out.alloc _) (hown.alloc _) hg3⟩
      case measure => simp [intOf]; omega
    · intro q f w1 cnt1 hlk hlx hrg1 hlt hg1 hs1 hen
      have hst := strike_perm (f := f) hlx HR.out hlk
      have hpm1 : ((C ++ [q]) ++ pathsL (leftF (strike left q) l)).Perm (pathsL l) := by
        refine List.Perm.trans ?_ HPM.out
        rw [List.append_assoc]
        refine List.Perm.append_left C ?_
        exact (List.Perm.map Prod.fst hst).symm
      have HMM : Hid _ := hpm1
      have hne := row_ne_iter HOW.out hrg
      have hown1 := World.ownsRow.kept HOW.out hg1 (.inr hne.symm)
      have hx1 : Ext w w1 := Below.grown hx hg1 hx.size (fun j hj => by cases hj; exact Nat.le_refl _)
      have hxa : Ext w1 (w1.alloc (.cells #[S8 q] 9)) := (Ext.refl _).alloc _
      have hown2 := owns_ext hown1 hxa
      have hx2 := hx1.trans hxa
      have hsz : w.heap.size ≤ (w1.alloc (.cells #[S8 q] 9)).heap.size := hx2.size
      have hrg2 := hrg1.alloc (.cells #[S8 q] 9)
      have HNE2 : Hid _ := row_ne_iter hown2 hrg2
      have HLOW : Hid _ := row_ne_low hown2 hbl
      obtain ⟨fv, hfv⟩ : ∃ fv, V f = fv := ⟨_, rfl⟩
      rw [hfv] at hen
      clear hlk hst hpm1 hlx hne hown1 hx1 hxa hs1
      go_wp2_with (at_builtin; go_must (refine app_str rfl _ _ rfl w.heap.size _ C.length C rfl hown2 w1.heap.size 1 1 [q] rfl rfl (alloc_at _ _) (by omega) hsz ?_); intro v' w3 hown3 hgr3)
      go_roundw
      case rel => exact ⟨_, cnt1, C ++ [q], hrg2.kept hgr3 HLOW.out HNE2.out, by rw [List.length_append]; exact hown3, HMM.out, Below.grown hx2 hgr3 hx2.size (fun j hj => (hown2.lt j hj).1)⟩
      case measure => rw [(hrg2.kept hgr3 HLOW.out HNE2.out).left_eq, hrg.left_eq]; exact hlt

end Go.Proofs.YtalpfoomkhhgnaaGreatDoor

/-! table.Build of one row below a directory. Conditions: as each theorem states. -/
namespace Go.Proofs.YtalpfoomkhhgnaaGreatDoor
open Go Go.RowKit Go.Sort
set_option linter.unusedVariables false
set_option linter.unusedSimpArgs false
set_option linter.unusedSectionVars false

section
variable {ops : Array Oper} {rest : List Oper} {o : Oper} {a : Act} {Q : Exit → Act → World → Prop} {w : World} {V : Fi → Value}
theorem ins_mg (T E : TypeId) (hT : Tryz.prog.underlying T = some (.map 9 E)) (hgd : o.guard = none) (m x v : Operand) (hop : o.op = Op.insert T m x v) {b : Nat} {l : Files} (hf : IsMG V w b l) (hl : l.length ≤ 10000000)
    (hm : a.eval m = .map (some b)) (p : B8) (hp : p.length ≤ 1000000) (hx : a.eval x = S8 p) (f : Fi) (hv : a.eval v = V f)
    (h : ∀ w', IsMG V w' b (putF l p f) → w.grownBy w' (some b) → wpList Tryz.prog ops Q rest (a.put o.dst undef) w') : wpList Tryz.prog ops Q (o :: rest) a w := by
  refine wpList_plain hgd fun K' hK' => ?_
  obtain ⟨w', hrun, hown, hg⟩ := hf.map.update (val := V f) (d := .held (V f)) (ps := []) K_str hT (by unfold maxLen; omega) (key_str p (by omega)) rfl
  rw [datG_put] at hown
  have hmg : IsMG V w' b (putF l p f) := by
    refine ⟨?_⟩
    obtain ⟨es, clock, hb, F, hs, hD⟩ := hown
    refine ⟨es, clock, hb, F, ?_, hD⟩
    have : Maps.size (datG V (putF l p f)) = es.size := by rw [hD]; simp [Maps.size, length_sorted]
    rw [← this]
    simp [datG, Maps.size]
  unfold Oper.wp
  simp [execOp, hop, hm, hx, hv, hrun, Result.andThen]
  exact hK' _ _ (h w' hmg hg)
end
theorem IsMG.swap {V V' : Fi → Value} {w : World} {b : Nat} {l : Files} (h : IsMG V w b l) (hV : ∀ e ∈ l, V e.2 = V' e.2) : IsMG V' w b l := by
  have he : datG V l = datG V' l := by
    unfold datG
    congr 1
    exact List.map_congr_left fun e he => by unfold enG; rw [hV e he]
  exact ⟨he ▸ h.map⟩
def atV (vs : List Value) (f : Fi) : Value := vs.getD f.time.toNat (.slice none 0 0)
def fiN (n : Nat) : Fi := ⟨0, [], n⟩

def obT (m : Int) (nm id : B8) : Ob := ⟨2, [], [⟨m, nm, id⟩], [], [], 0, 0, []⟩
def rowB (m : Int) (id : B8) : List Rw := [⟨[97, 47, 98], m, id⟩]

set_option maxRecDepth 100000 in
set_option maxHeartbeats 4000000 in
theorem buildOne_any (v : Value) (m : Int) (id : B8) (w : World) (hE : Env w) (hES : EnvS w) (hv : IsRws w v (rowB m id)) (hm : mayTab (rowB m id) = true) (hid : id.length ≤ 400)
    (t1 t2 : B8) (hl1 : (encodeM (obT m [98] id)).1.length ≤ 10000000) (hl2 : (encodeM (obT 4 [97] t1)).1.length ≤ 10000000) (ht1 : shaM (encodeM (obT m [98] id)).1 = t1) (ht2 : shaM (encodeM (obT 4 [97] t1)).1 = t2) (ht1l : t1.length ≤ 400) (ht2l : t2.length ≤ 400) (hne : (t1 == t2) = false) (hvt : validB t2 = true) :
    Calls Tryz.prog 17 #[v] w fun e w' => (∃ t a c, e = .returned (.tuple #[S8 t, .slice a 2 c, .int .i64 0]) ∧ validB t = true ∧ t.length ≤ 400) ∧ Ext w w' := by
  have HT1 : Hid _ := ht1
  have HT2 : Hid _ := ht2
  have HL1 : Hid _ := hl1
  have HL2 : Hid _ := hl2
  have HNE : Hid _ := hne
  have HVT : Hid _ := hvt
  clear ht1 ht2 hl1 hl2 hne hvt
  have HE : Hid (Env w) := hE
  have HES : Hid (EnvS w) := hES
  have HMY : Hid _ := tmay_any v _ w hE hv (by show 1 ≤ _; omega) (by intro r hr; simp [rowB] at hr; subst hr; exact ⟨by show 3 ≤ 400; omega, hid⟩)
  rw [hm] at HMY
  obtain ⟨a, cap, rfl, l1, l2, l3, hg⟩ := hv.cells
  obtain ⟨bb, oo, rfl, c0, c1, c2⟩ := hg 0 _ rfl
  rw [Nat.zero_mul, Nat.add_zero] at c0 c1 c2
  have hln : (rowB m id).length = 1 := rfl
  rw [hln] at l1 l2 HMY ⊢
  clear hln
  have hmm := @run_makeMap Tryz.prog
  clear hv hg hE hES hm
  go_enter Tryz.func17, Tryz.ntmps17
  go_wp2_with fail
  go_at_call 8
  refine Calls.mono HMY.out ?_
  rintro e w1 ⟨rfl, hx1⟩
  have HX1 : Hid (Ext w w1) := hx1
  have HM0 : Hid (IsMG (atV [.slice none 0 0]) (w1.alloc (.map #[] 0)) w1.heap.size []) := mg_made _ _
  go_upto_region 4 with (refine ins_mg 76 77 Tryz.underlying76 rfl _ _ _ rfl HM0.out (by show 0 ≤ _; omega) rfl [] (by show 0 ≤ _; omega) rfl (fiN 0) rfl ?_; intro w2 hm2 hg2)
  have hxa : Ext w1 (w1.alloc (.map #[] 0)) := (Ext.refl _).alloc _
  have hx2 : Ext w1 w2 := Below.grown hxa hg2 hxa.size (fun j hj => by cases hj; exact Nat.le_refl _)
  have HX2 : Hid (Ext w w2) := HX1.out.trans hx2
  have HM2 : Hid (IsMG (atV [.slice none 0 0]) w2 w1.heap.size [([], fiN 0)]) := hm2
  obtain ⟨g, hgz⟩ : ∃ g, w1.heap.size = g := ⟨_, rfl⟩
  have hlow : w.heap.size ≤ g := by rw [← hgz]; exact hx1.size
  rw [hgz] at HM2 ⊢
  have z0 := HX2.out.cell c0
  have z1 := HX2.out.cell c1
  have z2 := HX2.out.cell c2
  clear HM0 hm2 hg2 hx2 hx1 hgz c0 c1 c2 hxa
  have HMM : Hid _ := hmm
  clear hmm
  go_wp2_with fail
  refine wp_loop_rounds 2 ?_
  rw [rounds_succ]
  go_upto_region 7 with fail
  obtain ⟨w3, hw3⟩ : ∃ w3, w3 = w2.alloc (.cells #[S8 [97, 47, 98], .int .i64 m, S8 id] 30) := ⟨_, rfl⟩
  have hx3 : Ext w2 w3 := by rw [hw3]; exact (Ext.refl _).alloc _
  have hb3 : w3.heap[w2.heap.size]? = some (.cells #[S8 [97, 47, 98], .int .i64 m, S8 id] 30 (0, 0)) := by rw [hw3]; exact alloc_at _ _
  rw [← hw3]
  obtain ⟨gr, hgr⟩ : ∃ gr, w2.heap.size = gr := ⟨_, rfl⟩
  rw [hgr] at hb3 ⊢
  have HB3 : Hid _ := hb3
  have HX3 : Hid (Ext w w3) := HX2.out.trans hx3
  have HM3 : Hid (IsMG (atV [.slice none 0 0]) w3 g [([], fiN 0)]) := HM2.out.ext hx3
  obtain ⟨y0, y1, y2⟩ := cellsAt3 hb3
  have hgg : g < gr := by rw [← hgr]; exact HM2.out.lt
  clear hw3 hx3 hgr hb3 z0 z1 z2
  go_wp2_with fail
  go_at_call 20
  refine (parents_any [97, 47, 98] w3 (HE.out.ext HX3.out) (by show 3 ≤ _; omega)).mono ?_
  rintro e w4 ⟨⟨pv, rfl, hpv⟩, hx4⟩
  rw [show parentsL [97, 47, 98] = [[97]] by decide +kernel] at hpv
  obtain ⟨pa, pc, rfl, p1, p2, p3, hpc⟩ := hpv.get
  obtain ⟨pb, po, rfl, hpq⟩ := hpc 0 (by decide)
  have p0 := hpq 0 (by decide)
  rw [show ([[97]] : List B8).length = 1 from rfl] at p1 ⊢
  rw [show ([[97]] : List B8).getD 0 [] = [97] from rfl, Nat.add_zero] at p0
  have HX4 : Hid (Ext w w4) := HX3.out.trans hx4
  have HM4 : Hid (IsMG (atV [.slice none 0 0, .slice none 0 0]) w4 g [([], fiN 0)]) := (HM3.out.ext hx4).swap (by intro e he; simp at he; subst he; rfl)
  have HB4 : Hid (w4.heap[gr]? = some (.cells #[S8 [97, 47, 98], .int .i64 m, S8 id] 30 (0, 0))) := hx4.row HB3.out
  obtain ⟨hlk, -⟩ := HM4.out.look_run 76 77 (.slice none 0 0) Tryz.underlying76 (by kernel_rfl) [97] (by show 1 ≤ _; omega)
  rw [show lookG (atV [.slice none 0 0, .slice none 0 0]) (.slice none 0 0) [([], fiN 0)] [97] = .slice none 0 0 from rfl, show (look [(([] : B8), fiN 0)] [97]).isSome = false from rfl] at hlk
  clear hpv p2 p3 hpc hpq hx4 y0 y1 y2
  go_wp2_with fail
  refine wp_loop_rounds 2 ?_
  rw [rounds_succ]
  go_upto_region 13 with (refine set_mg 76 77 Tryz.underlying76 rfl _ _ _ rfl HM4.out (by show 1 ≤ _; omega) rfl [97] (by show 1 ≤ _; omega) rfl (fiN 1) rfl ?_; intro w5 hm5 hg5)
  have hx5 : Ext w w5 := Below.grown HX4.out hg5 HX4.out.size (fun j hj => by cases hj; exact hlow)
  have HX5 : Hid (Ext w w5) := hx5
  have HM5 : Hid (IsMG (atV [.slice none 0 0, .slice none 0 0]) w5 g [([], fiN 0), ([97], fiN 1)]) := hm5
  have hb5 : w5.heap[gr]? = some (.cells #[S8 [97, 47, 98], .int .i64 m, S8 id] 30 (0, 0)) := (hg5.block gr (by
    have := HB4.out
    exact (Array.getElem?_eq_some_iff.1 this).1) (fun e => by cases e; omega)).trans HB4.out
  obtain ⟨y0, y1, y2⟩ := cellsAt3 hb5
  have HB5 : Hid _ := hb5
  have HPA : Hid (Calls Tryz.prog 43 #[S8 [97, 47, 98]] w5 fun e w' => e = .returned (.tuple #[S8 [97], S8 [98]]) ∧ Ext w5 w') := parent_at [97] [98] w5 (by show 1 ≤ _; omega) (by show 1 ≤ _; omega) (by decide +kernel)
  clear hlk hm5 hg5 hx5 hb5 p0 p1
  go_wp2_with fail
  rw [rounds_succ]
  go_wp2_with fail
  go_at_call 43
  refine Calls.mono HPA.out ?_
  rintro e w6 ⟨rfl, hx6⟩
  have HX6 : Hid (Ext w w6) := HX5.out.trans hx6
  have HM6 : Hid (IsMG (atV [.slice none 0 0, .slice none 0 0]) w6 g [([], fiN 0), ([97], fiN 1)]) := HM5.out.ext hx6
  obtain ⟨y0, y1, y2⟩ := cellsAt3 (hx6.row HB5.out)
  clear hx6
  go_upto_region 15 with fail
  obtain ⟨-, hlk⟩ := HM6.out.look_run 76 77 (.slice none 0 0) Tryz.underlying76 (by kernel_rfl) [97] (by show 1 ≤ _; omega)
  rw [show lookG (atV [.slice none 0 0, .slice none 0 0]) (.slice none 0 0) [([], fiN 0), ([97], fiN 1)] [97] = .slice none 0 0 from rfl] at hlk
  obtain ⟨w7, hw7⟩ : ∃ w7, w7 = w6.alloc (.cells #[.int .i64 m, S8 [98], S8 id] 81) := ⟨_, rfl⟩
  have hx7 : Ext w6 w7 := by rw [hw7]; exact (Ext.refl _).alloc _
  have HX7 : Hid (Ext w w7) := HX6.out.trans hx7
  have HB7 : Hid (w7.heap[w6.heap.size]? = some (.cells #[.int .i64 m, S8 [98], S8 id] 81 (0, 0))) := by rw [hw7]; exact alloc_at _ _
  have HM7 : Hid (IsMG (atV [.slice none 0 0, .slice none 0 0]) w7 g [([], fiN 0), ([97], fiN 1)]) := HM6.out.ext hx7
  have hsz7 : w.heap.size ≤ w7.heap.size := HX7.out.size
  go_upto_region 16 with (first
    | (at_builtin; rw [← hw7]; refine app_any 77 81 (.agg #[.int .i64 0, S8 [], S8 []]) 3 40 Tryz.underlying77 (by kernel_rfl) rfl (by omega) rfl _ _ rfl w.heap.size _ 0 [] rfl (World.ownsRow_nil _ _ _ _) ⟨w6.heap.size, 0, none⟩ 1 1 [.int .i64 m, S8 [98], S8 id] rfl rfl (news_of_block HB7.out) (by simp [Value.oneCell']) (by omega) (by omega) hsz7 ?_
       intro v8 w8 hown8 hg8 _
       have HX8 : Hid (Ext w w8) := Below.grown HX7.out hg8 HX7.out.size (fun j hj => by cases hj)
       have HX78 : Hid (Ext w7 w8) := Below.grown (Ext.refl _) hg8 (Nat.le_refl _) (fun j hj => by cases hj)
       have HO8 : Hid _ := hown8
       have HM8 : Hid (IsMG (atV [.slice none 0 0, .slice none 0 0, v8]) w8 g [([], fiN 0), ([97], fiN 1)]) := (HM7.out.ext HX78.out).swap (by intro e he; simp at he; rcases he with rfl | rfl <;> rfl)
       clear hown8 hg8)
    | (refine set_mg 76 77 Tryz.underlying76 rfl _ _ _ rfl HM8.out (by show 2 ≤ _; omega) rfl [97] (by show 1 ≤ _; omega) rfl (fiN 2) rfl ?_; intro w9 hm9 hg9))
  have HX9 : Hid (Ext w w9) := Below.grown HX8.out hg9 HX8.out.size (fun j hj => by cases hj; exact hlow)
  have HM9 : Hid (IsMG (atV [.slice none 0 0, .slice none 0 0, v8]) w9 g [([], fiN 0), ([97], fiN 2)]) := hm9
  have hne9 : v8.ownBlock ≠ some g := by
    intro e
    obtain ⟨es, ck, hk⟩ := HM8.out.kind
    rcases HO8.out.2 with ⟨rfl, h0⟩ | ⟨q, c, cur, rfl, hbase, hb, h1, h2, h3, h4⟩
    · cases e
    · cases e
      rw [hk] at hb
      cases hb
  have HO9 : Hid (w9.ownsRow w.heap.size 81 3 v8 1 ([] ++ [.int .i64 m, S8 [98], S8 id])) := World.ownsRow.kept HO8.out hg9 (.inr hne9)
  have HR9 : Hid (Rising [([], fiN 0), ([97], fiN 2)]) := by unfold Hid Rising; decide +kernel
  have HA : Hid _ := leftG_all (atV [.slice none 0 0, .slice none 0 0, v8]) (l := [([], fiN 0), ([97], fiN 2)])
  obtain ⟨lD, hlD⟩ : ∃ l : Files, [([], fiN 0), ([97], fiN 2)] = l := ⟨_, rfl⟩
  obtain ⟨V9, hV9⟩ : ∃ V, atV [.slice none 0 0, .slice none 0 0, v8] = V := ⟨_, rfl⟩
  have HLD : Hid _ := hlD
  have HV9 : Hid _ := hV9
  rw [hlD, hV9] at HM9 HA
  rw [hlD] at HR9
  have hown := HM9.out.map
  have hbl := HM9.out.lt
  clear hm9 hg9 hne9 hlk y0 y1 y2 hlD hV9 hx7 hw7 hsz7
  go_wp2_with fail
  rw [rounds_succ]
  go_wp2_with (first
    | (at_range; refine wpList_range_own _ rfl _ 76 rfl 9 77 K_str Tryz.underlying76 _ g _ _ rfl hown ?_; intro w0 hrg0 hg0 hs0)
    | go_in)
  have HX0 : Hid (Ext w9 w0) := Below.grown (Ext.refl _) hg0 (Nat.le_refl _) (fun j hj => by cases hj)
  have HOW9 : Hid (Ext w w0) := HX9.out.trans HX0.out
  have hsz9 : w.heap.size ≤ w9.heap.size := HX9.out.size
  have HRG0 : Hid _ := hrg0
  clear hown hg0 hs0 hrg0
  go_frame
  go_loopw [14] (fun sv wr => ∃ (left : Lit → Bool) (cnt : Nat) (C : List B8), wr.ranges Tryz.prog 9 elemV g w9.heap.size lD.length (datG V9 lD) left cnt ∧ Hid (wr.ownsRow w9.heap.size 9 1 sv C.length (C.map S8)) ∧ Hid ((C ++ pathsL (leftF left lD)).Perm (pathsL lD)) ∧ Hid (Ext w9 wr))
    (fun _ wr => wr.rangeLeft g w9.heap.size)
  case atStart => exact ⟨_, _, [], HRG0.out, World.ownsRow_nil _ _ _ _, by unfold Hid; rw [HA.out]; exact List.Perm.refl _, HX0.out⟩
  case round =>
    obtain ⟨left, cnt, C, hrg, HOW, HPM, HXR⟩ := hrel
    have hCl : C.length ≤ 2 := by
      have hll : lD.length = 2 := by rw [← HLD.out]; rfl
      have := HPM.out.length_eq
      simp only [List.length_append, pathsL, List.length_map] at this
      omega
    go_wp2_with (at_next; refine next_mg V9 rfl _ rfl g w9.heap.size _ lD _ _ rfl hrg ?_ ?_)
    · intro hc0 hl0
      have HPE : Hid (C.Perm (pathsL lD)) := by
        unfold Hid
        have := HPM.out
        rw [leftF_none hl0] at this
        simpa [pathsL] using this
      clear hl0
      have HC2 : Hid (C.length = 2) := by
        have := HPE.out.length_eq
        rw [← HLD.out] at this
        exact this
      have HPE2 : Hid (C.Perm [[], [97]]) := by have := HPE.out; rw [← HLD.out] at this; exact this
      have hOW := HOW.out.2
      rw [HC2.out] at hOW
      rcases hOW with ⟨-, h0⟩ | ⟨qo, co, cur, rfl, hbo, hbb, k1, k2, k3, k4⟩
      · cases h0
      have HSO : Hid _ := order_any qo co C cur wr HPE2.out hbb (by rw [HC2.out]; rw [k4])
      have HBB : Hid _ := hbb
      clear hbb k2 k3 k4 hc0 hrg hCl
      go_wp2_with fail
      go_at_call 44
      refine Calls.mono HSO.out ?_
      rintro e wS ⟨rfl, hgS, d0, d1⟩
      have HXS : Hid (Ext w9 wS) := Below.grown HXR.out hgS HXR.out.size (fun j hj => by cases hj; exact hbo)
      have HMS : Hid (IsMG V9 wS g lD) := HM9.out.ext HXS.out
      have HDS : Hid (wS.cell? ⟨qo, 0, none⟩ = some (S8 [97]) ∧ wS.cell? ⟨qo, 1, none⟩ = some (S8 [])) := ⟨d0, d1⟩
      have hmm := HMM.out
      clear hgS d0 d1
      go_upto_region 24 with fail
      obtain ⟨wT, hwT⟩ : ∃ wT, wT = wS.alloc (.map #[] 0) := ⟨_, rfl⟩
      have hxT : Ext wS wT := by rw [hwT]; exact (Ext.refl _).alloc _
      have HXT : Hid (Ext w9 wT) := HXS.out.trans hxT
      have HMT : Hid (IsMG (atV []) wT wS.heap.size []) := by rw [hwT]; exact mg_made _ _
      have HMD : Hid (IsMG V9 wT g lD) := HMS.out.ext hxT
      rw [← hwT]
      obtain ⟨gm, hgm⟩ : ∃ gm, wS.heap.size = gm := ⟨_, rfl⟩
      have hgg2 : g < gm := by rw [← hgm]; exact HMS.out.lt
      have hgm9 : w9.heap.size ≤ gm := by rw [← hgm]; exact HXS.out.size
      rw [hgm] at HMT ⊢
      have y0 := hxT.cell HDS.out.1
      have y1 := hxT.cell HDS.out.2
      have HST : Hid (Ext wS wT) := hxT
      have HGS : Hid (wS.heap.size ≤ gm) := Nat.le_of_eq hgm
      have HQO : Hid (w9.heap.size ≤ qo) := hbo
      clear hmm hwT hxT hgm
      go_wp2_with fail
      refine wp_loop_rounds 3 ?_
      rw [rounds_succ]
      go_upto_region 28 with fail
      obtain ⟨-, hlk⟩ := HMD.out.look_run 76 77 (.slice none 0 0) Tryz.underlying76 (by kernel_rfl) [97] (by show 1 ≤ _; omega)
      rw [show lookG V9 (.slice none 0 0) lD [97] = v8 by rw [← HLD.out, ← HV9.out]; rfl] at hlk
      have HOT : Hid (wT.ownsRow w.heap.size 81 3 v8 1 [.int .i64 m, S8 [98], S8 id]) := owns_ext HO9.out HXT.out
      obtain ⟨q8, c8, hv8, hs8⟩ := item_sorts HOT.out
      have HS8 : Hid _ := hs8
      have HIT : Hid (IsItms wT v8 [⟨m, [98], id⟩]) := Row.of_owns HOT.out (by omega)
      have HV8 : Hid _ := hv8
      clear y0 y1 hs8
      go_upto_region 29 with fail
      clear hlk
      rw [hv8]
      go_wp2_with fail
      go_at_call 46
      refine Calls.mono HS8.out ?_
      rintro e wU ⟨rfl, hxU⟩
      have HXU : Hid (Ext w9 wU) := HXT.out.trans hxU
      have HTU : Hid (Ext wT wU) := hxU
      have HOE : Hid _ := oEnc_any (obV ⟨2, [], [⟨m, [98], id⟩], [], [], 0, 0, []⟩ (.slice none 0 0) (.slice (some ⟨q8, 0, none⟩) 1 c8) (.slice none 0 0)) ⟨2, [], [⟨m, [98], id⟩], [], [], 0, 0, []⟩ wU ⟨_, _, _, rfl, IsBytes.nil _, by rw [← HV8.out]; exact HIT.out.ext hxU, IsStrs.nil _⟩ ⟨by intro x hx; simp at hx; subst hx; exact ⟨by show 1 ≤ _; omega, by show id.length ≤ _; omega⟩, by simp, by simp, by simp⟩
      obtain ⟨e1, he1⟩ : ∃ r, encodeM (obT m [98] id) = r := ⟨_, rfl⟩
      rw [show encodeM ⟨2, [], [⟨m, [98], id⟩], [], [], 0, 0, []⟩ = e1 from he1] at HOE
      rw [he1] at HT1 HL1
      have HE1 : Hid _ := he1
      clear hxU he1 hv8
      go_wp2_with fail
      go_at_call 48
      refine Calls.mono HOE.out ?_
      rintro e wV ⟨⟨u1, rfl, hu1⟩, hxV⟩
      have HXV : Hid (Ext w9 wV) := HXU.out.trans hxV
      have HU1 : Hid (IsBytes wV u1 e1.1) := Row.of_owns hu1 (by have := HL1.out; omega)
      have HID1 : Hid (Calls Tryz.prog 16 #[u1] wV fun e w' => e = .returned (S8 t1) ∧ Ext wV w') := by
        have h9 := id_sha u1 e1.1 wV (HES.out.ext (HX9.out.trans HXV.out)) HU1.out HL1.out
        rw [HT1.out] at h9
        exact h9
      have HTV : Hid (Ext wT wV) := HTU.out.trans hxV
      clear hu1 hxV
      go_wp2_with fail
      go_at_call 16
      refine Calls.mono HID1.out ?_
      rintro e wW ⟨rfl, hxW⟩
      have HXW : Hid (Ext w9 wW) := HXV.out.trans hxW
      have HTW : Hid (Ext wT wW) := HTV.out.trans hxW
      have HMW : Hid (IsMG (atV [u1]) wW gm []) := (HMT.out.ext HTW.out).swap (by intro e he; cases he)
      have HU1W : Hid (IsBytes wW u1 e1.1) := IsBytes.ext HU1.out hxW
      clear hxW
      go_upto_region 33 with (refine set_mg 66 45 Tryz.underlying66 rfl _ _ _ rfl HMW.out (by show 0 ≤ _; omega) rfl t1 (by omega) rfl (fiN 0) rfl ?_; intro wX hmX hgX)
      have HXX : Hid (Ext w9 wX) := Below.grown HXW.out hgX HXW.out.size (fun j hj => by cases hj; exact hgm9)
      have HMX : Hid (IsMG (atV [u1]) wX gm [(t1, fiN 0)]) := hmX
      have HPN : Hid (Calls Tryz.prog 43 #[S8 [97]] wX fun e w' => e = .returned (.tuple #[S8 [], S8 [97]]) ∧ w' = wX) := parent_none [97] wX (by show 1 ≤ _; omega) (by decide +kernel)
      have HSX : Hid (Ext wS wX) := Below.grown (HST.out.trans HTW.out) hgX (HST.out.trans HTW.out).size (fun j hj => by cases hj; exact HGS.out)
      clear hmX hgX
      go_wp2_with fail
      go_at_call 43
      refine Calls.mono HPN.out ?_
      rintro e wY ⟨rfl, rfl⟩
      have HMDX : Hid (IsMG V9 wY g lD) := HM9.out.ext HXX.out
      obtain ⟨-, hlk⟩ := HMDX.out.look_run 76 77 (.slice none 0 0) Tryz.underlying76 (by kernel_rfl) [] (by show 0 ≤ _; omega)
      rw [show lookG V9 (.slice none 0 0) lD [] = .slice none 0 0 by rw [← HLD.out, ← HV9.out]; rfl] at hlk
      obtain ⟨wZ, hwZ⟩ : ∃ wZ, wZ = wY.alloc (.cells #[.int .i64 4, S8 [97], S8 t1] 81) := ⟨_, rfl⟩
      have hxZ : Ext wY wZ := by rw [hwZ]; exact (Ext.refl _).alloc _
      have HXZ : Hid (Ext w9 wZ) := HXX.out.trans hxZ
      have HBZ : Hid (wZ.heap[wY.heap.size]? = some (.cells #[.int .i64 4, S8 [97], S8 t1] 81 (0, 0))) := by rw [hwZ]; exact alloc_at _ _
      have hszZ : w9.heap.size ≤ wZ.heap.size := HXZ.out.size
      go_upto_region 36 with (first
        | (at_builtin; rw [← hwZ]; refine app_any 77 81 (.agg #[.int .i64 0, S8 [], S8 []]) 3 40 Tryz.underlying77 (by kernel_rfl) rfl (by omega) rfl _ _ rfl w9.heap.size _ 0 [] rfl (World.ownsRow_nil _ _ _ _) ⟨wY.heap.size, 0, none⟩ 1 1 [.int .i64 4, S8 [97], S8 t1] rfl rfl (news_of_block HBZ.out) (by simp [Value.oneCell']) (by omega) (by omega) hszZ ?_
           intro va wA hownA hgA _
           have HXA : Hid (Ext w9 wA) := Below.grown HXZ.out hgA HXZ.out.size (fun j hj => by cases hj)
           have HXYA : Hid (Ext wY wA) := Below.grown hxZ hgA hxZ.size (fun j hj => by cases hj)
           have HOA : Hid _ := hownA
           have HMA : Hid (IsMG (atV [.slice none 0 0, .slice none 0 0, v8, va]) wA g lD) := (HMDX.out.ext HXYA.out).swap (by rw [← HLD.out, ← HV9.out]; intro e he; simp at he; rcases he with rfl | rfl <;> rfl)
           clear hownA hgA)
        | (refine set_mg 76 77 Tryz.underlying76 rfl _ _ _ rfl HMA.out (by rw [← HLD.out]; show 2 ≤ _; omega) rfl [] (by show 0 ≤ _; omega) rfl (fiN 3) rfl ?_; intro wB hmB hgB))
      have HWB : Hid (Ext w wB) := Below.grown (HX9.out.trans HXA.out) hgB (HX9.out.trans HXA.out).size (fun j hj => by cases hj; exact hlow)
      have HMB : Hid (IsMG (atV [.slice none 0 0, .slice none 0 0, v8, va]) wB g [([], fiN 3), ([97], fiN 2)]) := by
        have h9 := hmB
        rw [← HLD.out] at h9
        exact h9
      have hneA : va.ownBlock ≠ some g := by
        intro e
        obtain ⟨es, ck, hk⟩ := HMA.out.kind
        rcases HOA.out.2 with ⟨rfl, h0⟩ | ⟨q, c, cur, rfl, hbase, hb, h1, h2, h3, h4⟩
        · cases e
        · cases e
          rw [hk] at hb
          cases hb
      have HOB : Hid (wB.ownsRow w9.heap.size 81 3 va 1 [.int .i64 4, S8 [97], S8 t1]) := World.ownsRow.kept HOA.out hgB (.inr hneA)
      have HMA1 : Hid (IsMG (atV [u1]) wA gm [(t1, fiN 0)]) := HMX.out.ext HXYA.out
      have HMMB : Hid (IsMG (atV [u1]) wB gm [(t1, fiN 0)]) := HMA1.out.stay (hgB.block gm HMA1.out.lt (fun e => by cases e; omega))
      have y1B : wB.cell? ⟨qo, 1, none⟩ = some (S8 []) := hgB.cell (HSX.out.cell HDS.out.2 |> HXYA.out.cell) (fun e => by have e : some qo = some g := e; have h8 := HQO.out; cases e; omega)
      obtain ⟨q9, c9, hv9, hs9⟩ := item_sorts HOB.out
      have HS9 : Hid _ := hs9
      have HIT9 : Hid (IsItms wB va [⟨4, [97], t1⟩]) := Row.of_owns HOB.out (by omega)
      have HVA : Hid _ := hv9
      obtain ⟨-, hlk⟩ := HMB.out.look_run 76 77 (.slice none 0 0) Tryz.underlying76 (by kernel_rfl) [] (by show 0 ≤ _; omega)
      rw [show lookG (atV [.slice none 0 0, .slice none 0 0, v8, va]) (.slice none 0 0) [([], fiN 3), ([97], fiN 2)] [] = va from rfl] at hlk
      clear hmB hgB hneA hs9
      go_wp2_with fail
      rw [rounds_succ]
      go_upto_region 29 with fail
      clear hlk y1B
      try rw [hv9]
      go_wp2_with fail
      go_at_call 46
      refine Calls.mono HS9.out ?_
      rintro e xA ⟨rfl, hxA⟩
      have HBA : Hid (Ext wB xA) := hxA
      have HOE2 : Hid _ := oEnc_any (obV ⟨2, [], [⟨4, [97], t1⟩], [], [], 0, 0, []⟩ (.slice none 0 0) (.slice (some ⟨q9, 0, none⟩) 1 c9) (.slice none 0 0)) ⟨2, [], [⟨4, [97], t1⟩], [], [], 0, 0, []⟩ xA ⟨_, _, _, rfl, IsBytes.nil _, by rw [← HVA.out]; exact HIT9.out.ext hxA, IsStrs.nil _⟩ ⟨by intro x hx; simp at hx; subst hx; exact ⟨by show 1 ≤ _; omega, by show t1.length ≤ _; omega⟩, by simp, by simp, by simp⟩
      obtain ⟨e2, he2⟩ : ∃ r, encodeM (obT 4 [97] t1) = r := ⟨_, rfl⟩
      rw [show encodeM ⟨2, [], [⟨4, [97], t1⟩], [], [], 0, 0, []⟩ = e2 from he2] at HOE2
      rw [he2] at HT2 HL2
      clear hxA he2 hv9
      go_wp2_with fail
      go_at_call 48
      refine Calls.mono HOE2.out ?_
      rintro e xB ⟨⟨u2, rfl, hu2⟩, hxB⟩
      have HBB2 : Hid (Ext wB xB) := HBA.out.trans hxB
      have HU2 : Hid (IsBytes xB u2 e2.1) := Row.of_owns hu2 (by have := HL2.out; omega)
      have HID2 : Hid (Calls Tryz.prog 16 #[u2] xB fun e w' => e = .returned (S8 t2) ∧ Ext xB w') := by
        have h9 := id_sha u2 e2.1 xB (HES.out.ext (HWB.out.trans HBB2.out)) HU2.out HL2.out
        rw [HT2.out] at h9
        exact h9
      clear hu2 hxB
      go_wp2_with fail
      go_at_call 16
      refine Calls.mono HID2.out ?_
      rintro e xC ⟨rfl, hxC⟩
      have HBC : Hid (Ext wB xC) := HBB2.out.trans hxC
      have HMC : Hid (IsMG (atV [u1, u2]) xC gm [(t1, fiN 0)]) := (HMMB.out.ext HBC.out).swap (by intro e he; simp at he; subst he; rfl)
      have HUU : Hid ((∃ a n c, u1 = .slice a n c) ∧ ∃ a n c, u2 = .slice a n c) := by
        obtain ⟨a1, c1, h1, -⟩ := HU1.out.get
        obtain ⟨a2, c2, h2, -⟩ := HU2.out.get
        exact ⟨⟨_, _, _, h1⟩, ⟨_, _, _, h2⟩⟩
      clear hxC
      go_upto_region 33 with (refine set_mg 66 45 Tryz.underlying66 rfl _ _ _ rfl HMC.out (by show 1 ≤ _; omega) rfl t2 (by omega) rfl (fiN 1) rfl ?_; intro xD hmD hgD)
      have HWD : Hid (Ext w xD) := Below.grown (HWB.out.trans HBC.out) hgD (HWB.out.trans HBC.out).size (fun j hj => by cases hj; have := HX9.out.size; omega)
      obtain ⟨lM, hlM⟩ : ∃ l, putF [(t1, fiN 0)] t2 (fiN 1) = l := ⟨_, rfl⟩
      have HLM : Hid _ := hlM
      rw [hlM] at hmD
      have HMD2 : Hid (IsMG (atV [u1, u2]) xD gm lM) := hmD
      have HRM : Hid (Rising lM) := by rw [← hlM]; exact Rising.put (by unfold Rising; simp) _ _
      have HLL : Hid (lM.length = 2) := by
        rw [← hlM]
        have hn := HNE.out
        unfold putF delF
        simp only [List.filter, hn, Bool.not_false]
        unfold insF
        split <;> rfl
      have HRI : Hid _ := rising_any (atV [u1, u2]) gm lM xD HRM.out HMD2.out (by rw [HLL.out]; omega) (by
        intro p hp
        rw [← HLM.out] at hp
        obtain ⟨e, he, rfl⟩ := List.mem_map.1 hp
        rcases mem_putF he with rfl | ⟨h1, -⟩
        · show t2.length ≤ _; omega
        · simp at h1; subst h1; show t1.length ≤ _; omega) (by
        intro p f hf
        unfold look at hf
        rw [← HLM.out] at hf
        obtain ⟨e, he, rfl⟩ := Option.map_eq_some_iff.1 hf
        rcases mem_putF (List.mem_of_find?_eq_some he) with rfl | ⟨h1, -⟩
        · exact HUU.out.2
        · simp at h1; subst h1; exact HUU.out.1)
      rw [HLL.out] at HRI
      clear hlM hmD hgD
      go_wp2_with fail
      rw [rounds_succ]
      go_wp2_with fail
      go_at_call 37
      refine Calls.mono HRI.out ?_
      rintro e xE ⟨⟨ra, rc, rfl⟩, hxE⟩
      go_wp2
      go_ret3
      exact ⟨⟨_, _, _, rfl, HVT.out, ht2l⟩, HWD.out.trans hxE⟩
    · intro q f wa cnta hlk hlx hrga hlta hga hsa hen
      have hst := strike_perm (f := f) hlx HR9.out hlk
      have hpm1 : ((C ++ [q]) ++ pathsL (leftF (strike left q) lD)).Perm (pathsL lD) := by
        refine List.Perm.trans ?_ HPM.out
        rw [List.append_assoc]
        refine List.Perm.append_left C ?_
        exact (List.Perm.map Prod.fst hst).symm
      have HMM : Hid _ := hpm1
      have hne := row_ne_iter HOW.out hrg
      have hown1 := World.ownsRow.kept HOW.out hga (.inr hne.symm)
      have hx1 : Ext w9 wa := Below.grown HXR.out hga HXR.out.size (fun j hj => by cases hj; exact Nat.le_refl _)
      have hxa : Ext wa (wa.alloc (.cells #[S8 q] 9)) := (Ext.refl _).alloc _
      have hown2 := owns_ext hown1 hxa
      have hx2 := hx1.trans hxa
      have hsz : w9.heap.size ≤ (wa.alloc (.cells #[S8 q] 9)).heap.size := hx2.size
      have hrg2 := hrga.alloc (.cells #[S8 q] 9)
      have HNE2 : Hid _ := row_ne_iter hown2 hrg2
      have HLOW : Hid _ := row_ne_low hown2 hbl
      obtain ⟨fv, hfv⟩ : ∃ fv, V9 f = fv := ⟨_, rfl⟩
      rw [hfv] at hen
      clear hlk hst hpm1 hlx hne hown1 hx1 hxa hsa
      go_wp2_with (at_builtin; go_must (refine app_str rfl _ _ rfl w9.heap.size _ C.length C rfl hown2 wa.heap.size 1 1 [q] rfl rfl (alloc_at _ _) (by omega) hsz ?_); intro v' w3 hown3 hgr3)
      go_roundw
      case rel => exact ⟨_, cnta, C ++ [q], hrg2.kept hgr3 HLOW.out HNE2.out, by unfold Hid; rw [List.length_append]; exact hown3, HMM.out, Below.grown hx2 hgr3 hx2.size (fun j hj => (hown2.lt j hj).1)⟩
      case measure => rw [(hrg2.kept hgr3 HLOW.out HNE2.out).left_eq, hrg.left_eq]; exact hlta
end Go.Proofs.YtalpfoomkhhgnaaGreatDoor

/-! marref.Unique, of whatever texts. Conditions: as each theorem states. -/
namespace Go.Proofs.YtalpfoomkhhgnaaGreatDoor
open Go Go.RowKit
set_option linter.unusedVariables false
set_option linter.unusedSimpArgs false

/-- What holds while the inner append is done. -/
structure UJ (w0 : World) (s : B8) (D : List B8) (z7 z11 : Option Value) (w : World) : Prop where
  ext : Ext w0 w
  o11 : z11 ≠ none → z7 ≠ none
  f7 : z11 = none → ∀ v, z7 = some v → w.ownsRow w0.heap.size 9 1 v 1 [S8 s]
  f11 : ∀ v, z11 = some v → w.ownsRow w0.heap.size 9 1 v (1 + D.length) ([S8 s] ++ D.map S8)
section
variable {w0 w w' : World} {s : B8} {D : List B8} {z7 z11 : Option Value}
theorem UJ.more (h : UJ w0 s D z7 z11 w) (hx : Ext w w') : UJ w0 s D z7 z11 w' :=
  ⟨h.ext.trans hx, h.o11, fun h1 v hv => owns_ext (h.f7 h1 v hv) hx, fun v hv => owns_ext (h.f11 v hv) hx⟩
theorem UJ.start (hx : Ext w0 w) : UJ w0 s D none none w := ⟨hx, fun h => absurd rfl h, fun _ v hv => (by cases hv), fun v hv => (by cases hv)⟩
end
end Go.Proofs.YtalpfoomkhhgnaaGreatDoor

/-! scan.entries, scan.paths, marref16.Paths: what they answer. Conditions: as each theorem states. -/
namespace Go.Proofs.YtalpfoomkhhgnaaGreatDoor
open Go Go.RowKit Go.Sort
set_option linter.unusedVariables false
set_option linter.unusedSimpArgs false
set_option linter.unusedSectionVars false

/-- The slice holds slices that hold these rows. -/
structure IsTbs (w : World) (v : Value) (us : List Value) (ls : List (List Rw)) : Prop where
  row : Row w v us.length us
  len : us.length = ls.length
  each : ∀ (k : Nat) (u : Value) (l : List Rw), us[k]? = some u → ls[k]? = some l → IsRws w u l
theorem IsTbs.ext {w w' : World} {v : Value} {us : List Value} {ls : List (List Rw)} (h : IsTbs w v us ls) (hx : Ext w w') : IsTbs w' v us ls :=
  ⟨h.row.ext hx, h.len, fun k u l h1 h2 => (h.each k u l h1 h2).ext hx⟩
end Go.Proofs.YtalpfoomkhhgnaaGreatDoor

/-! marlaw16.Few, table.Paths, Get, marref.Rises: what they answer. Conditions: as each theorem states. -/
namespace Go.Proofs.YtalpfoomkhhgnaaGreatDoor
open Go Go.RowKit Go.Sort
set_option linter.unusedVariables false
set_option linter.unusedSimpArgs false
set_option linter.unusedSectionVars false

set_option maxRecDepth 100000 in
theorem few16_any (v : Value) (l : List Rw) (w : World) (hv : IsRws w v l) :
    Calls Tryz.prog 7 #[v] w fun e w' => ∃ b, e = .returned (.bool b) ∧ w' = w ∧ (b = true → l.length ≤ 100 ∧ ∀ r ∈ l, r.path.length ≤ 400 ∧ r.id.length ≤ 400) := by
  obtain ⟨a, cap, rfl, l1, l2, l3, hg⟩ := hv.cells
  have HG : Hid _ := hg
  clear hv hg
  go_enter Tryz.func7, Tryz.ntmps7
  go_wp2_with fail
  go_loopw [3] (fun i wr => ∃ k : Nat, k ≤ l.length ∧ k ≤ 100 ∧ i = .int .i64 k ∧ wr = w ∧ Hid (∀ r ∈ l.take k, r.path.length ≤ 400 ∧ r.id.length ≤ 400)) (fun i _ => l.length - (intOf i).toNat)
  case atStart => exact ⟨0, Nat.zero_le _, Nat.zero_le _, rfl, rfl, fun r hr => by simp at hr⟩
  case round =>
  obtain ⟨k, hk, hk100, rfl, rfl, HJ⟩ := hrel
  by_cases hlt : k < l.length
  case neg =>
    have hkk : k = l.length := by omega
    subst hkk
    have HR : Hid (∀ r ∈ l, r.path.length ≤ 400 ∧ r.id.length ≤ 400) := by have := HJ.out; rwa [List.take_length] at this
    have hl21 : Hid (decide ((l.length : Int) ≤ 100) = true) := by rw [Hid, decide_eq_true_eq]; omega
    go_wp2
    go_ret
    exact ⟨true, by rw [← hl21.out]; rfl, rfl, fun _ => ⟨hk100, HR.out⟩⟩
  by_cases h100 : k < 100
  case neg =>
    have hz : k = 100 := by omega
    subst hz
    have hl9 : ¬ (l.length : Int) ≤ 100 := by omega
    go_wp2
    go_ret
    first | exact ⟨false, rfl, rfl, fun h => absurd h (by decide)⟩ | exact .inl ⟨rfl, rfl⟩
  obtain ⟨x, hx⟩ : ∃ x, l[k]? = some x := ⟨_, List.getElem?_eq_getElem hlt⟩
  obtain ⟨bb, oo, rfl, y0, -, y2⟩ := HG.out k x hx
  have HSN : Hid _ := take_snocR hx
  clear hx
  by_cases hp : (400 : Int) < (x.path.length : Int)
  · go_wp2
    go_ret
    first | exact ⟨false, rfl, rfl, fun h => absurd h (by decide)⟩ | exact .inl ⟨rfl, rfl⟩
  by_cases hi : (400 : Int) < (x.id.length : Int)
  · go_wp2
    go_ret
    first | exact ⟨false, rfl, rfl, fun h => absurd h (by decide)⟩ | exact .inl ⟨rfl, rfl⟩
  have HJX : Hid (∀ r ∈ l.take (k + 1), r.path.length ≤ 400 ∧ r.id.length ≤ 400) := by
    unfold Hid
    rw [HSN.out]
    intro r hr
    rcases List.mem_append.1 hr with hr | hr
    · exact HJ.out r hr
    · obtain rfl : r = x := by simpa using hr
      exact ⟨by omega, by omega⟩
  go_wp2
  go_roundw
  case rel => exact ⟨k + 1, by omega, by omega, by go_num, trivial, HJX⟩
  case measure => simp [intOf]; omega

set_option maxRecDepth 100000 in
set_option maxHeartbeats 4000000 in
theorem tget_any (v : Value) (l : List Rw) (p : B8) (w : World) (hv : IsRws w v l) :
    Calls Tryz.prog 9 #[v, S8 p] w fun e w' => e = .returned (entV (entG l p)) ∧ Ext w w' := by
  obtain ⟨a, cap, rfl, l1, l2, l3, hg⟩ := hv.cells
  have HG : Hid _ := hg
  have htp : (⟨p.toArray⟩ : ByteArray).toList = p := Lib.toList_data _
  clear hv hg
  go_enter Tryz.func9, Tryz.ntmps9
  go_upto_region 1 with fail
  obtain ⟨w1, hw1⟩ : ∃ w1, w1 = w.alloc (.cells #[.int .i64 0, S8 []] 26) := ⟨_, rfl⟩
  have HX1 : Hid (Ext w w1) := by rw [hw1]; exact (Ext.refl _).alloc _
  have HB1 : Hid (w1.heap[w.heap.size]? = some (.cells #[.int .i64 0, S8 []] 26 (0, 0))) := by rw [hw1]; exact alloc_at _ _
  obtain ⟨g, hgz⟩ : ∃ g, w.heap.size = g := ⟨_, rfl⟩
  have HGZ : Hid _ := hgz
  have HW1 : Hid _ := hw1
  rw [hgz] at HB1
  first | rw [← hw1, hgz] | (rw [← HW1.out, hgz])
  clear hw1 hgz HW1
  go_wp2_with fail
  go_loopw [9] (fun i wr => ∃ k : Nat, k ≤ l.length ∧ i = .int .i64 k ∧ Hid (Ext w1 wr) ∧ Hid (∀ r ∈ l.take k, r.path ≠ p)) (fun i _ => l.length - (intOf i).toNat)
  case atStart => exact ⟨0, Nat.zero_le _, rfl, Ext.refl _, fun r hr => by simp at hr⟩
  case round =>
  obtain ⟨k, hk, rfl, HXR, HN⟩ := hrel
  have HBR : Hid _ := HXR.out.row HB1.out
  have hb1 := HBR.out
  by_cases hlt : k < l.length
  case neg =>
    have hkk : k = l.length := by omega
    subst hkk
    have HR : Hid (entG l p = (0, [])) := ent_none (by have := HN.out; rwa [List.take_length] at this)
    go_wp2_with (refine wpList_store_row rfl 26 (.tmp 4) (.tmp 20) rfl g #[.int .i64 0, S8 []] rfl rfl 26 _ HBR.out size_ent rfl (by simp [Value.oneCell']) ?_)
    refine bodyPost_ret (results_cell_row rfl _ _ g 26 #[.int .i64 0, S8 []] (0, 0) _ rfl (setRow_heap _ _ _ _ _ _ HBR.out) Tryz.underlying26 rfl size_ent) rfl ?_
    exact ⟨by rw [HR.out]; rfl, Ext.but (HX1.out.trans HXR.out) (setRow_grown _ _ _) (Nat.le_of_eq HGZ.out)⟩
  obtain ⟨x, hx⟩ : ∃ x, l[k]? = some x := ⟨_, List.getElem?_eq_getElem hlt⟩
  obtain ⟨bb, oo, rfl, c0, c1, c2⟩ := HG.out k x hx
  have hxw := HX1.out.trans HXR.out
  have y0 := hxw.cell c0
  have y1 := hxw.cell c1
  have y2 := hxw.cell c2
  have htx : (⟨x.path.toArray⟩ : ByteArray).toList = x.path := Lib.toList_data _
  have HX : Hid _ := hx
  obtain ⟨bq, hbq⟩ : ∃ bq, (x.path == p) = bq := ⟨_, rfl⟩
  clear c0 c1 c2 hx hxw
  go_upto_region 4 with fail
  obtain ⟨w4, hw4⟩ : ∃ w4, w4 = wr.alloc (.cells #[S8 x.path, .int .i64 x.mode, S8 x.id] 30) := ⟨_, rfl⟩
  have hx4 : Ext wr w4 := by rw [hw4]; exact (Ext.refl _).alloc _
  have hb4 : w4.heap[wr.heap.size]? = some (.cells #[S8 x.path, .int .i64 x.mode, S8 x.id] 30 (0, 0)) := by rw [hw4]; exact alloc_at _ _
  rw [← hw4]
  obtain ⟨z0, z1, z2⟩ := cellsAt3 hb4
  have HX4 : Hid (Ext w1 w4) := HXR.out.trans hx4
  have HB4 : Hid _ := hx4.row HBR.out
  obtain ⟨gi, hgi⟩ : ∃ gi, wr.heap.size = gi := ⟨_, rfl⟩
  rw [hgi] at z0 z1 z2 ⊢
  clear hw4 hx4 hb4 hgi y0 y1 y2 hb1
  cases bq with
  | true =>
    obtain rfl : x.path = p := by simpa using hbq
    have HR : Hid (entG l x.path = (x.mode, x.id)) := ent_at HN.out HX.out
    go_wp2_with (refine wpList_store_row rfl 26 (.tmp 4) (.tmp 18) rfl g #[.int .i64 x.mode, S8 x.id] rfl rfl 26 _ HB4.out size_ent rfl (by simp [Value.oneCell']) ?_)
    refine bodyPost_ret (results_cell_row rfl _ _ g 26 #[.int .i64 x.mode, S8 x.id] (0, 0) _ rfl (setRow_heap _ _ _ _ _ _ HB4.out) Tryz.underlying26 rfl size_ent) rfl ?_
    exact ⟨by rw [HR.out]; rfl, Ext.but (HX1.out.trans HX4.out) (setRow_grown _ _ _) (Nat.le_of_eq HGZ.out)⟩
  | false =>
    have HNX : Hid (∀ r ∈ l.take (k + 1), r.path ≠ p) := ne_snoc HN.out HX.out (by simpa using hbq)
    go_wp2
    go_roundw
    case rel => exact ⟨k + 1, by omega, by go_num, HX4, HNX⟩
    case measure => simp [intOf]; omega

def RisePost (l : List B8) (e : Ending) : Prop := ∃ c : Bool, e = .returned (.bool c) ∧ (c = true ↔ riseT l)

end Go.Proofs.YtalpfoomkhhgnaaGreatDoor

/-! marlaw16.TablePaths, what the chapter's examples fix given. Conditions: as each theorem states. -/
namespace Go.Proofs.YtalpfoomkhhgnaaGreatDoor
open Go Go.RowKit Go.Sort
set_option linter.unusedVariables false
set_option linter.unusedSimpArgs false
set_option linter.unusedSectionVars false

def First16 (w : World) : Prop := ∀ w', Ext w w' → Calls Tryz.prog 6 #[] w' fun e w'' => e = .returned (.bool true) ∧ Ext w' w''
end Go.Proofs.YtalpfoomkhhgnaaGreatDoor

/-! What marlaw16.TableMay says, in plain Lean: a table may be just if each row may be alone, they rise, none stands under another one. Conditions: at most 256 rows. -/
namespace Go.Proofs.YtalpfoomkhhgnaaGreatDoor
open Go Go.RowKit

def goodR (l : List Rw) (i : Nat) (x : Rw) : Bool := (mayTab [x] && (decide (i = 0) || ltB (l.getD (i - 1) zRw).path x.path))
def goodU (l : List Rw) (n : Nat) (x : Rw) : Bool := (l.take n).all fun r => !underB x.path r.path
def goodAt (l : List Rw) (i : Nat) (x : Rw) : Bool := goodR l i x && goodU l l.length x
def goodT (l : List Rw) (n : Nat) : Bool := (List.range n).all fun i => goodAt l i (l.getD i zRw)
theorem alone (x : Rw) : mayTab [x] = mayR0 [x] 0 x := by
  unfold mayTab mayTRow
  simp [hasR]
end Go.Proofs.YtalpfoomkhhgnaaGreatDoor

/-! marlaw16.TableMay, what the chapter's examples fix given. Conditions: as each theorem states. -/
namespace Go.Proofs.YtalpfoomkhhgnaaGreatDoor
open Go Go.RowKit Go.Sort
set_option linter.unusedVariables false
set_option linter.unusedSimpArgs false
set_option linter.unusedSectionVars false

theorem IsRws.one {w : World} {b o n cap k : Nat} {l : List Rw} {x : Rw} (h : IsRws w (.slice (some ⟨b, o, none⟩) l.length cap) l) (hx : l[k]? = some x) : IsRws w (.slice (some ⟨b, o + k * 3, none⟩) 1 (cap - k)) [x] := by
  have hk := (List.getElem?_eq_some_iff.1 hx).1
  obtain ⟨a, c, he, h1, h2, h3, hg⟩ := h.cells
  simp only [Value.slice.injEq, true_and] at he
  obtain ⟨rfl, rfl⟩ := he
  obtain ⟨b', o', hb, c0, c1, c2⟩ := hg k x hx
  cases hb
  refine ⟨_, _, rfl, by show 1 ≤ _; omega, by omega, by show 1 ≤ _; omega, fun _ => ⟨b, o + k * 3, rfl, fun i u hu => ?_⟩⟩
  have hu : [S8 x.path, .int .i64 x.mode, S8 x.id][i]? = some u := by simpa [rwC] using hu
  match i, hu with
  | 0, hu => cases hu; exact c0
  | 1, hu => cases hu; exact c1
  | 2, hu => cases hu; exact c2
  | i + 3, hu => simp at hu
end Go.Proofs.YtalpfoomkhhgnaaGreatDoor

/-! marlaw16: what the chapter's examples fix. Conditions: the roots of the primes as laid. -/
namespace Go.Proofs.YtalpfoomkhhgnaaGreatDoor
open Go Go.RowKit Go.Sort
set_option linter.unusedVariables false
set_option linter.unusedSimpArgs false
set_option linter.unusedSectionVars false

def id16 : B8 := shaM [120]
def e16 : B8 × Int := encodeM (obT 1 [98] id16)
def t16 : B8 := shaM e16.1
def g16 : B8 × Int := encodeM (obT 4 [97] t16)
def u16 : B8 := shaM g16.1
theorem b_first : id16.length ≤ 400 ∧ e16.1.length ≤ 10000000 ∧ g16.1.length ≤ 10000000 ∧ t16.length ≤ 400 ∧ u16.length ≤ 400 ∧ (t16 == u16) = false ∧ validB u16 = true ∧ mayTab (rowB 1 id16) = true ∧ mayTab [] = true := by decide +kernel

set_option maxRecDepth 100000 in
set_option maxHeartbeats 4000000 in
theorem first16_any (w : World) (hE : Env w) (hES : EnvS w) :
    Calls Tryz.prog 6 #[] w fun e w' => e = .returned (.bool true) ∧ Ext w w' := by
  obtain ⟨b1, b2, b3, b4, b5, b6, b7, b8, b9⟩ := b_first
  have HE : Hid (Env w) := hE
  have HES : Hid (EnvS w) := hES
  have HB6 : Hid _ := b6
  have HB7 : Hid _ := b7
  have HB8 : Hid _ := b8
  have HB9 : Hid _ := b9
  clear hE hES b6 b7 b8 b9
  have kc := fun (w : World) (C : Array Value) (n c : Nat) => Lib.run_convert_bytes_const (P := Tryz.prog) w 45 5 C n c Tryz.underlying45 Tryz.underlying5
  go_enter Tryz.func6, Tryz.ntmps6
  go_wp2_with fail
  obtain ⟨wa, hwa⟩ : ∃ wa, wa = w.alloc (.cells #[.int .u8 120] 5 (1, 2)) := ⟨_, rfl⟩
  have hxa : Ext w wa := by rw [hwa]; exact (Ext.refl _).alloc _
  have hrow : wa.heap[w.heap.size]? = some (.cells #[.int .u8 120] 5 (1, 2)) := by rw [hwa]; exact alloc_at _ _
  have HA : Hid (IsBytes wa (.slice (some ⟨w.heap.size, 0, none⟩) 1 1) [120]) := one_byte (x := 120) (fr := (1, 2)) hrow
  have HXA : Hid (Ext w wa) := hxa
  rw [← hwa]
  clear hwa hxa hrow
  go_at_call 16
  refine (id_sha _ [120] wa (HES.out.ext HXA.out) HA.out (by decide)).mono ?_
  rw [show shaM [120] = id16 from rfl]
  rintro e w1 ⟨rfl, hx1⟩
  have HX1 : Hid (Ext w w1) := HXA.out.trans hx1
  clear hx1 HA kc
  go_wp2_with fail
  obtain ⟨wb, hwb⟩ : ∃ wb, wb = w1.alloc (.cells #[S8 [97, 47, 98], .int .i64 1, S8 id16] 30) := ⟨_, rfl⟩
  have hxb : Ext w1 wb := by rw [hwb]; exact (Ext.refl _).alloc _
  have HR : Hid (IsRws wb (.slice (some ⟨w1.heap.size, 0, none⟩) 1 1) (rowB 1 id16)) := Row.new (by rw [hwb]; exact alloc_at _ _) (by omega) _ rfl
  have HXB : Hid (Ext w wb) := HX1.out.trans hxb
  rw [← hwb]
  clear hwb hxb
  go_at_call 17
  refine (buildOne_any _ 1 id16 wb (HE.out.ext HXB.out) (HES.out.ext HXB.out) HR.out HB8.out b1 t16 u16 b2 b3 rfl rfl b4 b5 HB6.out HB7.out).mono ?_
  rintro e w2 ⟨⟨t, a, c, rfl, hvt, htl⟩, hx2⟩
  have HX2 : Hid (Ext w w2) := HXB.out.trans hx2
  have HVT : Hid _ := hvt
  clear hx2 hvt
  go_wp2_with (first
    | (go_at_call 18; go_must (refine (valid_any t w2 (by omega)).mono ?_; rw [HVT.out]; rintro e w3 ⟨rfl, hx3⟩; have HX3 : Hid (Ext w w3) := HX2.out.trans hx3))
    | (go_at_call 8; go_must (refine (tmay_any (.slice none 0 0) [] w3 (HE.out.ext HX3.out) (IsRws.nil _) (Nat.zero_le _) (fun r hr => by cases hr)).mono ?_; rw [HB9.out]; rintro e w4 ⟨rfl, hx4⟩)))
  go_ret
  exact ⟨rfl, HX3.out.trans hx4⟩
theorem first16 (w : World) (hE : Env w) (hES : EnvS w) : First16 w := fun w' hx => first16_any w' (hE.ext hx) (hES.ext hx)
end Go.Proofs.YtalpfoomkhhgnaaGreatDoor

/-! marref16.Paths, scan.entries: what they answer. Conditions: as each theorem states. -/
namespace Go.Proofs.YtalpfoomkhhgnaaGreatDoor
open Go Go.RowKit Go.Sort
set_option linter.unusedVariables false
set_option linter.unusedSimpArgs false
set_option linter.unusedSectionVars false

/-! ### Entries -/
def entFV (f : Fi) : Value := .agg #[.int .i64 f.mode, S8 f.data]
end Go.Proofs.YtalpfoomkhhgnaaGreatDoor
