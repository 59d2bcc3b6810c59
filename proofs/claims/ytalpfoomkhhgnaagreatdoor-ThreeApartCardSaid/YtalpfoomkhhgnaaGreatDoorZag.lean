/- marref.CopyBytes; marref5.FS: put. Conditions: at most 8000000 ticks; short paths. -/
import Derived.Test.YtalpfoomkhhgnaaGreatDoorZad
import Derived.Test.YtalpfoomkhhgnaaGreatDoorZaf
import Derived.Test.YtalpfoomkhhgnaaGreatDoorZac
import Derived.Test.YtalpfoomkhhgnaaGreatDoorZab
import Derived.Lib.SlBytesConst
import Derived.Test.YtalpfoomkhhgnaaGreatDoorZae
import Derived.Sort.LotA
import Derived.Test.YtalpfoomkhhgnaaGreatDoorProg
import Derived.Shelf.SlSortCmp.KitK
import Derived.Sort.WalkB2
import Derived.Sort.WalkB12
import Derived.Deep.LoopGhost
import Derived.Deep.DeepCutAuto
import Derived.Shelf.SlSortCmp.QuietGrown
import Derived.Test.YtalpfoomkhhgnaaGreatDoorZaa

set_option linter.unusedVariables false
set_option linter.unusedSimpArgs false
set_option linter.unusedSectionVars false

/-! table.find: where a path is in rows that rise. Conditions: as each theorem states. -/
namespace Go.Proofs.YtalpfoomkhhgnaaGreatDoor
open Go Go.RowKit Go.Sort
set_option linter.unusedVariables false
set_option linter.unusedSimpArgs false
set_option linter.unusedSectionVars false

set_option maxRecDepth 100000 in
theorem findF_any (x : Rw) (p : B8) (w : World) :
    Calls Tryz.prog 55 #[.agg #[S8 x.path, .int .i64 x.mode, S8 x.id], S8 p] w fun e w' => e = .returned (.int .i64 (cmpI x.path p)) ∧ Ext w w' := by
  obtain ⟨wa, hwa⟩ : ∃ wa, wa = w.alloc (.cells #[S8 x.path, .int .i64 x.mode, S8 x.id] 30) := ⟨_, rfl⟩
  have hxa : Ext w wa := by rw [hwa]; exact (Ext.refl _).alloc _
  have hba : wa.heap[w.heap.size]? = some (.cells #[S8 x.path, .int .i64 x.mode, S8 x.id] 30 (0, 0)) := by rw [hwa]; exact alloc_at _ _
  have HX : Hid (Ext w wa) := hxa
  obtain ⟨z0, z1, z2⟩ := cellsAt3 hba
  have HWA : Hid _ := hwa
  clear hxa hba hwa
  go_enter Tryz.func55, Tryz.ntmps55
  go_upto_region 1 with fail
  rw [← HWA.out]
  go_wp2_with fail
  go_at_call 35
  refine (compare_any x.path p wa).mono ?_
  rintro e w1 ⟨rfl, rfl⟩
  go_wp2
  go_ret
  exact ⟨rfl, HX.out⟩

/-- Ahead of a place all is below, from another place on nothing is. -/
structure BsI (l : List Rw) (p : B8) (i j : Nat) : Prop where
  le : i ≤ j
  len : j ≤ l.length
  lo : ∀ t x, t < i → l[t]? = some x → ltB x.path p = true
  hi : ∀ t x, j ≤ t → l[t]? = some x → ltB x.path p = false
theorem BsI.start (l : List Rw) (p : B8) : BsI l p 0 l.length := ⟨Nat.zero_le _, Nat.le_refl _, fun t x h => absurd h (Nat.not_lt_zero _), fun t x h hx => by have := (List.getElem?_eq_some_iff.1 hx).1; omega⟩
theorem BsI.up {l : List Rw} {p : B8} {i j h : Nat} {y : Rw} (b : BsI l p i j) (hr : riseT (l.map (·.path))) (hy : l[h]? = some y) (hh : i ≤ h ∧ h < j) (hb : ltB y.path p = true) : BsI l p (h + 1) j := by
  refine ⟨by omega, b.len, fun t x ht hx => ?_, b.hi⟩
  by_cases hth : t = h
  · subst hth
    rw [hy] at hx
    cases hx
    exact hb
  · exact lt_trans' (rise_lt hr (i := t) (j := h) (by rw [List.getElem?_map, hx]; rfl) (by rw [List.getElem?_map, hy]; rfl) (by omega)) hb
theorem BsI.down {l : List Rw} {p : B8} {i j h : Nat} {y : Rw} (b : BsI l p i j) (hr : riseT (l.map (·.path))) (hy : l[h]? = some y) (hh : i ≤ h ∧ h < j) (hb : ltB y.path p = false) : BsI l p i h := by
  refine ⟨by omega, by have := b.len; omega, b.lo, fun t x ht hx => ?_⟩
  by_cases hth : t = h
  · subst hth
    rw [hy] at hx
    cases hx
    exact hb
  · cases hq : ltB x.path p with
    | false => rfl
    | true =>
      have := lt_trans' (rise_lt hr (i := h) (j := t) (by rw [List.getElem?_map, hy]; rfl) (by rw [List.getElem?_map, hx]; rfl) (by omega)) hq
      rw [hb] at this
      cases this
def hasR (l : List Rw) (p : B8) : Bool := l.any fun r => r.path == p
theorem BsI.found {l : List Rw} {p : B8} {i : Nat} {y : Rw} (b : BsI l p i i) (hr : riseT (l.map (·.path))) (hy : l[i]? = some y) : hasR l p = (y.path == p) := by
  unfold hasR
  rw [Bool.eq_iff_iff, List.any_eq_true]
  constructor
  · rintro ⟨r, hm, hp⟩
    obtain ⟨t, ht, rfl⟩ := List.mem_iff_getElem.1 hm
    have hp : l[t].path = p := by simpa using hp
    have hx : l[t]? = some l[t] := List.getElem?_eq_getElem ht
    rcases Nat.lt_trichotomy t i with h | h | h
    · have := b.lo t _ h hx
      rw [hp, lt_irr] at this
      cases this
    · subst h
      rw [hy] at hx
      cases hx
      simpa using hp
    · have h1 := rise_lt hr (i := i) (j := t) (by rw [List.getElem?_map, hy]; rfl) (by rw [List.getElem?_map, hx]; rfl) h
      have h1 : ltB y.path l[t].path = true := h1
      rw [hp] at h1
      rw [b.hi i y (Nat.le_refl _) hy] at h1
      cases h1
  · intro h
    exact ⟨y, List.mem_of_getElem? hy, h⟩
theorem BsI.none {l : List Rw} {p : B8} (b : BsI l p l.length l.length) : hasR l p = false := by
  unfold hasR
  rw [List.any_eq_false]
  intro r hm
  obtain ⟨t, ht, rfl⟩ := List.mem_iff_getElem.1 hm
  have := b.lo t _ ht (List.getElem?_eq_getElem ht)
  have := lt_ne this
  simpa using this
theorem cmp_lt {a b : B8} : (decide (cmpI a b < 0)) = ltB a b := by
  unfold cmpI
  cases h1 : ltB a b with
  | true => simp
  | false =>
    cases h2 : ltB b a <;> simp
theorem cmp_eq {a b : B8} : (cmpI a b == 0) = (a == b) := by
  unfold cmpI
  cases h1 : ltB a b with
  | true =>
    have := lt_ne h1
    simp [this]
  | false =>
    cases h2 : ltB b a with
    | true =>
      have := (lt_ne h2).symm
      simp [this]
    | false =>
      have : a = b := Classical.byContradiction fun h => by have := lt_tri h1 h; rw [this] at h2; cases h2
      simp [this]

set_option maxRecDepth 100000 in
set_option maxHeartbeats 4000000 in
theorem bsearch_any (v : Value) (l : List Rw) (p : B8) (w : World) (hv : IsRws w v l) (hl : l.length ≤ 100000) (hr : riseT (l.map (·.path))) :
    Calls Tryz.prog 54 #[v, S8 p, .func (.func 55) #[] #[]] w fun e w' => (∃ i : Nat, e = .returned (.tuple #[.int .i64 i, .bool (hasR l p)])) ∧ Ext w w' := by
  obtain ⟨a, cap, rfl, l1, l2, l3, hg⟩ := hv.cells
  have HG : Hid _ := hg
  have HR : Hid (riseT (l.map (·.path))) := hr
  clear hv hg hr
  go_enter Tryz.func54, Tryz.ntmps54
  go_wp2_with fail
  go_loopw [9, 10] (fun vi vj wr => ∃ i j : Nat, Hid (BsI l p i j) ∧ vi = .int .i64 i ∧ vj = .int .i64 j ∧ Hid (Ext w wr)) (fun vi vj _ => (intOf vj).toNat - (intOf vi).toNat)
  case atStart => exact ⟨0, l.length, BsI.start l p, rfl, rfl, Ext.refl _⟩
  case round =>
  obtain ⟨i, j, HB, rfl, rfl, HX⟩ := hrel
  have hij := HB.out.le
  have hjl := HB.out.len
  by_cases hlt : i < j
  case neg =>
    have hij2 : i = j := by omega
    subst hij2
    by_cases hin : i < l.length
    case neg =>
      have hil : i = l.length := by omega
      subst hil
      have HN : Hid _ := HB.out.none
      go_wp2
      go_ret2
      exact ⟨⟨l.length, by rw [HN.out]; rfl⟩, HX.out⟩
    obtain ⟨y, hy⟩ : ∃ y, l[i]? = some y := ⟨_, List.getElem?_eq_getElem hin⟩
    obtain ⟨bb, oo, rfl, c0, c1, c2⟩ := HG.out i y hy
    have y0 := HX.out.cell c0
    have y1 := HX.out.cell c1
    have y2 := HX.out.cell c2
    have HN : Hid _ := HB.out.found HR.out hy
    clear c0 c1 c2 hy
    obtain ⟨c, hc⟩ : ∃ c, cmpI y.path p = c := ⟨_, rfl⟩
    have HC : Hid _ := hc
    have HCE : Hid ((c == 0) = (y.path == p)) := by unfold Hid; rw [← hc]; exact cmp_eq
    obtain ⟨q, hq⟩ : ∃ q, (c == 0) = q := ⟨_, rfl⟩
    have HQ : Hid (hasR l p = q) := by unfold Hid; rw [HN.out, ← HCE.out, hq]
    clear hc
    go_wp2_with fail
    go_at_call 55
    refine (findF_any y p wr).mono ?_
    rw [HC.out]
    rintro e w2 ⟨rfl, hx2⟩
    have HX2 : Hid (Ext w w2) := HX.out.trans hx2
    clear y0 y1 y2 hx2
    go_wp2
    go_ret2
    exact ⟨⟨i, by rw [HQ.out]; rfl⟩, HX2.out⟩
  have hw1 : IntKind.i64.wrap ((i : Int) + (j : Int)) = (i : Int) + (j : Int) := IntWalk.i64_in _ (by omega)
  go_upto_region 5 with fail
  obtain ⟨h, hh⟩ : ∃ h : Nat, ((i : Int) + (j : Int)) / 2 = (h : Int) := ⟨(i + j) / 2, by omega⟩
  have hih : i ≤ h ∧ h < j := by omega
  rw [hh]
  clear hw1 hh
  obtain ⟨hih, hhj⟩ := hih
  have hhl : h < l.length := by omega
  obtain ⟨y, hy⟩ : ∃ y, l[h]? = some y := ⟨_, List.getElem?_eq_getElem hhl⟩
  obtain ⟨bb, oo, rfl, c0, c1, c2⟩ := HG.out h y hy
  have y0 := HX.out.cell c0
  have y1 := HX.out.cell c1
  have y2 := HX.out.cell c2
  have HY : Hid _ := hy
  obtain ⟨c, hc⟩ : ∃ c, cmpI y.path p = c := ⟨_, rfl⟩
  have HC : Hid _ := hc
  have HCL : Hid (decide (c < 0) = ltB y.path p) := by unfold Hid; rw [← hc]; exact cmp_lt
  clear c0 c1 c2 hy hc
  go_wp2_with fail
  go_at_call 55
  refine (findF_any y p wr).mono ?_
  rw [HC.out]
  rintro e w2 ⟨rfl, hx2⟩
  have HX2 : Hid (Ext w w2) := HX.out.trans hx2
  clear y0 y1 y2 hx2
  by_cases hc0 : c < 0
  · have HBX : Hid (BsI l p (h + 1) j) := HB.out.up HR.out HY.out ⟨hih, hhj⟩ (by rw [← HCL.out]; exact decide_eq_true hc0)
    go_wp2_with fail
    go_roundw
    case rel => exact ⟨h + 1, j, HBX, by go_num, rfl, HX2⟩
    case measure => simp [intOf]; omega
  · have HBX : Hid (BsI l p i h) := HB.out.down HR.out HY.out ⟨hih, hhj⟩ (by rw [← HCL.out]; exact decide_eq_false hc0)
    go_wp2_with fail
    go_roundw
    case rel => exact ⟨i, h, HBX, rfl, rfl, HX2⟩
    case measure => simp [intOf]; omega

set_option maxRecDepth 100000 in
theorem tfind_any (v : Value) (l : List Rw) (p : B8) (w : World) (hv : IsRws w v l) (hl : l.length ≤ 100000) (hr : riseT (l.map (·.path))) :
    Calls Tryz.prog 21 #[v, S8 p] w fun e w' => (∃ i : Nat, e = .returned (.tuple #[.int .i64 i, .bool (hasR l p)])) ∧ Ext w w' := by
  have HB : Hid _ := bsearch_any v l p w hv hl hr
  obtain ⟨a, cap, rfl, -⟩ := hv.cells
  clear hv hr
  go_enter Tryz.func21, Tryz.ntmps21
  go_wp2_with fail
  go_at_call 54
  refine Calls.mono HB.out ?_
  rintro e w1 ⟨⟨i, rfl⟩, hx⟩
  go_wp2
  go_ret2
  exact ⟨⟨i, rfl⟩, hx⟩

end Go.Proofs.YtalpfoomkhhgnaaGreatDoor

/-! A file system of the call's own. Conditions: as each theorem states. -/
namespace Go.Proofs.YtalpfoomkhhgnaaGreatDoor
open Go Go.RowKit
set_option linter.unusedVariables false
set_option linter.unusedSimpArgs false
set_option linter.unusedSectionVars false

section
variable {w0 w w' : World} {S O : Nat → Prop} {f : Value} {m m' : Fs} {n : Nat}
end
theorem str_app (a b : B8) : ((⟨a.toArray⟩ : ByteArray) ++ ⟨b.toArray⟩).data.toList = a ++ b := by rw [ByteArray.data_append]; simp
end Go.Proofs.YtalpfoomkhhgnaaGreatDoor

/-! names.Under; a block of the call's own is written. Conditions: as each theorem states. -/
namespace Go.Proofs.YtalpfoomkhhgnaaGreatDoor
open Go Go.RowKit
set_option linter.unusedVariables false
set_option linter.unusedSimpArgs false
set_option linter.unusedSectionVars false

def underB (d s : B8) : Bool := pathB d && (pathB s && isUnder d s)
variable [Inhabited BaseW]
end Go.Proofs.YtalpfoomkhhgnaaGreatDoor

/-! table.May: what may be a table. Conditions: as each theorem states. -/
namespace Go.Proofs.YtalpfoomkhhgnaaGreatDoor
open Go Go.RowKit Go.Sort
set_option linter.unusedVariables false
set_option linter.unusedSimpArgs false
set_option linter.unusedSectionVars false

def mayTRow (l : List Rw) (k : Nat) (x : Rw) : Bool := mayR0 l k x && (parentsL x.path).all fun p => !hasR (l.take k) p
def mayTab (l : List Rw) : Bool := ((List.range l.length).all fun k => mayTRow l k (l.getD k zRw)) && decide (l.length ≤ 256)
theorem tab_no {l : List Rw} {k : Nat} {x : Rw} (h : l[k]? = some x) (hb : mayTRow l k x = false) : mayTab l = false := by
  unfold mayTab
  have hl := (List.getElem?_eq_some_iff.1 h).1
  have : ((List.range l.length).all fun k => mayTRow l k (l.getD k zRw)) = false := by
    rw [List.all_eq_false]
    exact ⟨k, List.mem_range.2 hl, by rw [getD_at h, hb]; simp⟩
  rw [this, Bool.false_and]
theorem tab_no0 {l : List Rw} {k : Nat} {x : Rw} (h : l[k]? = some x) (hb : mayR0 l k x = false) : mayTab l = false := tab_no h (by unfold mayTRow; rw [hb]; rfl)
theorem tab_noP {l : List Rw} {k : Nat} {x : Rw} {p : B8} (h : l[k]? = some x) (hp : p ∈ parentsL x.path) (h0 : hasR (l.take k) p = true) : mayTab l = false := by
  refine tab_no h ?_
  unfold mayTRow
  have : ((parentsL x.path).all fun p => !hasR (l.take k) p) = false := by
    rw [List.all_eq_false]
    exact ⟨p, hp, by simp [h0]⟩
  rw [this, Bool.and_false]
theorem tab_yes {l : List Rw} (h : ∀ k x, l[k]? = some x → mayTRow l k x = true) : mayTab l = decide (l.length ≤ 256) := by
  unfold mayTab
  have : ((List.range l.length).all fun k => mayTRow l k (l.getD k zRw)) = true := by
    rw [List.all_eq_true]
    intro k hk
    have hk := List.mem_range.1 hk
    have hx : l[k]? = some l[k] := List.getElem?_eq_getElem hk
    rw [getD_at hx]
    exact h _ _ hx
  rw [this, Bool.true_and]
theorem tab_row {l : List Rw} (h : mayTab l = true) {k : Nat} {x : Rw} (hx : l[k]? = some x) : mayTRow l k x = true := by
  cases hq : mayTRow l k x with
  | true => rfl
  | false => rw [tab_no hx hq] at h; cases h
theorem r0_lt {l : List Rw} {k : Nat} (h : ∀ j x, j < k → l[j]? = some x → mayR0 l j x = true) {i j : Nat} {x y : Rw} (hij : i < j) (hj : j < k) (hx : l[i]? = some x) (hy : l[j]? = some y) : ltB x.path y.path = true := by
  have hs : ∀ i x y, i + 1 < k → l[i]? = some x → l[i + 1]? = some y → ltB x.path y.path = true := fun i x y hi hx hy => by
    have h1 := h _ _ hi hy
    unfold mayR0 at h1
    simp only [Bool.and_eq_true, Bool.or_eq_true, decide_eq_true_eq] at h1
    have h2 := h1.2.2.2.2
    rw [show i + 1 - 1 = i by omega, getD_at hx] at h2
    rcases h2 with h2 | h2
    · omega
    · exact h2
  have hd : ∀ (d i : Nat) (x y : Rw), i + 1 + d < k → l[i]? = some x → l[i + 1 + d]? = some y → ltB x.path y.path = true := by
    intro d
    induction d with
    | zero => exact hs
    | succ d ih =>
      intro i x y hi hx hy
      have hm := (List.getElem?_eq_some_iff.1 hy).1
      have hz : l[i + 1 + d]? = some l[i + 1 + d] := List.getElem?_eq_getElem (by omega)
      exact lt_trans' (ih i x _ (by omega) hx hz) (hs (i + 1 + d) _ y hi hz hy)
  exact hd (j - i - 1) i x y (by omega) hx (by rw [show i + 1 + (j - i - 1) = j by omega]; exact hy)
theorem r0_rise {l : List Rw} {k : Nat} (h : ∀ j x, j < k → l[j]? = some x → mayR0 l j x = true) : riseT ((l.take k).map (·.path)) := by
  refine List.pairwise_iff_getElem.2 fun i j hi hj hij => ?_
  rw [List.length_map, List.length_take] at hi hj
  rw [List.getElem_map, List.getElem_map, List.getElem_take, List.getElem_take]
  exact r0_lt h hij (by omega) (List.getElem?_eq_getElem (by omega)) (List.getElem?_eq_getElem (by omega))
theorem IsRws.take {w : World} {a : Option Addr} {l : List Rw} {cap k : Nat} (h : IsRws w (.slice a l.length cap) l) (hk : k ≤ l.length) : IsRws w (.slice a k cap) (l.take k) := by
  obtain ⟨a2, cap2, he, h1, h2, h3, h4⟩ := h
  simp only [Value.slice.injEq, true_and] at he
  obtain ⟨rfl, rfl⟩ := he
  have hlen : (l.take k).length = k := by rw [List.length_take]; omega
  unfold IsRws
  rw [hlen]
  refine ⟨a, cap, rfl, by omega, h2, by omega, fun hne => ?_⟩
  obtain ⟨b, o, ha, hc⟩ := h4 (fun h0 => hne (by
    have : l = [] := by
      cases l with
      | nil => rfl
      | cons x l => rw [List.flatMap_cons] at h0; simp [rwC] at h0
    subst this
    simp))
  refine ⟨b, o, ha, fun i u hu => hc i u ?_⟩
  have he : l.flatMap rwC = (l.take k).flatMap rwC ++ (l.drop k).flatMap rwC := by rw [← List.flatMap_append, List.take_append_drop]
  rw [he, List.getElem?_append_left (List.getElem?_eq_some_iff.1 hu).1]
  exact hu

set_option maxRecDepth 100000 in
set_option maxHeartbeats 16000000 in
theorem tmay_any (v : Value) (l : List Rw) (w : World) (hE : Env w) (hv : IsRws w v l) (hl : l.length ≤ 100000) (hs : ∀ r ∈ l, r.path.length ≤ 400 ∧ r.id.length ≤ 400) :
    Calls Tryz.prog 8 #[v] w fun e w' => e = .returned (.bool (mayTab l)) ∧ Ext w w' := by
  have HV : Hid (IsRws w v l) := hv
  obtain ⟨a, c, rfl, l1, l2, l3, hg⟩ := hv.cells
  have HG : Hid _ := hg
  have HS : Hid _ := hs
  clear hv hg hs
  have HE : Hid (Env w) := hE
  clear hE
  go_enter Tryz.func8, Tryz.ntmps8
  go_wp2_with fail
  go_loopw [11] (fun i wr => ∃ k : Nat, k ≤ l.length ∧ i = .int .i64 k ∧ Hid (∀ j x, j < k → l[j]? = some x → mayTRow l j x = true) ∧ Hid (Ext w wr)) (fun i _ => l.length - (intOf i).toNat)
  case atStart => exact ⟨0, Nat.zero_le _, rfl, fun j x hj => absurd hj (Nat.not_lt_zero _), Ext.refl _⟩
  case round =>
  obtain ⟨k, hk, rfl, HT, HX⟩ := hrel
  by_cases hlt : k < l.length
  case neg =>
    have HF : Hid (mayTab l = decide (l.length ≤ 256)) := tab_yes (fun j x hx => HT.out j x (by have := (List.getElem?_eq_some_iff.1 hx).1; omega) hx)
    go_wp2
    go_ret
    refine ⟨ret_b ?_, HX.out⟩
    rw [HF.out]
    exact decide_eq_decide.2 (by omega)
  obtain ⟨x, hx⟩ : ∃ x, l[k]? = some x := ⟨_, List.getElem?_eq_getElem hlt⟩
  obtain ⟨bb, oo, rfl, hc0, hc1, hc2⟩ := HG.out k x hx
  obtain ⟨hxn, hxi⟩ := HS.out x (List.mem_of_getElem? hx)
  have HK : Hid (l[k]? = some x) := hx
  have HPREV : Hid (∀ j, k = j + 1 → wr.cell? ⟨bb, oo + j * 3, none⟩ = some (S8 (l.getD j zRw).path)) := fun j hj => by
    subst hj
    have hjl : j < l.length := by omega
    obtain ⟨b2, o2, he, h9, -⟩ := HG.out j (l.getD j zRw) (by rw [List.getD_eq_getElem?_getD, List.getElem?_eq_getElem hjl]; rfl)
    cases he
    exact HX.out.cell h9
  have y0 := HX.out.cell hc0
  have y1 := HX.out.cell hc1
  have y2 := HX.out.cell hc2
  obtain ⟨path, mode, id⟩ := x
  dsimp only at y0 y1 y2 hxn hxi
  clear hx hc0 hc1 hc2
  go_upto_region 4 with fail
  obtain ⟨w4, hw4⟩ : ∃ w4, w4 = wr.alloc (.cells #[S8 path, .int .i64 mode, S8 id] 30) := ⟨_, rfl⟩
  have hx4 : Ext wr w4 := by rw [hw4]; exact (Ext.refl _).alloc _
  have hb4 : w4.heap[wr.heap.size]? = some (.cells #[S8 path, .int .i64 mode, S8 id] 30 (0, 0)) := by rw [hw4]; exact alloc_at _ _
  rw [← hw4]
  obtain ⟨gi, hgi⟩ : ∃ gi, wr.heap.size = gi := ⟨_, rfl⟩
  rw [hgi] at hb4 ⊢
  obtain ⟨z0, z1, z2⟩ := cellsAt3 hb4
  have HX4 : Hid (Ext w w4) := HX.out.trans hx4
  have HP4 : Hid (∀ j, k = j + 1 → w4.cell? ⟨bb, oo + j * 3, none⟩ = some (S8 (l.getD j zRw).path)) := fun j hj => hx4.cell (HPREV.out j hj)
  have HB4 : Hid _ := hb4
  have v0 := fun d os => cell_regrown z0 d os
  have v1 := fun d os => cell_regrown z1 d os
  have v2 := fun d os => cell_regrown z2 d os
  obtain ⟨nb, hnb⟩ : ∃ nb, pathB (dirW ++ path) = nb := ⟨_, rfl⟩
  obtain ⟨vb, hvb⟩ : ∃ vb, validB id = vb := ⟨_, rfl⟩
  have HNB : Hid _ := hnb
  have HVB : Hid _ := hvb
  have HNA : Hid (∀ d os, Calls Tryz.prog 19 #[.string (⟨#[119, 47]⟩ ++ ⟨path.toArray⟩)] (grow (redrawn w4 d) os) fun e w' => e = .returned (.bool nb) ∧ ∃ q : Regrown, w' = grow (redrawn w4 q.d) q.os) := fun d os => Calls.regrown_of (by
    have h9 := path_l (dirW ++ path) (grow (redrawn w4 d) os) (HE.out.ext (HX4.out.trans (Ext.regrown _ _ _))) (by simp [dirW]; omega)
    rw [hnb] at h9
    exact h9)
  have HVA : Hid (∀ d os, Calls Tryz.prog 18 #[S8 id] (grow (redrawn w4 d) os) fun e w' => e = .returned (.bool vb) ∧ ∃ q : Regrown, w' = grow (redrawn w4 q.d) q.os) := fun d os => Calls.regrown_of (by
    have h9 := valid_any id (grow (redrawn w4 d) os) (by omega)
    rwa [hvb] at h9)
  obtain ⟨okk, hokk⟩ : ∃ c, mayR0 l k ⟨path, mode, id⟩ = !c := ⟨!mayR0 l k ⟨path, mode, id⟩, by simp⟩
  have HOK : Hid _ := hokk
  clear hw4 hx4 hb4 hgi z0 z1 z2 y0 y1 y2 hnb hvb hokk HPREV HX
  have hcat : ¬ 9223372036854775807 < 2 + path.length := by omega
  go_cut [54] (fun c wx => c = .bool okk ∧ Ext w4 wx)
  case first =>
    cases nb with
    | false =>
      have HR : Hid (okk = true) := r0_no (b := true) HOK.out ((r0_of HNB.out rfl rfl rfl rfl).trans (by simp))
      refine qw_below (by kernel_rfl) (by kernel_rfl) ?_
      repeat (refine qw_step (fun K hK => ?_); go_simp; first | (refine hK _ ?_; clear hK K) | (apply Exists.intro; refine ⟨fun _ => ?_, hK _ ?_⟩; (first | exact HNA.out _ _ | exact HVA.out _ _); clear hK K))
      refine qw_nil ?_
      intro _ hw'
      obtain ⟨⟨dq, osq⟩, hw''⟩ := hw'
      subst hw''
      go_wp2_with fail
      go_meet
      case rel => exact ⟨by rw [HR.out], Ext.regrown _ _ _⟩
    | true =>
    by_cases h1 : mode < 1
    · have HR : Hid (okk = true) := r0_no (b := true) HOK.out ((r0_of rfl (decide_eq_false (by dsimp only; omega)) rfl rfl rfl).trans (by simp))
      refine qw_below (by kernel_rfl) (by kernel_rfl) ?_
      repeat (refine qw_step (fun K hK => ?_); go_simp; first | (refine hK _ ?_; clear hK K) | (apply Exists.intro; refine ⟨fun _ => ?_, hK _ ?_⟩; (first | exact HNA.out _ _ | exact HVA.out _ _); clear hK K))
      refine qw_nil ?_
      intro _ hw'
      obtain ⟨⟨dq, osq⟩, hw''⟩ := hw'
      subst hw''
      go_wp2_with fail
      go_meet
      case rel => exact ⟨by rw [HR.out], Ext.regrown _ _ _⟩
    by_cases h2 : 3 < mode
    · have HR : Hid (okk = true) := r0_no (b := true) HOK.out ((r0_of rfl rfl (decide_eq_false (by dsimp only; omega)) rfl rfl).trans (by simp))
      refine qw_below (by kernel_rfl) (by kernel_rfl) ?_
      repeat (refine qw_step (fun K hK => ?_); go_simp; first | (refine hK _ ?_; clear hK K) | (apply Exists.intro; refine ⟨fun _ => ?_, hK _ ?_⟩; (first | exact HNA.out _ _ | exact HVA.out _ _); clear hK K))
      refine qw_nil ?_
      intro _ hw'
      obtain ⟨⟨dq, osq⟩, hw''⟩ := hw'
      subst hw''
      go_wp2_with fail
      go_meet
      case rel => exact ⟨by rw [HR.out], Ext.regrown _ _ _⟩
    cases vb with
    | false =>
      have HR : Hid (okk = true) := r0_no (b := true) HOK.out ((r0_of rfl rfl rfl HVB.out rfl).trans (by simp))
      refine qw_below (by kernel_rfl) (by kernel_rfl) ?_
      repeat (refine qw_step (fun K hK => ?_); go_simp; first | (refine hK _ ?_; clear hK K) | (apply Exists.intro; refine ⟨fun _ => ?_, hK _ ?_⟩; (first | exact HNA.out _ _ | exact HVA.out _ _); clear hK K))
      refine qw_nil ?_
      intro _ hw'
      obtain ⟨⟨dq, osq⟩, hw''⟩ := hw'
      subst hw''
      go_wp2_with fail
      go_meet
      case rel => exact ⟨by rw [HR.out], Ext.regrown _ _ _⟩
    | true =>
    have HIO : Hid (∀ e : Bool, (decide (k = 0) || ltB (l.getD (k - 1) zRw).path path) = e → mayR0 l k ⟨path, mode, id⟩ = e) := fun e he => (r0_of HNB.out (decide_eq_true (by dsimp only; omega)) (decide_eq_true (by dsimp only; omega)) HVB.out he).trans (by simp)
    by_cases hk0 : k = 0
    · have HR : Hid (okk = false) := r0_yes HOK.out (HIO.out true (by rw [hk0]; rfl))
      subst hk0
     
      refine qw_below (by kernel_rfl) (by kernel_rfl) ?_
      repeat (refine qw_step (fun K hK => ?_); go_simp; first | (refine hK _ ?_; clear hK K) | (apply Exists.intro; refine ⟨fun _ => ?_, hK _ ?_⟩; (first | exact HNA.out _ _ | exact HVA.out _ _); clear hK K))
      refine qw_nil ?_
      intro _ hw'
      obtain ⟨⟨dq, osq⟩, hw''⟩ := hw'
      subst hw''
      go_wp2_with fail
      go_meet
      case rel => exact ⟨by rw [HR.out], Ext.regrown _ _ _⟩
    · obtain ⟨j, rfl⟩ : ∃ j, k = j + 1 := ⟨k - 1, by omega⟩
      have hwj : IntKind.i64.wrap (((j + 1 : Nat) : Int) - 1) = (j : Int) := by rw [IntWalk.i64_in _ (by omega)]; omega
      have y3 := HP4.out j rfl
      obtain ⟨z, hz⟩ : ∃ z, (l.getD j zRw).path = z := ⟨_, rfl⟩
      rw [hz] at y3
      have v3 := fun d os => cell_regrown y3 d os
      have hk1 : (0 : Int) < ((j + 1 : Nat) : Int) := by omega
      have hwj2 : IntKind.i64.wrap (j : Int) = (j : Int) := IntWalk.i64_in _ (by omega)
      have hk2 : (0 : Int) < (j : Int) + 1 := by omega
      have hjl : j < l.length := by omega
      have HZ : Hid _ := hz
      clear hz y3
      rcases leT_cases path z with ⟨hlt9, hb, he⟩ | ⟨hlt9, hb⟩ | ⟨hlt9, hb, he⟩
      · have HR : Hid (okk = false) := r0_yes HOK.out (HIO.out true (by rw [show j + 1 - 1 = j from rfl, HZ.out, hlt9]; simp))
        clear hlt9
        refine qw_below (by kernel_rfl) (by kernel_rfl) ?_
        repeat (refine qw_step (fun K hK => ?_); go_simp; first | (refine hK _ ?_; clear hK K) | (apply Exists.intro; refine ⟨fun _ => ?_, hK _ ?_⟩; (first | exact HNA.out _ _ | exact HVA.out _ _); clear hK K))
        refine qw_nil ?_
        intro _ hw'
        obtain ⟨⟨dq, osq⟩, hw''⟩ := hw'
        subst hw''
        go_wp2_with fail
        go_meet
        case rel => exact ⟨by rw [HR.out], Ext.regrown _ _ _⟩
      · have HR : Hid (okk = true) := r0_no (b := true) HOK.out (HIO.out false (by rw [show j + 1 - 1 = j from rfl, HZ.out, hlt9]; simp))
        clear hlt9
        refine qw_below (by kernel_rfl) (by kernel_rfl) ?_
        repeat (refine qw_step (fun K hK => ?_); go_simp; first | (refine hK _ ?_; clear hK K) | (apply Exists.intro; refine ⟨fun _ => ?_, hK _ ?_⟩; (first | exact HNA.out _ _ | exact HVA.out _ _); clear hK K))
        refine qw_nil ?_
        intro _ hw'
        obtain ⟨⟨dq, osq⟩, hw''⟩ := hw'
        subst hw''
        go_wp2_with fail
        go_meet
        case rel => exact ⟨by rw [HR.out], Ext.regrown _ _ _⟩
      · have HR : Hid (okk = true) := r0_no (b := true) HOK.out (HIO.out false (by rw [show j + 1 - 1 = j from rfl, HZ.out, hlt9]; simp))
        clear hlt9
        refine qw_below (by kernel_rfl) (by kernel_rfl) ?_
        repeat (refine qw_step (fun K hK => ?_); go_simp; first | (refine hK _ ?_; clear hK K) | (apply Exists.intro; refine ⟨fun _ => ?_, hK _ ?_⟩; (first | exact HNA.out _ _ | exact HVA.out _ _); clear hK K))
        refine qw_nil ?_
        intro _ hw'
        obtain ⟨⟨dq, osq⟩, hw''⟩ := hw'
        subst hw''
        go_wp2_with fail
        go_meet
        case rel => exact ⟨by rw [HR.out], Ext.regrown _ _ _⟩
  case rest =>
  obtain ⟨rfl, hxc⟩ := hcut
  have HXC : Hid (Ext w wc) := HX4.out.trans hxc
  have hbc := hxc.row HB4.out
  clear hxc
  cases okk with
  | true =>
    have HF : Hid (mayTab l = false) := tab_no0 HK.out (by rw [HOK.out]; rfl)
    go_wp2
    go_ret
    exact ⟨ret_b HF.out.symm, HXC.out⟩
  | false =>
  obtain ⟨z0, z1, z2⟩ := cellsAt3 hbc
  clear hbc z1 z2 v0 v1 v2 HNA HVA HP4
  have HRK : Hid (riseT ((l.take k).map (·.path))) := r0_rise (fun j x hj hx => by
    have h9 := HT.out j x hj hx
    unfold mayTRow at h9
    exact ((Bool.and_eq_true _ _).mp h9).1)
  go_wp2_with fail
  go_at_call 20
  refine (parents_any path _ (HE.out.ext HXC.out) (by omega)).mono ?_
  rintro e w5 ⟨⟨vP, rfl, hP⟩, hx5⟩
  obtain ⟨pa, pc, rfl, p1, p2, p3, hpg⟩ := hP.get
  have HPG : Hid _ := hpg
  obtain ⟨P, hPP⟩ : ∃ P, parentsL path = P := ⟨_, rfl⟩
  have HPP : Hid _ := hPP
  rw [hPP] at HPG p1 p2 ⊢
  have HX5 : Hid (Ext w w5) := HXC.out.trans hx5
  clear hP hpg hPP hx5 z0
  go_wp2_with fail
  go_loopw [59] (fun i wq => ∃ j : Nat, j ≤ P.length ∧ i = .int .i64 j ∧ Hid (∀ p ∈ P.take j, hasR (l.take k) p = false) ∧ Hid (Ext w5 wq)) (fun i _ => P.length - (intOf i).toNat)
  case atStart => exact ⟨0, Nat.zero_le _, rfl, fun p hp => by simp at hp, Ext.refl _⟩
  case round =>
  obtain ⟨j, hj, rfl, HZ, HX⟩ := hrel
  by_cases hjl : j < P.length
  case neg =>
    have HTX : Hid (∀ i x, i < k + 1 → l[i]? = some x → mayTRow l i x = true) := fun i x hi hx => by
      by_cases hik : i = k
      · subst hik
        rw [HK.out] at hx
        cases hx
        unfold mayTRow
        rw [HOK.out, Bool.not_false, Bool.true_and, HPP.out, List.all_eq_true]
        have h9 := HZ.out
        rw [List.take_of_length_le (by omega)] at h9
        exact fun p hp => by simp [h9 p hp]
      · exact HT.out i x (by omega) hx
    have HXR : Hid (Ext w wr) := HX5.out.trans HX.out
    go_wp2_with fail
    go_roundw
    case rel => exact ⟨k + 1, by omega, by go_num, HTX, HXR⟩
    case measure => simp [intOf]; omega
  obtain ⟨pb, po, rfl, hpc⟩ := HPG.out j hjl
  have u1 := HX.out.cell (hpc j hjl)
  obtain ⟨p, hp⟩ : ∃ p, P[j]? = some p := ⟨_, List.getElem?_eq_getElem hjl⟩
  rw [show P.getD j [] = p by rw [List.getD_eq_getElem?_getD, hp]; rfl] at u1
  have HPJ : Hid _ := hp
  obtain ⟨hb, hhb⟩ : ∃ q, hasR (l.take k) p = q := ⟨_, rfl⟩
  have HHB : Hid _ := hhb
  have hkc : k ≤ c := by omega
  have hrg := tfind_any _ (l.take k) p wr ((HV.out.ext (HX5.out.trans HX.out)).take (by omega)) (by rw [List.length_take]; omega) HRK.out
  rw [hhb] at hrg
  have HRG : Hid _ := hrg
  clear hpc hp hhb hrg
  go_wp2_with fail
  go_at_call 21
  refine Calls.mono HRG.out ?_
  rintro e w6 ⟨⟨ix, rfl⟩, hx6⟩
  have HX6 : Hid (Ext w5 w6) := HX.out.trans hx6
  clear hx6 u1
  cases hb with
  | false =>
    have HZX : Hid (∀ p ∈ P.take (j + 1), hasR (l.take k) p = false) := fun q hq => by
      rw [take_snocR HPJ.out] at hq
      rcases List.mem_append.1 hq with hq | hq
      · exact HZ.out q hq
      · obtain rfl : q = p := by simpa using hq
        exact HHB.out
    go_wp2
    go_roundw
    case rel => exact ⟨j + 1, by omega, by go_num, HZX, HX6⟩
    case measure => simp [intOf]; omega
  | true =>
    have HF : Hid (mayTab l = false) := tab_noP HK.out (by rw [HPP.out]; exact List.mem_of_getElem? HPJ.out) HHB.out
    go_wp2
    go_ret
    exact ⟨ret_b HF.out.symm, HX5.out.trans HX6.out⟩

end Go.Proofs.YtalpfoomkhhgnaaGreatDoor

/-! three: what its parts answer, in plain Lean. Conditions: as each theorem states. -/
namespace Go.Proofs.YtalpfoomkhhgnaaGreatDoor
open Go Go.RowKit

abbrev En := Int × B8
def fiE (e : En) : Fi := ⟨e.1, e.2, 0⟩
def enL (m : Files) (p : B8) : En := match look m p with
  | some f => (f.mode, f.data)
  | none => (0, [])
def byP (l : List Rw) : Files := l.foldl (fun m r => putF m r.path (fiE (r.mode, r.id))) []
def hasE (m : Files) (p : B8) : Bool := (look m p).isSome
def txtE (e : En) : Bool := decide (e.1 = 1) || decide (e.1 = 2)
def grE (a b : En) : Bool := ltB b.2 a.2 || ((a.2 == b.2) && decide (b.1 < a.1))
def fightE (a b : En) : En × En := if grE a b = true then (a, b) else (b, a)
def modeE (o a b : En) : Int :=
  if (a.1 = 2 ∧ b.1 = 2) ∨ ((a.1 = 2 ∨ b.1 = 2) ∧ o.1 ≠ 2) then 2 else 1
def pickE (o a b : En) : En × Int :=
  if a = b then (a, 1) else if o = a then (b, 2) else if o = b then (a, 2) else if a.1 = 0 then (b, 4) else if b.1 = 0 then (a, 4)
  else if (txtE o && (txtE a && txtE b)) = true then ((modeE o a b, []), 3) else ((fightE a b).1, 5)
/-- A merge under way. -/
structure Mg where
  out : Files
  copies : List Rw
  notes : List (B8 × Int)
def fightsE (s : Mg) (p : B8) (a b : En) : Mg := ⟨putF s.out p (fiE (fightE a b).1), s.copies ++ [⟨p, (fightE a b).2.1, (fightE a b).2.2⟩], s.notes ++ [(p, 1)]⟩
def pathE (o a b : Files) (s : Mg) (p : B8) : Mg :=
  if (pickE (enL o p) (enL a p) (enL b p)).2 = 5 then fightsE s p (enL a p) (enL b p)
  else ⟨if (pickE (enL o p) (enL a p) (enL b p)).1.1 = 0 then s.out else putF s.out p (fiE (pickE (enL o p) (enL a p) (enL b p)).1), s.copies,
    if (pickE (enL o p) (enL a p) (enL b p)).2 = 4 then s.notes ++ [(p, 2)] else s.notes⟩
def undE (out : Files) (p : B8) : Bool := out.any fun e => isUnder p e.1
def freeE (o a b out : Files) (p : B8) : Bool :=
  (pathB (dirW ++ p) && !(hasE out p || (hasE o p || (hasE a p || (hasE b p || undE out p))))) && (parentsL p).all fun q => !hasE out q
def copyE (p id : B8) (n : Nat) : B8 := p ++ [126] ++ id.take 8 ++ List.replicate n 126
/-- k names are left to be tried. -/
def placeE (o a b out : Files) (r : Rw) : Nat → Option Files
  | 0 => none
  | k + 1 => if freeE o a b out (copyE r.path r.id (20 - k)) = true then some (putF out (copyE r.path r.id (20 - k)) (fiE (r.mode, r.id))) else placeE o a b out r k
def copiesE (o a b : Files) : List Rw → Files → Option Files
  | [], out => some out
  | r :: l, out => match placeE o a b out r 21 with
    | none => none
    | some out' => copiesE o a b l out'
def movesE (o a b : Files) : List Rw → Files → List (B8 × Int) → Option (Files × List (B8 × Int))
  | [], out, n => some (out, n)
  | r :: l, out, n => if undE out r.path = true then (match placeE o a b (delF out r.path) r 21 with
    | none => none
    | some out' => movesE o a b l out' (n ++ [(r.path, 3)])) else movesE o a b l out n
def rowsE (out : Files) : List Rw := out.map fun e => ⟨e.1, e.2.mode, e.2.data⟩
def limE (y : Option (Files × List (B8 × Int))) : Option (Files × List (B8 × Int)) := match y with
  | none => none
  | some x => if x.1.length > 256 then none else some x
def thenE (o a b : Files) (n : List (B8 × Int)) (c : Option Files) : Option (Files × List (B8 × Int)) := match c with
  | none => none
  | some out => limE (movesE o a b (rowsE out) out n)
def pathsE (o a b : Files) (paths : List B8) : Mg := paths.foldl (pathE o a b) ⟨[], [], []⟩
/-- What stands at all paths, and the notes as they came; none: it can't be. -/
def allE (o a b : Files) (paths : List B8) : Option (Files × List (B8 × Int)) :=
  thenE o a b (pathsE o a b paths).notes (copiesE o a b (pathsE o a b paths).copies (pathsE o a b paths).out)
/-- Is it, of each path, decided without a text's merge? -/
def NoText (o a b : List Rw) : Prop := ∀ p, (pickE (entG o p) (entG a p) (entG b p)).2 ≠ 3

theorem enL_put (m : Files) (p q : B8) (f : Fi) : enL (putF m p f) q = if q = p then (f.mode, f.data) else enL m q := by
  unfold enL
  by_cases h : q = p
  · subst h
    rw [if_pos rfl, look_putF_same]
  · rw [if_neg h, look_putF_ne (fun e => h e.symm)]
theorem enL_byP_gen : ∀ (l : List Rw) (m : Files) (p : B8), RiseR l → enL (l.foldl (fun m r => putF m r.path (fiE (r.mode, r.id))) m) p = if (∃ r ∈ l, r.path = p) then entG l p else enL m p
  | [], m, p, _ => by rw [if_neg (by rintro ⟨r, hr, -⟩; cases hr)]; rfl
  | r :: l, m, p, h => by
    have h' := List.pairwise_cons.1 h
    rw [List.foldl_cons, enL_byP_gen l _ p h'.2, enL_put]
    have hg : entG (r :: l) p = if r.path = p then (r.mode, r.id) else entG l p := by
      unfold entG
      rw [List.find?_cons]
      by_cases hr : r.path = p
      · rw [if_pos hr, show (r.path == p) = true by simpa using hr]
      · rw [if_neg hr, show (r.path == p) = false by simpa using hr]
    by_cases h1 : ∃ x ∈ l, x.path = p
    · obtain ⟨x, hx, hxp⟩ := h1
      have hne : r.path ≠ p := fun he => lt_ne (h'.1 x hx) (he.trans hxp.symm)
      rw [if_pos ⟨x, hx, hxp⟩, if_pos ⟨x, List.mem_cons_of_mem _ hx, hxp⟩, hg, if_neg hne]
    · rw [if_neg h1]
      by_cases hr : r.path = p
      · rw [if_pos hr.symm, if_pos ⟨r, List.mem_cons_self, hr⟩, hg, if_pos hr]
        rfl
      · rw [if_neg (fun e => hr e.symm), if_neg]
        rintro ⟨x, hx, hxp⟩
        rcases List.mem_cons.1 hx with rfl | hx
        · exact hr hxp
        · exact h1 ⟨x, hx, hxp⟩
theorem enL_byP {l : List Rw} (h : RiseR l) (p : B8) : enL (byP l) p = entG l p := by
  unfold byP
  rw [enL_byP_gen l [] p h]
  by_cases h1 : ∃ r ∈ l, r.path = p
  · rw [if_pos h1]
  · rw [if_neg h1]
    have := entR_none (l := l) (p := p) (fun x hx he => h1 ⟨x, hx, he⟩)
    rw [this]
    rfl
theorem byP_snoc {l : List Rw} {k : Nat} {x : Rw} (h : l[k]? = some x) : byP (l.take (k + 1)) = putF (byP (l.take k)) x.path (fiE (x.mode, x.id)) := by
  unfold byP
  rw [take_snocR h, List.foldl_append]
  rfl
theorem byP_len (l : List Rw) : (byP l).length ≤ l.length := by
  have h : ∀ (l : List Rw) (m : Files), (l.foldl (fun m r => putF m r.path (fiE (r.mode, r.id))) m).length ≤ m.length + l.length := by
    intro l
    induction l with
    | nil => intro m; exact Nat.le_refl _
    | cons r l ih =>
      intro m
      have h1 := ih (putF m r.path (fiE (r.mode, r.id)))
      have h2 := putF_length m r.path (fiE (r.mode, r.id))
      rw [List.foldl_cons, List.length_cons]
      omega
  have := h l []
  rw [List.length_nil, Nat.zero_add] at this
  exact this
theorem placeE_len (o a b : Files) (r : Rw) : ∀ (k : Nat) (out out' : Files), placeE o a b out r k = some out' → out'.length ≤ out.length + 1
  | 0, out, out', h => by cases h
  | k + 1, out, out', h => by
    unfold placeE at h
    split at h
    · cases h; exact putF_length _ _ _
    · exact placeE_len o a b r k out out' h
end Go.Proofs.YtalpfoomkhhgnaaGreatDoor

/-! Ranges exchanged, turned round, two sorted ranges merged in place: in plain Lean. Conditions: as each theorem states. -/
namespace Go.Proofs.YtalpfoomkhhgnaaGreatDoor
open Go Go.Sort
section
variable {α : Type} [Inhabited α] {lt : α → α → Bool}

/-- Two ranges exchanged. -/
def swpR (d : Array α) (a b : Nat) : Nat → Array α
  | 0 => d
  | n + 1 => swp (swpR d a b n) (a + n) (b + n)
theorem swpR_size (d : Array α) (a b : Nat) : ∀ n, (swpR d a b n).size = d.size
  | 0 => rfl
  | n + 1 => by rw [swpR, size_swp, swpR_size d a b n]
theorem swpR_get (d : Array α) (a b : Nat) : ∀ n, a + n ≤ b → b + n ≤ d.size → ∀ k, (swpR d a b n)[k]! = if a ≤ k ∧ k < a + n then d[k + (b - a)]! else if b ≤ k ∧ k < b + n then d[k - (b - a)]! else d[k]!
  | 0, _, _, k => by
    rw [if_neg (by omega), if_neg (by omega)]
    rfl
  | n + 1, h1, h2, k => by
    have ih := swpR_get d a b n (by omega) (by omega)
    rw [swpR, swp_get _ (by rw [swpR_size]; omega) (by rw [swpR_size]; omega)]
    by_cases hk : k = b + n
    · rw [if_pos hk, ih, if_neg (by omega), if_neg (by omega), if_neg (by omega), if_pos (by omega), hk]
      congr 1; omega
    · rw [if_neg hk]
      by_cases hk2 : k = a + n
      · rw [if_pos hk2, ih, if_neg (by omega), if_neg (by omega), if_pos (by omega), hk2]
        congr 1; omega
      · rw [if_neg hk2, ih]
        by_cases c1 : a ≤ k ∧ k < a + n
        · rw [if_pos c1, if_pos (by omega)]
        · rw [if_neg c1, if_neg (show ¬ (a ≤ k ∧ k < a + (n + 1)) by omega)]
          by_cases c2 : b ≤ k ∧ k < b + n
          · rw [if_pos c2, if_pos (by omega)]
          · rw [if_neg c2, if_neg (by omega)]
theorem swpR_perm (d : Array α) {lo hi a b : Nat} : ∀ n, lo ≤ a → a + n ≤ b → b + n ≤ hi → hi ≤ d.size → PermIn lo hi d (swpR d a b n)
  | 0, _, _, _, _ => permIn_refl _ _ _
  | n + 1, h0, h1, h2, h3 => permIn_trans _ _ _ _ _ (swpR_perm d n h0 (by omega) (by omega) h3) (swp_permIn _ _ _ _ _ (by omega) (by omega) (by omega) (by omega) (by rw [swpR_size]; exact h3))

/-- d' is d with the ranges [a, m) and [m, b) in each other's place. -/
def RotOf (d : Array α) (a m b : Nat) (d' : Array α) : Prop :=
  ∀ k, d'[k]! = if a ≤ k ∧ k < a + (b - m) then d[k + (m - a)]! else if a + (b - m) ≤ k ∧ k < b then d[k - (b - m)]! else d[k]!
theorem rot_nilL (d : Array α) (m b : Nat) : RotOf d m m b d := fun k => by
  by_cases h1 : m ≤ k ∧ k < m + (b - m)
  · rw [if_pos h1]; congr 1; omega
  · rw [if_neg h1, if_neg (by omega)]
theorem rot_nilR (d : Array α) (a m : Nat) : RotOf d a m m d := fun k => by
  rw [if_neg (by omega)]
  by_cases h1 : a + (m - m) ≤ k ∧ k < m
  · rw [if_pos h1]; congr 1; omega
  · rw [if_neg h1]
theorem rot_end (d : Array α) {m i : Nat} (hi : i ≤ m) (hb : m + i ≤ d.size) : RotOf d (m - i) m (m + i) (swpR d (m - i) m i) := fun k => by
  rw [swpR_get d _ _ _ (by omega) hb]
  by_cases h1 : m - i ≤ k ∧ k < m - i + i
  · rw [if_pos h1, if_pos (by omega)]
  · rw [if_neg h1, if_neg (show ¬ (m - i ≤ k ∧ k < m - i + (m + i - m)) by omega)]
    by_cases h2 : m ≤ k ∧ k < m + i
    · rw [if_pos h2, if_pos (by omega)]; congr 1; omega
    · rw [if_neg h2, if_neg (by omega)]
theorem rot_left {d d' : Array α} {m i j : Nat} (hi : i ≤ m) (hij : j < i) (hb : m + j ≤ d.size) (h : RotOf (swpR d (m - i) m j) (m - (i - j)) m (m + j) d') : RotOf d (m - i) m (m + j) d' := fun k => by
  have g := swpR_get d (m - i) m j (by omega) hb
  rw [h k]
  by_cases h1 : m - i ≤ k ∧ k < m - i + (m + j - m)
  · rw [if_neg (by omega), if_neg (by omega), g, if_pos (by omega), if_pos h1]
  · rw [if_neg h1]
    by_cases h2 : m - i + (m + j - m) ≤ k ∧ k < m + j
    · rw [if_pos h2]
      by_cases h3 : m - (i - j) ≤ k ∧ k < m - (i - j) + (m + j - m)
      · rw [if_pos h3, g, if_neg (by omega), if_pos (by omega)]; congr 1; omega
      · rw [if_neg h3, if_pos (by omega), g, if_neg (by omega), if_neg (by omega)]
    · rw [if_neg h2, if_neg (by omega), if_neg (by omega), g, if_neg (by omega), if_neg (by omega)]
theorem rot_right {d d' : Array α} {m i j : Nat} (hi : i ≤ m) (hij : i < j) (hb : m + j ≤ d.size) (h : RotOf (swpR d (m - i) (m + j - i) i) (m - i) m (m + (j - i)) d') : RotOf d (m - i) m (m + j) d' := fun k => by
  have g := swpR_get d (m - i) (m + j - i) i (by omega) (by omega)
  rw [h k]
  by_cases h1 : m - i ≤ k ∧ k < m - i + (m + j - m)
  · rw [if_pos h1]
    by_cases h2 : m - i ≤ k ∧ k < m - i + (m + (j - i) - m)
    · rw [if_pos h2, g, if_neg (by omega), if_neg (by omega)]
    · rw [if_neg h2, if_pos (by omega), g, if_pos (by omega)]; congr 1; omega
  · rw [if_neg h1]
    by_cases h2 : m - i + (m + j - m) ≤ k ∧ k < m + j
    · rw [if_pos h2, if_neg (by omega), if_neg (by omega), g, if_neg (by omega), if_pos (by omega)]; congr 1; omega
    · rw [if_neg h2, if_neg (by omega), if_neg (by omega), g, if_neg (by omega), if_neg (by omega)]
/-- One more of the second range ahead of a first range of one. -/
theorem rot_up {d dk : Array α} {a k : Nat} (h : RotOf d a (a + 1) (k + 1) dk) (hak : a ≤ k) (hs : k + 1 < dk.size) : RotOf d a (a + 1) (k + 2) (swp dk k (k + 1)) := fun q => by
  rw [swp_get _ (by omega) hs]
  by_cases h1 : q = k + 1
  · rw [if_pos h1, h k, if_neg (by omega), if_neg (show ¬ (a ≤ q ∧ q < a + (k + 2 - (a + 1))) by omega), if_pos (show a + (k + 2 - (a + 1)) ≤ q ∧ q < k + 2 by omega), if_pos (by omega)]
    congr 1; omega
  · rw [if_neg h1]
    by_cases h2 : q = k
    · rw [if_pos h2, h (k + 1), if_neg (by omega), if_neg (by omega), if_pos (by omega), h2]; congr 1; omega
    · rw [if_neg h2, h q]
      by_cases h3 : a ≤ q ∧ q < a + (k + 1 - (a + 1))
      · rw [if_pos h3, if_pos (by omega)]
      · rw [if_neg h3, if_neg (by omega), if_neg (by omega), if_neg (by omega)]
/-- One more of the first range behind a second range of one. -/
theorem rot_down {d dk : Array α} {m k : Nat} (h : RotOf d (k + 1) m (m + 1) dk) (hkm : k < m) (hs : k + 1 < dk.size) : RotOf d k m (m + 1) (swp dk (k + 1) k) := fun q => by
  rw [swp_get _ hs (by omega)]
  by_cases h1 : q = k
  · rw [if_pos h1, h (k + 1), if_pos (by omega), if_pos (by omega), h1]; congr 1; omega
  · rw [if_neg h1]
    by_cases h2 : q = k + 1
    · rw [if_pos h2, h k, if_neg (by omega), if_neg (by omega), if_neg (show ¬ (k ≤ q ∧ q < k + (m + 1 - m)) by omega), if_pos (by omega), h2]; congr 1; omega
    · rw [if_neg h2, h q]
      by_cases h3 : k + 1 + (m + 1 - m) ≤ q ∧ q < m + 1
      · rw [if_neg (by omega), if_pos h3, if_neg (by omega), if_pos (by omega)]
      · rw [if_neg (by omega), if_neg h3, if_neg (by omega), if_neg (by omega)]

/-! ### Sorted ranges -/
theorem sorted_le {a b i j : Nat} {d : Array α} (h : SortedIn lt a b d) (hS : SWO lt) (hi : a ≤ i) (hij : i ≤ j) (hj : j < b) : lt d[j]! d[i]! = false := by
  rcases Nat.lt_or_ge i j with hl | hl
  · exact h i j hi hl hj
  · obtain rfl : i = j := by omega
    exact hS.irrefl _
theorem sorted_nil {a b : Nat} (d : Array α) (h : b ≤ a + 1) : SortedIn lt a b d := fun i j h1 h2 h3 => by omega
theorem sorted_congr {a b : Nat} {d d' : Array α} (h : SortedIn lt a b d) (he : ∀ k, a ≤ k → k < b → d'[k]! = d[k]!) : SortedIn lt a b d' := fun i j h1 h2 h3 => by
  rw [he i h1 (by omega), he j (by omega) h3]
  exact h i j h1 h2 h3
theorem sorted_part {a b a' b' : Nat} {d : Array α} (h : SortedIn lt a b d) (h1 : a ≤ a') (h2 : b' ≤ b) : SortedIn lt a' b' d := fun i j g1 g2 g3 => h i j (by omega) g2 (by omega)
/-- Two sorted parts, nothing behind less than something ahead. -/
theorem join_sorted {a m b : Nat} {d d2 d3 : Array α} (hb : b ≤ d.size) (ham : a ≤ m) (hmb : m ≤ b) (p2 : PermIn a m d d2) (s2 : SortedIn lt a m d2) (p3 : PermIn m b d2 d3) (s3 : SortedIn lt m b d3)
    (hx : ∀ i j, a ≤ i → i < m → m ≤ j → j < b → lt d[j]! d[i]! = false) : PermIn a b d d3 ∧ SortedIn lt a b d3 := by
  have hs2 : d2.size = d.size := p2.1
  have q2 := permIn_mono d d2 a m a b (Nat.le_refl _) hmb hb p2
  have q3 := permIn_mono d2 d3 m b a b ham (Nat.le_refl _) (by omega) p3
  refine ⟨permIn_trans _ _ _ _ _ q2 q3, fun i j h1 h2 h3 => ?_⟩
  have e3 : ∀ k, k < m → d3[k]! = d2[k]! := fun k hk => p3.2.1 k (.inl hk)
  have e2 : ∀ k, m ≤ k → d2[k]! = d[k]! := fun k hk => p2.2.1 k (.inr hk)
  rcases Nat.lt_or_ge j m with hj | hj
  · rw [e3 i (by omega), e3 j hj]
    exact s2 i j h1 h2 hj
  · rcases Nat.lt_or_ge i m with hi | hi
    · have x1 : ∀ k, m ≤ k → k < b → lt d3[k]! d3[i]! = false := by
        refine permIn_all d2 d3 m b (fun x => lt x d3[i]! = false) (by omega) p3 (fun k h1 h2 => ?_)
        show lt d2[k]! d3[i]! = false
        rw [e3 i hi, e2 k h1]
        refine permIn_all d d2 a m (fun x => lt d[k]! x = false) (by omega) p2 (fun q h3 h4 => hx q k h3 h4 h1 h2) i (by omega) hi
      exact x1 j hj h3
    · exact s3 i j hi h2 h3

/-- What the search tells: where the ranges are cut. -/
structure Cut (lt : α → α → Bool) (d : Array α) (a m b s e : Nat) : Prop where
  out : ∀ i j, a ≤ i → i < s → e ≤ j → j < b → lt d[j]! d[i]! = false
  inn : ∀ i j, s ≤ i → i < m → m ≤ j → j < e → lt d[i]! d[j]! = false
theorem cut_search (hS : SWO lt) {d : Array α} {a m b s lo hi n : Nat} (h1 : SortedIn lt a m d) (h2 : SortedIn lt m b d) (hs1 : lo ≤ s) (hs2 : s ≤ hi) (hlo : (lo = a ∧ hi = m ∧ n ≤ b + a ∧ 2 * m ≤ n) ∨ (lo + b = n ∧ hi + m = n ∧ hi ≤ m ∧ a ≤ lo))
    (hL : lo < s → lt d[n - 1 - (s - 1)]! d[s - 1]! = false) (hR : s < hi → lt d[n - 1 - s]! d[s]! = true) : Cut lt d a m b s (n - s) := by
  refine ⟨fun i j g1 g2 g3 g4 => ?_, fun i j g1 g2 g3 g4 => ?_⟩
  · by_cases hls : lo < s
    · have hx := hL hls
      rw [show n - 1 - (s - 1) = n - s by omega] at hx
      have e1 : lt d[j]! d[n - s]! = false := sorted_le h2 hS (by omega) g3 g4
      have e2 : lt d[s - 1]! d[i]! = false := sorted_le h1 hS g1 (by omega) (by omega)
      exact hS.ntrans _ _ _ e1 (hS.ntrans _ _ _ hx e2)
    · exfalso; omega
  · by_cases hsh : s < hi
    · have hx := hS.asymmA (hR hsh)
      rw [show n - 1 - s = n - s - 1 by omega] at hx
      have e1 : lt d[i]! d[s]! = false := sorted_le h1 hS (by omega) g1 g2
      have e2 : lt d[n - s - 1]! d[j]! = false := sorted_le h2 hS g3 (by omega) (by omega)
      exact hS.ntrans _ _ _ e1 (hS.ntrans _ _ _ hx e2)
    · exfalso; omega
/-- The ranges cut and turned: four sorted runs, the first two before the last two. -/
theorem cut_turn {d d1 : Array α} {a m b s e mid : Nat} (h1 : SortedIn lt a m d) (h2 : SortedIn lt m b d) (hr : RotOf d s m e d1) (has : a ≤ s) (hsm : s ≤ m) (hme : m ≤ e) (heb : e ≤ b) (hmid : mid = s + (e - m)) (hc : Cut lt d a m b s e) :
    SortedIn lt a s d1 ∧ SortedIn lt s mid d1 ∧ SortedIn lt mid e d1 ∧ SortedIn lt e b d1 ∧ ∀ i j, a ≤ i → i < mid → mid ≤ j → j < b → lt d1[j]! d1[i]! = false := by
  have k1 : ∀ k, k < s → d1[k]! = d[k]! := fun k hk => by rw [hr k, if_neg (by omega), if_neg (by omega)]
  have k2 : ∀ k, s ≤ k → k < mid → d1[k]! = d[k + (m - s)]! := fun k g1 g2 => by rw [hr k, if_pos (by omega)]
  have k3 : ∀ k, mid ≤ k → k < e → d1[k]! = d[k - (e - m)]! := fun k g1 g2 => by rw [hr k, if_neg (by omega), if_pos (by omega)]
  have k4 : ∀ k, e ≤ k → d1[k]! = d[k]! := fun k hk => by rw [hr k, if_neg (by omega), if_neg (by omega)]
  refine ⟨fun i j g1 g2 g3 => ?_, fun i j g1 g2 g3 => ?_, fun i j g1 g2 g3 => ?_, fun i j g1 g2 g3 => ?_, fun i j g1 g2 g3 g4 => ?_⟩
  · rw [k1 i (by omega), k1 j g3]; exact h1 i j g1 g2 (by omega)
  · rw [k2 i g1 (by omega), k2 j (by omega) g3]; exact h2 _ _ (by omega) (by omega) (by omega)
  · rw [k3 i g1 (by omega), k3 j (by omega) g3]; exact h1 _ _ (by omega) (by omega) (by omega)
  · rw [k4 i g1, k4 j (by omega)]; exact h2 i j (by omega) g2 g3
  · rcases Nat.lt_or_ge i s with hi | hi
    · rw [k1 i hi]
      rcases Nat.lt_or_ge j e with hj | hj
      · rw [k3 j g3 hj]; exact h1 _ _ g1 (by omega) (by omega)
      · rw [k4 j hj]; exact hc.out i j g1 hi hj g4
    · rw [k2 i hi g2]
      rcases Nat.lt_or_ge j e with hj | hj
      · rw [k3 j g3 hj]; exact hc.inn _ _ (by omega) (by omega) (by omega) (by omega)
      · rw [k4 j hj]; exact h2 _ _ (by omega) (by omega) g4
/-- A first range of one, laid into the second. -/
theorem one_left (hS : SWO lt) {d d1 : Array α} {a b i : Nat} (h2 : SortedIn lt (a + 1) b d) (hi1 : a + 1 ≤ i) (hi2 : i ≤ b) (hr : RotOf d a (a + 1) i d1)
    (hL : a + 1 < i → lt d[i - 1]! d[a]! = true) (hR : i < b → lt d[i]! d[a]! = false) : SortedIn lt a b d1 := by
  have hc : Cut lt d a (a + 1) b a i := by
    refine ⟨fun x j g1 g2 g3 g4 => by omega, fun x j g1 g2 g3 g4 => ?_⟩
    obtain rfl : x = a := by omega
    exact hS.ntrans _ _ _ (hS.asymmA (hL (by omega))) (sorted_le h2 hS g3 (by omega) (by omega))
  obtain ⟨-, q2, q3, q4, q5⟩ := cut_turn (mid := a + (i - (a + 1))) (sorted_nil d (Nat.le_refl _)) h2 hr (Nat.le_refl _) (by omega) hi1 hi2 rfl hc
  intro x y g1 g2 g3
  rcases Nat.lt_or_ge y (a + (i - (a + 1))) with hy | hy
  · exact q2 x y g1 g2 hy
  · rcases Nat.lt_or_ge x (a + (i - (a + 1))) with hx | hx
    · exact q5 x y g1 hx hy g3
    · have e1 : d1[x]! = if x = a + (i - (a + 1)) then d[a]! else d[x]! := by
        by_cases hxx : x = a + (i - (a + 1))
        · rw [if_pos hxx, hr x, if_neg (by omega), if_pos (by omega)]; congr 1; omega
        · rw [if_neg hxx, hr x, if_neg (by omega), if_neg (by omega)]
      have e2 : d1[y]! = d[y]! := by rw [hr y, if_neg (by omega), if_neg (by omega)]
      rw [e1, e2]
      by_cases hxx : x = a + (i - (a + 1))
      · rw [if_pos hxx]
        exact hS.ntrans _ _ _ (sorted_le h2 hS (by omega) (show i ≤ y by omega) g3) (hR (by omega))
      · rw [if_neg hxx]
        exact h2 _ _ (by omega) g2 g3
/-- A second range of one, laid into the first. -/
theorem one_right (hS : SWO lt) {d d1 : Array α} {a m i : Nat} (h1 : SortedIn lt a m d) (hi1 : a ≤ i) (hi2 : i ≤ m) (hr : RotOf d i m (m + 1) d1)
    (hL : a < i → lt d[m]! d[i - 1]! = false) (hR : i < m → lt d[m]! d[i]! = true) : SortedIn lt a (m + 1) d1 := by
  intro x y g1 g2 g3
  have e0 : ∀ k, k < i → d1[k]! = d[k]! := fun k hk => by rw [hr k, if_neg (by omega), if_neg (by omega)]
  have e1 : d1[i]! = d[m]! := by rw [hr i, if_pos (by omega)]; congr 1; omega
  have e2 : ∀ k, i < k → k < m + 1 → d1[k]! = d[k - 1]! := fun k h1 h2 => by rw [hr k, if_neg (by omega), if_pos (by omega)]; congr 1; omega
  rcases Nat.lt_or_ge y i with hy | hy
  · rw [e0 x (by omega), e0 y hy]; exact h1 x y g1 g2 (by omega)
  · rcases Nat.lt_or_ge i y with hy2 | hy2
    · rw [e2 y hy2 g3]
      rcases Nat.lt_or_ge x i with hx | hx
      · rw [e0 x hx]; exact h1 _ _ g1 (by omega) (by omega)
      · rcases Nat.lt_or_ge i x with hx2 | hx2
        · rw [e2 x hx2 (by omega)]; exact h1 _ _ (by omega) (by omega) (by omega)
        · obtain rfl : x = i := by omega
          rw [e1]
          have := hS.asymmA (hR (by omega))
          exact hS.ntrans _ _ _ (sorted_le h1 hS hi1 (show x ≤ y - 1 by omega) (by omega)) this
    · obtain rfl : y = i := by omega
      rw [e1, e0 x g2]
      exact hS.ntrans _ _ _ (hL (by omega)) (sorted_le h1 hS g1 (by omega) (by omega))

/-! ### Runs of one length -/
/-- From a on, runs of s (the last one: up to n) are sorted. -/
inductive Runs (lt : α → α → Bool) (s n : Nat) (d : Array α) : Nat → Prop
  | last {a : Nat} : n ≤ a + s → SortedIn lt a n d → Runs lt s n d a
  | more {a : Nat} : SortedIn lt a (a + s) d → Runs lt s n d (a + s) → Runs lt s n d a
theorem Runs.congr {s n a : Nat} {d d' : Array α} (h : Runs lt s n d a) (he : ∀ k, a ≤ k → k < n → d'[k]! = d[k]!) (hs : ∀ k, a ≤ k → n ≤ k → d'[k]! = d[k]!) : Runs lt s n d' a := by
  induction h with
  | last h1 h2 => exact .last h1 (sorted_congr h2 fun k g1 g2 => he k g1 g2)
  | more h1 _ ih =>
    refine .more (sorted_congr h1 fun k g1 g2 => ?_) (ih (fun k g1 g2 => he k (by omega) g2) (fun k g1 g2 => hs k (by omega) g2))
    rcases Nat.lt_or_ge k n with h | h
    · exact he k g1 h
    · exact hs k g1 h
theorem Runs.first {s n a : Nat} {d : Array α} (h : Runs lt s n d a) (hn : a + s ≤ n) : SortedIn lt a (a + s) d ∧ Runs lt s n d (a + s) := by
  cases h with
  | last h1 h2 =>
    obtain rfl : n = a + s := by omega
    exact ⟨h2, .last (by omega) (sorted_nil d (by omega))⟩
  | more h1 h2 => exact ⟨h1, h2⟩
theorem Runs.end {s n a : Nat} {d : Array α} (h : Runs lt s n d a) (hn : n ≤ a + s) : SortedIn lt a n d := by
  cases h with
  | last h1 h2 => exact h2
  | more h1 h2 => exact sorted_part h1 (Nat.le_refl _) hn
/-- What lies ahead of a is in runs of s already: with runs from a on there are runs from 0 on. -/
def Ahead (lt : α → α → Bool) (s n a : Nat) (d : Array α) : Prop := ∀ d' : Array α, (∀ k, k < a → d'[k]! = d[k]!) → Runs lt s n d' a → Runs lt s n d' 0
theorem Ahead.zero (s n : Nat) (d : Array α) : Ahead lt s n 0 d := fun _ _ h => h
theorem Ahead.step {s n a b : Nat} {d d1 : Array α} (h : Ahead lt s n a d) (hb : b = a + s) (he : ∀ k, k < a → d1[k]! = d[k]!) (hs : SortedIn lt a b d1) : Ahead lt s n b d1 := by
  subst hb
  intro d' h1 h2
  refine h d' (fun k hk => by rw [h1 k (by omega), he k hk]) (.more (sorted_congr hs fun k g1 g2 => h1 k g2) h2)
theorem Ahead.last {s n a : Nat} {d d1 : Array α} (h : Ahead lt s n a d) (hn : n ≤ a + s) (he : ∀ k, k < a → d1[k]! = d[k]!) (hs : SortedIn lt a n d1) : Runs lt s n d1 0 :=
  h d1 he (.last hn hs)
end
end Go.Proofs.YtalpfoomkhhgnaaGreatDoor

/-! slices.SortStableFunc's parts at a table's rows: two ranges exchanged. Conditions: as each theorem states. -/
namespace Go.Proofs.YtalpfoomkhhgnaaGreatDoor
open Go Go.Shelf Go.RowKit Go.Lib Go.Sort

/-- What the walks ask of a program: its types, its bodies. -/
structure StF (P : Program) (k : Nat) : Prop where
  mixed : P.follows .mixedOrders = true
  ti : P.underlying 3 = some (TypeDesc.int IntKind.i64)
  ai : ∀ w, (isAgg 3).run P w = .ok false w
  zi : ∀ w, (Go.sizeOf 3).run P w = .ok 1 w
  vi : ∀ w, (zeroValue 3).run P w = .ok (Value.int IntKind.i64 0) w
  tb : P.underlying 4 = some (TypeDesc.bool)
  ab : ∀ w, (isAgg 4).run P w = .ok false w
  zb : ∀ w, (Go.sizeOf 4).run P w = .ok 1 w
  vb : ∀ w, (zeroValue 4).run P w = .ok (Value.bool false) w
  ts : P.underlying 22 = some (TypeDesc.slice 30)
  asl : ∀ w, (isAgg 22).run P w = .ok false w
  zs : ∀ w, (Go.sizeOf 22).run P w = .ok 1 w
  ar : ∀ w, (isAgg 30).run P w = .ok true w
  zr : ∀ w, (Go.sizeOf 30).run P w = .ok k w
  eS : ∀ args w, (callFunc 203 args).run P w = .ok (.enter 203 args) w
  eR : ∀ args w, (callFunc 179 args).run P w = .ok (.enter 179 args) w
  fR : P.funcs[179]? = some Tryz.f179
  fS : P.funcs[203]? = some Tryz.f203
variable {P : Program} {α : Type} [Inhabited α]

set_option maxHeartbeats 8000000 in
set_option maxRecDepth 1000000 in
theorem swapRange_any (k : Nat) (L : StF P k) (enc : α → List Value) (g : Nat) (cb : Array Value) (blk off cap a b n : Nat) (d0 d : Array α) (w0 w : World)
    (R : RowK enc k w0 blk off d0) (hs : d0.size = d.size) (S : SWK enc k w0 blk off d w) (ha : a + n ≤ d.size) (hb : b + n ≤ d.size) (hsz : d.size < 4611686018427387904) :
    Calls P 203 #[.slice (some ⟨blk, off, none⟩) d.size cap, .int .i64 a, .int .i64 b, .int .i64 n, .func (.func g) #[] cb] w fun e w' => e = .returned (.tuple #[]) ∧ SWK enc k w0 blk off (swpR d a b n) w' := by
  have mixed := L.mixed; have ti := L.ti; have ai := L.ai; have zi := L.zi; have vi := L.vi; have tb := L.tb; have ab := L.ab; have zb := L.zb; have vb := L.vb; have ts := L.ts; have asl := L.asl; have zs := L.zs; have ar := L.ar; have zr := L.zr
  have FS := L.fS
  have S0 : Aside (SWK enc k w0 blk off d w) := S
  clear S L
  go_enter FS, Tryz.ntmps203
  go_wp2
  go_loopg [10] n (fun kx s8 wr => ∃ (i : Nat) (dk : Array α), s8 = .int .i64 i ∧ i ≤ n ∧ n - i ≤ kx ∧ dk.size = d.size ∧ Aside (SWK enc k w0 blk off dk wr) ∧ dk = swpR d a b i)
  case atStart => exact ⟨0, d, rfl, Nat.zero_le _, by omega, rfl, S0, rfl⟩
  case round =>
    clear S0
    obtain ⟨i, dk, rfl, hin, hkx, hds, S1, heq⟩ := hrel
    by_cases hlt : i < n
    · have hlz : (i : Int) < (n : Int) := by omega
      have eA : (((a : Int) + (i : Int))).toNat = a + i := by omega
      have pA : (0 : Int) ≤ (a : Int) + (i : Int) := by omega
      have bA : (a : Int) + (i : Int) < (d.size : Int) := by omega
      have rA : IntKind.i64.wrap ((a : Int) + (i : Int)) = (a : Int) + (i : Int) := by rw [IntKind.wrap_i64]; omega
      have eB : (((b : Int) + (i : Int))).toNat = b + i := by omega
      have pB : (0 : Int) ≤ (b : Int) + (i : Int) := by omega
      have bB : (b : Int) + (i : Int) < (d.size : Int) := by omega
      have rB : IntKind.i64.wrap ((b : Int) + (i : Int)) = (b : Int) + (i : Int) := by rw [IntKind.wrap_i64]; omega
      have S2 : Aside (SWK enc k w0 blk off (swp dk (a + i) (b + i)) ((wr.drew.setCells blk (off + (a + i) * k) (enc dk[b + i]!)).setCells blk (off + (b + i) * k) (enc dk[a + i]!))) := S1.out.swapped R (a + i) (b + i) (by omega) (by omega)
      have la := S1.out.ld1 R (by omega) P (a + i) (by omega)
      have lb := S1.out.ld1 R (by omega) P (b + i) (by omega)
      have sa := S1.out.st1 R (by omega) P (a + i) (by omega) dk[b + i]!
      have sb := S1.out.st2 R (by omega) P (a + i) (b + i) (by omega) (by omega) dk[b + i]! dk[a + i]!
      have nA : (enc dk[a + i]!).length = k := R.hk _
      have nB : (enc dk[b + i]!).length = k := R.hk _
      generalize enc dk[a + i]! = cA at S2 la sb nA
      generalize enc dk[b + i]! = cB at S2 lb sa sb nB
      clear S1
      go_wp2_with fail
      go_big_region_o
      clear la lb sa sb
      generalize (wr.drew.setCells blk (off + (a + i) * k) cB).setCells blk (off + (b + i) * k) cA = w2 at S2 ⊢
      go_wp2
      go_roundg (n - (i + 1))
      case measure => omega
      case rel => exact ⟨i + 1, swp dk (a + i) (b + i), by go_num, by omega, Nat.le_refl _, by rw [size_swp]; exact hds, S2, by rw [heq]; rfl⟩
    · obtain rfl : i = n := by omega
      go_wp2
      go_end0
      refine ⟨rfl, ?_⟩
      rw [← heq]
      exact S1.out

set_option maxHeartbeats 8000000 in
set_option maxRecDepth 1000000 in
theorem rotate_any (k : Nat) (L : StF P k) (enc : α → List Value) (g : Nat) (cb : Array Value) (blk off cap a m b : Nat) (d0 d : Array α) (w0 w : World)
    (R : RowK enc k w0 blk off d0) (hs : d0.size = d.size) (S : SWK enc k w0 blk off d w) (ham : a < m) (hmb : m < b) (hb : b ≤ d.size) (hsz : d.size < 4611686018427387904) :
    Calls P 179 #[.slice (some ⟨blk, off, none⟩) d.size cap, .int .i64 a, .int .i64 m, .int .i64 b, .func (.func g) #[] cb] w fun e w' => e = .returned (.tuple #[]) ∧ ∃ d', SWK enc k w0 blk off d' w' ∧ RotOf d a m b d' ∧ PermIn a b d d' := by
  have mixed := L.mixed; have ti := L.ti; have ai := L.ai; have zi := L.zi; have vi := L.vi; have tb := L.tb; have ab := L.ab; have zb := L.zb; have vb := L.vb; have ts := L.ts; have asl := L.asl; have zs := L.zs; have ar := L.ar; have zr := L.zr
  have eS := L.eS
  have FR := L.fR
  have HL : Aside (StF P k) := L
  have S0 : Aside (SWK enc k w0 blk off d w) := S
  have e1 : (m : Int) - (a : Int) = ((m - a : Nat) : Int) := by omega
  have e2 : (b : Int) - (m : Int) = ((b - m : Nat) : Int) := by omega
  have w1 : IntKind.i64.wrap ((m : Int) - (a : Int)) = ((m - a : Nat) : Int) := by rw [IntKind.wrap_i64]; omega
  have w2 : IntKind.i64.wrap ((b : Int) - (m : Int)) = ((b - m : Nat) : Int) := by rw [IntKind.wrap_i64]; omega
  clear S L
  go_enter FR, Tryz.ntmps179
  go_wp2
  go_loopg [10, 11] (b - a) (fun kx s1 s2 wr => ∃ (i j : Nat) (dk : Array α), s1 = .int .i64 i ∧ s2 = .int .i64 j ∧ 1 ≤ i ∧ 1 ≤ j ∧ i ≤ m - a ∧ j ≤ b - m ∧ i + j ≤ kx ∧ dk.size = d.size ∧ Aside (SWK enc k w0 blk off dk wr) ∧ Aside (∀ d', RotOf dk (m - i) m (m + j) d' → RotOf d a m b d') ∧ Aside (PermIn a b d dk))
  case atStart => exact ⟨m - a, b - m, d, rfl, rfl, by omega, by omega, Nat.le_refl _, Nat.le_refl _, by omega, rfl, S0, fun d' h => by rw [show m - (m - a) = a by omega, show m + (b - m) = b by omega] at h; exact h, permIn_refl _ _ _⟩
  case round =>
    clear S0 e1 e2 w1 w2
    obtain ⟨i, j, dk, rfl, rfl, hi1, hj1, hi, hj, hkx, hds, S1, H1, HP⟩ := hrel
    have c1 : (m : Int) - (i : Int) = ((m - i : Nat) : Int) := by omega
    have w1 : IntKind.i64.wrap ((m : Int) - (i : Int)) = ((m - i : Nat) : Int) := by rw [IntKind.wrap_i64]; omega
    have hbs : ∀ dk' : Array α, dk'.size = d.size → d0.size = dk'.size := fun dk' h => by omega
    by_cases hne : i = j
    · subst hne
      have hz : ((i : Int) == (i : Int)) = true := by simp
      have HC := swapRange_any (P := P) k HL.out enc g cb blk off cap (m - i) m i d0 dk w0 wr R (hbs _ hds) S1.out (by omega) (by omega) (by omega)
      rw [hds] at HC
      have HQ := rot_end dk (i := i) (m := m) (by omega) (by omega)
      have HPE : Aside (PermIn a b d (swpR dk (m - i) m i)) := permIn_trans _ _ _ _ _ HP.out (swpR_perm dk (lo := a) (hi := b) i (by omega) (by omega) (by omega) (by omega))
      have HQE : Aside (RotOf d a m b (swpR dk (m - i) m i)) := H1.out _ HQ
      clear HQ S1 H1 HP
      go_wp2_with (go_at_fn 203; refine HC.mono ?_; rintro e w3 ⟨rfl, hw3⟩)
      go_end0
      exact ⟨rfl, _, hw3, HQE.out, HPE.out⟩
    · have hz : ((i : Int) == (j : Int)) = false := by rw [beq_eq_false_iff_ne]; omega
      have hz2 : ¬ (i : Int) = (j : Int) := by omega
      by_cases hgt : j < i
      · have hg1 : (j : Int) < (i : Int) := by omega
        have w2 : IntKind.i64.wrap ((i : Int) - (j : Int)) = ((i - j : Nat) : Int) := by rw [IntKind.wrap_i64]; omega
        have c2 : (i : Int) - (j : Int) = ((i - j : Nat) : Int) := by omega
        have HC := swapRange_any (P := P) k HL.out enc g cb blk off cap (m - i) m j d0 dk w0 wr R (hbs _ hds) S1.out (by omega) (by omega) (by omega)
        rw [hds] at HC
        have HPE : Aside (PermIn a b d (swpR dk (m - i) m j)) := permIn_trans _ _ _ _ _ HP.out (swpR_perm dk (lo := a) (hi := b) j (by omega) (by omega) (by omega) (by omega))
        have HQE : Aside (∀ d', RotOf (swpR dk (m - i) m j) (m - (i - j)) m (m + j) d' → RotOf d a m b d') := fun d' h => H1.out _ (rot_left (by omega) hgt (by omega) h)
        have hsz2 : (swpR dk (m - i) m j).size = d.size := by rw [swpR_size]; exact hds
        clear S1 H1 HP
        go_wp2_with (go_at_fn 203; refine HC.mono ?_; rintro e w3 ⟨rfl, hw3⟩)
        go_roundg (i - j + j)
        case measure => omega
        case rel => exact ⟨i - j, j, _, by go_num, rfl, by omega, hj1, by omega, hj, Nat.le_refl _, hsz2, hw3, HQE.out, HPE.out⟩
      · have hg1 : ¬ (j : Int) < (i : Int) := by omega
        have w2 : IntKind.i64.wrap ((j : Int) - (i : Int)) = ((j - i : Nat) : Int) := by rw [IntKind.wrap_i64]; omega
        have c2 : (j : Int) - (i : Int) = ((j - i : Nat) : Int) := by omega
        have w3 : IntKind.i64.wrap ((m : Int) + (j : Int)) = ((m + j : Nat) : Int) := by rw [IntKind.wrap_i64]; omega
        have w4 : IntKind.i64.wrap (((m + j : Nat) : Int) - (i : Int)) = ((m + j - i : Nat) : Int) := by rw [IntKind.wrap_i64]; omega
        have w5 : IntKind.i64.wrap ((m : Int) + (j : Int) - (i : Int)) = ((m + j - i : Nat) : Int) := by rw [IntKind.wrap_i64]; omega
        have HC := swapRange_any (P := P) k HL.out enc g cb blk off cap (m - i) (m + j - i) i d0 dk w0 wr R (hbs _ hds) S1.out (by omega) (by omega) (by omega)
        rw [hds] at HC
        have HPE : Aside (PermIn a b d (swpR dk (m - i) (m + j - i) i)) := permIn_trans _ _ _ _ _ HP.out (swpR_perm dk (lo := a) (hi := b) i (by omega) (by omega) (by omega) (by omega))
        have HQE : Aside (∀ d', RotOf (swpR dk (m - i) (m + j - i) i) (m - i) m (m + (j - i)) d' → RotOf d a m b d') := fun d' h => H1.out _ (rot_right (by omega) (by omega) (by omega) h)
        have hsz2 : (swpR dk (m - i) (m + j - i) i).size = d.size := by rw [swpR_size]; exact hds
        clear S1 H1 HP
        go_wp2_with (go_at_fn 203; refine HC.mono ?_; rintro e w3 ⟨rfl, hw3⟩)
        go_roundg (i + (j - i))
        case measure => omega
        case rel => exact ⟨i, j - i, _, rfl, by go_num, hi1, by omega, hi, by omega, Nat.le_refl _, hsz2, hw3, HQE.out, HPE.out⟩
end Go.Proofs.YtalpfoomkhhgnaaGreatDoor

/-! slices.symMergeCmpFunc at a table's rows. Conditions: as each theorem states. -/
namespace Go.Proofs.YtalpfoomkhhgnaaGreatDoor
open Go Go.Shelf Go.RowKit Go.Lib Go.Sort

/-- .. and for the merging: the unsigned type, the comparing function's, the body. -/
structure StM (P : Program) (k : Nat) : Prop where
  F : StF P k
  tu : P.underlying 102 = some (TypeDesc.int IntKind.u64)
  au : ∀ w, (isAgg 102).run P w = .ok false w
  zu : ∀ w, (Go.sizeOf 102).run P w = .ok 1 w
  vu : ∀ w, (zeroValue 102).run P w = .ok (Value.int IntKind.u64 0) w
  eM : ∀ args w, (callFunc 140 args).run P w = .ok (.enter 140 args) w
  fM : P.funcs[140]? = some Tryz.f140
variable {P : Program} {α : Type} [Inhabited α]

set_option maxHeartbeats 16000000 in
set_option maxRecDepth 1000000 in
theorem symMerge_any (k : Nat) (L : StM P k) (enc : α → List Value) (cf : α → α → Int) (hO : SWO (ltOf cf)) (g : Nat) (cb : Array Value) (blk off cap : Nat) (d0 : Array α) (w0 : World)
    (eg : ∀ args w, (callFunc g args).run P w = .ok (.enter g args) w) (hcmp : CmpLays P g cb enc k cf blk off d0.size w0) (R : RowK enc k w0 blk off d0) (hsz : d0.size < 4611686018427387904) :
    ∀ (N a m b : Nat) (d : Array α) (w : World), b - a < N → d0.size = d.size → SWK enc k w0 blk off d w → a < m → m < b → b ≤ d.size → SortedIn (ltOf cf) a m d → SortedIn (ltOf cf) m b d →
    Calls P 140 #[.slice (some ⟨blk, off, none⟩) d.size cap, .int .i64 a, .int .i64 m, .int .i64 b, .func (.func g) #[] cb] w fun e w' => e = .returned (.tuple #[]) ∧ ∃ d', SWK enc k w0 blk off d' w' ∧ PermIn a b d d' ∧ SortedIn (ltOf cf) a b d' := by
  have mixed := L.F.mixed; have ti := L.F.ti; have ai := L.F.ai; have zi := L.F.zi; have vi := L.F.vi; have tb := L.F.tb; have ab := L.F.ab; have zb := L.F.zb; have vb := L.F.vb; have ts := L.F.ts; have asl := L.F.asl; have zs := L.F.zs; have ar := L.F.ar; have zr := L.F.zr
  have tu := L.tu; have au := L.au; have zu := L.zu; have vu := L.vu
  have eR := L.F.eR
  have eM := L.eM
  have FM := L.fM
  have HL : Aside (StM P k) := L
  have HC : Aside _ := hcmp
  intro N
  induction N with
  | zero => intro _ _ _ _ _ h; exact absurd h (Nat.not_lt_zero _)
  | succ N ih =>
    intro a m b d w hN hs S ham hmb hb s1 s2
    have S0 : Aside (SWK enc k w0 blk off d w) := S
    have IH : Aside _ := ih
    have Q1 : Aside (SortedIn (ltOf cf) a m d) := s1
    have Q2 : Aside (SortedIn (ltOf cf) m b d) := s2
    clear S ih s1 s2 L hcmp
    by_cases h1 : m - a = 1
    · as_aux_lemma =>
      have HM : Aside (m = a + 1) := by show m = a + 1; omega
      have hz : (((m : Int) - (a : Int)) == 1) = true := by rw [beq_iff_eq]; omega
      have hwz : IntKind.i64.wrap ((m : Int) - (a : Int)) = (m : Int) - (a : Int) := by rw [IntKind.wrap_i64]; omega
      go_enter FM, Tryz.ntmps140
      go_wp2
      go_loopg [10, 11] (b - a) (fun kx s8 s9 wr => ∃ (i j : Nat), s8 = .int .i64 i ∧ s9 = .int .i64 j ∧ m ≤ i ∧ i ≤ j ∧ j ≤ b ∧ j - i ≤ kx ∧ Aside (SWK enc k w0 blk off d wr) ∧ Aside (m < i → ltOf cf d[i - 1]! d[a]! = true) ∧ Aside (j < b → ltOf cf d[j]! d[a]! = false))
      case atStart => exact ⟨m, b, rfl, rfl, Nat.le_refl _, by omega, Nat.le_refl _, by omega, S0, fun h => absurd h (by omega), fun h => absurd h (by omega)⟩
      case round =>
        clear S0
        obtain ⟨i, j, rfl, rfl, hi1, hij, hjb, hkx, S1, H1, H2⟩ := hrel
        by_cases hlt : i < j
        · have hlz : (i : Int) < (j : Int) := by omega
          have hw1 : IntKind.i64.wrap ((i : Int) + (j : Int)) = (i : Int) + (j : Int) := by rw [IntKind.wrap_i64]; omega
          go_upto_region 5 with fail
          obtain ⟨h, hh⟩ : ∃ h : Nat, ((i : Int) + (j : Int)) / 2 = (h : Int) := ⟨(i + j) / 2, by omega⟩
          obtain ⟨hih, hhj⟩ : i ≤ h ∧ h < j := by omega
          rw [hh]
          clear hw1 hh
          have lh := S1.out.ld R hs.symm P h (by omega)
          have la := S1.out.ld R hs.symm P a (by omega)
          have hcg := S1.out.cmp HC.out hs.symm d[h]! d[a]!
          have hbh : (h : Int) < (d.size : Int) := by omega
          have hba : (a : Int) < (d.size : Int) := by omega
          have CLS : Aside (∀ n os, SWK enc k w0 blk off d (grow (wr.drewN n) os)) := fun n os => S1.out.grown n os
          obtain ⟨xh, hxh⟩ : ∃ x, d[h]! = x := ⟨_, rfl⟩
          obtain ⟨xa, hxa⟩ : ∃ x, d[a]! = x := ⟨_, rfl⟩
          rw [hxh] at lh hcg
          rw [hxa] at la hcg
          have HX : Aside (ltOf cf d[h]! d[a]! = decide (cf xh xa < 0)) := by rw [hxh, hxa]; rfl
          clear S1 hxh hxa
          by_cases hlv : cf xh xa < 0
          · go_quiet_grown (first | (go_at_fn g; refine Calls.grown_of (hcg _ _)))
            go_wp2
            go_roundg (j - (h + 1))
            case measure => omega
            case rel => exact ⟨h + 1, j, by go_num, rfl, by omega, by omega, hjb, Nat.le_refl _, CLS.out nq osq, fun _ => by rw [Nat.add_sub_cancel]; exact HX.out.trans (decide_eq_true hlv), H2.out⟩
          · go_quiet_grown (first | (go_at_fn g; refine Calls.grown_of (hcg _ _)))
            go_wp2
            go_roundg (h - i)
            case measure => omega
            case rel => exact ⟨i, h, rfl, rfl, hi1, by omega, by omega, Nat.le_refl _, CLS.out nq osq, H1.out, fun _ => HX.out.trans (decide_eq_false (by omega))⟩
        · obtain rfl : i = j := by omega
          have hlz : ¬ (i : Int) < (i : Int) := by omega
          have hwi : IntKind.i64.wrap ((i : Int) - 1) = (i : Int) - 1 := by rw [IntKind.wrap_i64]; omega
          go_wp2
          go_loopg [13] (b - a) (fun kx s13 wr2 => ∃ (q : Nat) (dk : Array α), s13 = .int .i64 q ∧ a ≤ q ∧ q + 1 ≤ i ∧ i - q ≤ kx + 1 ∧ dk.size = d.size ∧ Aside (SWK enc k w0 blk off dk wr2) ∧ Aside (RotOf d a m (q + 1) dk) ∧ Aside (PermIn a b d dk))
          case atStart => exact ⟨a, d, rfl, Nat.le_refl _, by omega, by omega, rfl, S1, by show RotOf d a m (a + 1) d; rw [HM.out]; exact rot_nilR d a (a + 1), permIn_refl _ _ _⟩
          case round =>
            clear S1
            obtain ⟨q, dk, rfl, hq1, hq2, hkq, hds, S2, HR, HP⟩ := hrel
            by_cases hlq : q + 1 < i
            · have hlz2 : (q : Int) < (i : Int) - 1 := by omega
              have eA : ((q : Int)).toNat = q := by omega
              have pA : (0 : Int) ≤ (q : Int) := by omega
              have bA : (q : Int) < (d.size : Int) := by omega
              have eB : ((q : Int) + 1).toNat = q + 1 := by omega
              have pB : (0 : Int) ≤ (q : Int) + 1 := by omega
              have bB : (q : Int) + 1 < (d.size : Int) := by omega
              have rB : IntKind.i64.wrap ((q : Int) + 1) = (q : Int) + 1 := by rw [IntKind.wrap_i64]; omega
              have S3 : Aside (SWK enc k w0 blk off (swp dk q (q + 1)) ((wr.drew.setCells blk (off + q * k) (enc dk[q + 1]!)).setCells blk (off + (q + 1) * k) (enc dk[q]!))) := S2.out.swapped R q (q + 1) (by omega) (by omega)
              have la := S2.out.ld1 R (by omega) P q (by omega)
              have lb := S2.out.ld1 R (by omega) P (q + 1) (by omega)
              have sa := S2.out.st1 R (by omega) P q (by omega) dk[q + 1]!
              have sb := S2.out.st2 R (by omega) P q (q + 1) (by omega) (by omega) dk[q + 1]! dk[q]!
              have nA : (enc dk[q]!).length = k := R.hk _
              have nB : (enc dk[q + 1]!).length = k := R.hk _
              have HR3 : Aside (RotOf d a m (q + 2) (swp dk q (q + 1))) := by have h9 := HR.out; rw [HM.out] at h9 ⊢; exact rot_up h9 hq1 (by omega)
              have HP3 : Aside (PermIn a b d (swp dk q (q + 1))) := permIn_trans _ _ _ _ _ HP.out (swp_permIn _ _ _ _ _ hq1 (by omega) (by omega) (by omega) (by omega))
              generalize enc dk[q]! = cA at S3 la sb nA
              generalize enc dk[q + 1]! = cB at S3 lb sa sb nB
              clear S2 HR HP
              go_wp2_with fail
              go_big_region_o
              clear la lb sa sb
              generalize (wr.drew.setCells blk (off + q * k) cB).setCells blk (off + (q + 1) * k) cA = w2 at S3 ⊢
              go_wp2
              go_roundg (i - (q + 1) - 1)
              case measure => omega
              case rel => exact ⟨q + 1, swp dk q (q + 1), by go_num, by omega, by omega, by omega, by rw [size_swp]; exact hds, S3, HR3, HP3⟩
            · have hlz2 : ¬ (q : Int) < (i : Int) - 1 := by omega
              have HQI : Aside (q + 1 = i) := by show q + 1 = i; omega
              go_wp2
              first | (refine bodyPost_ret (results_none rfl _ _ _) rfl ?_) | (simp only [Exit.inBlock, Exit.then]; refine bodyPost_ret (results_none rfl _ _ _) rfl ?_)
              obtain rfl : q + 1 = i := HQI.out
              refine ⟨rfl, dk, S2.out, HP.out, ?_⟩
              have r9 := HR.out
              have q9 := Q2.out
              have l9 := H1.out
              rw [HM.out] at r9 q9 l9
              exact one_left hO q9 (by omega) hjb r9 l9 H2.out
    · have hz0 : (((m : Int) - (a : Int)) == 1) = false := by rw [beq_eq_false_iff_ne]; omega
      have hwz : IntKind.i64.wrap ((m : Int) - (a : Int)) = (m : Int) - (a : Int) := by rw [IntKind.wrap_i64]; omega
      have hwy : IntKind.i64.wrap ((b : Int) - (m : Int)) = (b : Int) - (m : Int) := by rw [IntKind.wrap_i64]; omega
      by_cases h2 : b - m = 1
      · as_aux_lemma =>
        have HM : Aside (b = m + 1) := by show b = m + 1; omega
        have hz : (((b : Int) - (m : Int)) == 1) = true := by rw [beq_iff_eq]; omega
        go_enter FM, Tryz.ntmps140
        go_wp2
        go_loopg [14, 15] (m - a) (fun kx s8 s9 wr => ∃ (i j : Nat), s8 = .int .i64 i ∧ s9 = .int .i64 j ∧ a ≤ i ∧ i ≤ j ∧ j ≤ m ∧ j - i ≤ kx ∧ Aside (SWK enc k w0 blk off d wr) ∧ Aside (a < i → ltOf cf d[m]! d[i - 1]! = false) ∧ Aside (j < m → ltOf cf d[m]! d[j]! = true))
        case atStart => exact ⟨a, m, rfl, rfl, Nat.le_refl _, by omega, Nat.le_refl _, by omega, S0, fun h => absurd h (by omega), fun h => absurd h (by omega)⟩
        case round =>
          clear S0
          obtain ⟨i, j, rfl, rfl, hi1, hij, hjb, hkx, S1, H1, H2⟩ := hrel
          by_cases hlt : i < j
          · have hlz : (i : Int) < (j : Int) := by omega
            have hw1 : IntKind.i64.wrap ((i : Int) + (j : Int)) = (i : Int) + (j : Int) := by rw [IntKind.wrap_i64]; omega
            go_upto_region 17 with fail
            obtain ⟨h, hh⟩ : ∃ h : Nat, ((i : Int) + (j : Int)) / 2 = (h : Int) := ⟨(i + j) / 2, by omega⟩
            obtain ⟨hih, hhj⟩ : i ≤ h ∧ h < j := by omega
            rw [hh]
            clear hw1 hh
            have lh := S1.out.ld R hs.symm P h (by omega)
            have la := S1.out.ld R hs.symm P m (by omega)
            have hcg := S1.out.cmp HC.out hs.symm d[m]! d[h]!
            have hbh : (h : Int) < (d.size : Int) := by omega
            have hba : (m : Int) < (d.size : Int) := by omega
            have CLS : Aside (∀ n os, SWK enc k w0 blk off d (grow (wr.drewN n) os)) := fun n os => S1.out.grown n os
            obtain ⟨xh, hxh⟩ : ∃ x, d[h]! = x := ⟨_, rfl⟩
            obtain ⟨xa, hxa⟩ : ∃ x, d[m]! = x := ⟨_, rfl⟩
            rw [hxh] at lh hcg
            rw [hxa] at la hcg
            have HX : Aside (ltOf cf d[m]! d[h]! = decide (cf xa xh < 0)) := by rw [hxh, hxa]; rfl
            clear S1 hxh hxa
            by_cases hlv : cf xa xh < 0
            · go_quiet_grown (first | (go_at_fn g; refine Calls.grown_of (hcg _ _)))
              go_wp2
              go_roundg (h - i)
              case measure => omega
              case rel => exact ⟨i, h, rfl, rfl, hi1, by omega, by omega, Nat.le_refl _, CLS.out nq osq, H1.out, fun _ => HX.out.trans (decide_eq_true hlv)⟩
            · go_quiet_grown (first | (go_at_fn g; refine Calls.grown_of (hcg _ _)))
              go_wp2
              go_roundg (j - (h + 1))
              case measure => omega
              case rel => exact ⟨h + 1, j, by go_num, rfl, by omega, by omega, hjb, Nat.le_refl _, CLS.out nq osq, fun _ => by rw [Nat.add_sub_cancel]; exact HX.out.trans (decide_eq_false (by omega)), H2.out⟩
          · obtain rfl : i = j := by omega
            have hlz : ¬ (i : Int) < (i : Int) := by omega
            go_wp2
            go_loopg [17] (m - a) (fun kx s13 wr2 => ∃ (q : Nat) (dk : Array α), s13 = .int .i64 q ∧ i ≤ q ∧ q ≤ m ∧ q - i ≤ kx ∧ dk.size = d.size ∧ Aside (SWK enc k w0 blk off dk wr2) ∧ Aside (RotOf d q m (m + 1) dk) ∧ Aside (PermIn a b d dk))
            case atStart => exact ⟨m, d, rfl, by omega, Nat.le_refl _, by omega, rfl, S1, rot_nilL d m (m + 1), permIn_refl _ _ _⟩
            case round =>
              clear S1
              obtain ⟨q, dk, rfl, hq1, hq2, hkq, hds, S2, HR, HP⟩ := hrel
              by_cases hlq : i < q
              · obtain ⟨r, hr⟩ : ∃ r, r + 1 = q := ⟨q - 1, by omega⟩
                have hlz2 : (i : Int) < (q : Int) := by omega
                have eA : ((q : Int)).toNat = q := by omega
                have pA : (0 : Int) ≤ (q : Int) := by omega
                have bA : (q : Int) < (d.size : Int) := by omega
                have eB : ((q : Int) - 1).toNat = r := by omega
                have pB : (0 : Int) ≤ (q : Int) - 1 := by omega
                have bB : (q : Int) - 1 < (d.size : Int) := by omega
                have rB : IntKind.i64.wrap ((q : Int) - 1) = (q : Int) - 1 := by rw [IntKind.wrap_i64]; omega
                have S3 : Aside (SWK enc k w0 blk off (swp dk q r) ((wr.drew.setCells blk (off + q * k) (enc dk[r]!)).setCells blk (off + r * k) (enc dk[q]!))) := S2.out.swapped R q r (by omega) (by omega)
                have la := S2.out.ld1 R (by omega) P q (by omega)
                have lb := S2.out.ld1 R (by omega) P r (by omega)
                have sa := S2.out.st1 R (by omega) P q (by omega) dk[r]!
                have sb := S2.out.st2 R (by omega) P q r (by omega) (by omega) dk[r]! dk[q]!
                have nA : (enc dk[q]!).length = k := R.hk _
                have nB : (enc dk[r]!).length = k := R.hk _
                have HR3 : Aside (RotOf d r m (m + 1) (swp dk q r)) := by have h9 := HR.out; rw [← hr] at h9 ⊢; exact rot_down h9 (by omega) (by omega)
                have HP3 : Aside (PermIn a b d (swp dk q r)) := permIn_trans _ _ _ _ _ HP.out (swp_permIn _ _ _ _ _ (by omega) (by omega) (by omega) (by omega) (by omega))
                generalize enc dk[q]! = cA at S3 la sb nA
                generalize enc dk[r]! = cB at S3 lb sa sb nB
                have HRQ : Aside (r + 1 = q) := hr
                clear S2 HR HP hr
                go_wp2_with fail
                go_big_region_o
                clear la lb sa sb
                generalize (wr.drew.setCells blk (off + q * k) cB).setCells blk (off + r * k) cA = w2 at S3 ⊢
                go_wp2
                have hrq := HRQ.out
                go_roundg (r - i)
                case measure => omega
                case rel => exact ⟨r, swp dk q r, by go_num, by omega, by omega, Nat.le_refl _, by rw [size_swp]; exact hds, S3, HR3, HP3⟩
              · have hlz2 : ¬ (i : Int) < (q : Int) := by omega
                have HQI : Aside (q = i) := by show q = i; omega
                go_wp2
                first | (refine bodyPost_ret (results_none rfl _ _ _) rfl ?_) | (simp only [Exit.inBlock, Exit.then]; refine bodyPost_ret (results_none rfl _ _ _) rfl ?_)
                obtain rfl : q = i := HQI.out
                refine ⟨rfl, dk, S2.out, HP.out, ?_⟩
                have q9 := one_right hO Q1.out hi1 hjb HR.out H1.out H2.out
                rw [HM.out]
                exact q9
      · have hz1 : (((b : Int) - (m : Int)) == 1) = false := by rw [beq_eq_false_iff_ne]; omega
        have hwab : IntKind.i64.wrap ((a : Int) + (b : Int)) = (a : Int) + (b : Int) := by rw [IntKind.wrap_i64]; omega
        obtain ⟨mid, hmid⟩ : ∃ mid : Nat, ((a : Int) + (b : Int)) / 2 = (mid : Int) := ⟨(a + b) / 2, by omega⟩
        obtain ⟨hm1, hm2⟩ : 2 * mid ≤ a + b ∧ a + b ≤ 2 * mid + 1 := by omega
        obtain ⟨n, hn⟩ : ∃ n : Nat, n = mid + m := ⟨_, rfl⟩
        have hwn : IntKind.i64.wrap ((mid : Int) + (m : Int)) = (n : Int) := by rw [IntKind.wrap_i64]; omega
        obtain ⟨lo, hi, hlo⟩ : ∃ lo hi : Nat, (mid < m ∧ lo + b = n ∧ hi = mid) ∨ (m ≤ mid ∧ lo = a ∧ hi = m) := by
          by_cases h : mid < m
          · exact ⟨n - b, mid, .inl ⟨h, by omega, rfl⟩⟩
          · exact ⟨a, m, .inr ⟨by omega, rfl, rfl⟩⟩
        obtain ⟨p, hp⟩ : ∃ p : Nat, p + 1 = n := ⟨n - 1, by omega⟩
        have hwp : IntKind.i64.wrap ((n : Int) - 1) = (p : Int) := by rw [IntKind.wrap_i64]; omega
        obtain ⟨hlh, ham2, hmb2⟩ : lo ≤ hi ∧ a < mid ∧ mid < b := by omega
        have HNN : Aside (n = mid + m) := hn
        have HPN : Aside (p + 1 = n) := hp
        clear hn hp
        go_enter FM, Tryz.ntmps140
        go_upto_region 25 with fail
        clear hwab
        go_upto_if 140 with fail
        go_cut [20, 21] (fun s r wx => s = .int .i64 lo ∧ r = .int .i64 hi ∧ wx = w)
        case first =>
          as_aux_lemma =>
            rcases hlo with ⟨g1, g2, g3⟩ | ⟨g1, g2, g3⟩
            · have g4 : (mid : Int) < (m : Int) := by omega
              have hn := HNN.out
              have g5 : IntKind.i64.wrap ((n : Int) - (b : Int)) = (lo : Int) := by rw [IntKind.wrap_i64]; omega
              subst g3
              clear hn
              go_wp2_with fail
              go_meet
              case rel => exact ⟨rfl, rfl, rfl⟩
            · have g4 : ¬ (mid : Int) < (m : Int) := by omega
              subst g2
              subst g3
              go_wp2_with fail
              go_meet
              case rel => exact ⟨rfl, rfl, rfl⟩
        case rest =>
        obtain ⟨rfl, rfl, rfl⟩ := hcut
        go_wp2_with fail
        go_loopg [20, 21] (b - a) (fun kx s20 s21 wr => ∃ (i j : Nat), s20 = .int .i64 i ∧ s21 = .int .i64 j ∧ lo ≤ i ∧ i ≤ j ∧ j ≤ hi ∧ j - i ≤ kx ∧ Aside (SWK enc k w0 blk off d wr) ∧ Aside (lo < i → ltOf cf d[n - 1 - (i - 1)]! d[i - 1]! = false) ∧ Aside (j < hi → ltOf cf d[n - 1 - j]! d[j]! = true))
        case atStart => exact ⟨lo, hi, rfl, rfl, Nat.le_refl _, hlh, Nat.le_refl _, by have := HNN.out; omega, S0, fun h => absurd h (by omega), fun h => absurd h (by omega)⟩
        case round =>
        clear S0
        obtain ⟨i, j, rfl, rfl, hi1, hij, hjb, hkx, S1, H1, H2⟩ := hrel
        have hn := HNN.out
        have hp := HPN.out
        by_cases hlt : i < j
        · have hlz : (i : Int) < (j : Int) := by omega
          have hw1 : IntKind.i64.wrap ((i : Int) + (j : Int)) = (i : Int) + (j : Int) := by rw [IntKind.wrap_i64]; omega
          obtain ⟨h, hh⟩ : ∃ h : Nat, ((i : Int) + (j : Int)) / 2 = (h : Int) := ⟨(i + j) / 2, by omega⟩
          obtain ⟨hih, hhj⟩ : i ≤ h ∧ h < j := by omega
          obtain ⟨q, hq⟩ : ∃ q : Nat, q + h = p := ⟨p - h, by omega⟩
          have hwq : IntKind.i64.wrap ((p : Int) - (h : Int)) = (q : Int) := by rw [IntKind.wrap_i64]; omega
          have lh := S1.out.ld R hs.symm P q (by omega)
          have la := S1.out.ld R hs.symm P h (by omega)
          have hcg := S1.out.cmp HC.out hs.symm d[q]! d[h]!
          have hbh : (q : Int) < (d.size : Int) := by omega
          have hba : (h : Int) < (d.size : Int) := by omega
          have CLS : Aside (∀ n os, SWK enc k w0 blk off d (grow (wr.drewN n) os)) := fun n os => S1.out.grown n os
          obtain ⟨xh, hxh⟩ : ∃ x, d[q]! = x := ⟨_, rfl⟩
          obtain ⟨xa, hxa⟩ : ∃ x, d[h]! = x := ⟨_, rfl⟩
          rw [hxh] at lh hcg
          rw [hxa] at la hcg
          have HX : Aside (ltOf cf d[q]! d[h]! = decide (cf xh xa < 0)) := by rw [hxh, hxa]; rfl
          have HQ1 : Aside (n - 1 - h = q) := by show n - 1 - h = q; omega
          clear S1 hxh hxa hn hp hq
          by_cases hlv : cf xh xa < 0
          · go_upto_region 35 with fail
            clear hw1 hh
            go_quiet_grown (first | (go_at_fn g; refine Calls.grown_of (hcg _ _)))
            go_wp2
            go_roundg (h - i)
            case measure => omega
            case rel => exact ⟨i, h, rfl, rfl, hi1, by omega, by omega, Nat.le_refl _, CLS.out nq osq, H1.out, fun _ => by rw [HQ1.out]; exact HX.out.trans (decide_eq_true hlv)⟩
          · go_upto_region 35 with fail
            clear hw1 hh
            go_quiet_grown (first | (go_at_fn g; refine Calls.grown_of (hcg _ _)))
            go_wp2
            go_roundg (j - (h + 1))
            case measure => omega
            case rel => exact ⟨h + 1, j, by go_num, rfl, by omega, by omega, hjb, Nat.le_refl _, CLS.out nq osq, fun _ => by rw [Nat.add_sub_cancel, HQ1.out]; exact HX.out.trans (decide_eq_false (by omega)), H2.out⟩
        obtain rfl : i = j := by omega
        have hlz : ¬ (i : Int) < (i : Int) := by omega
        obtain ⟨e, he⟩ : ∃ e : Nat, e + i = n := ⟨n - i, by omega⟩
        have hwe : IntKind.i64.wrap ((n : Int) - (i : Int)) = (e : Int) := by rw [IntKind.wrap_i64]; omega
        have HCT : Aside (Cut (ltOf cf) d a m b i e) := by
          have h9 := cut_search hO Q1.out Q2.out hi1 hjb (n := n) (by omega) H1.out H2.out
          rw [show n - i = e by omega] at h9
          exact h9
        obtain ⟨hai, him, hme, heb, hmide⟩ : a ≤ i ∧ i ≤ m ∧ m ≤ e ∧ e ≤ b ∧ mid = i + (e - m) := by omega
        obtain ⟨him2, hmie⟩ : i ≤ mid ∧ mid ≤ e := by omega
        clear H1 H2 hlo hm1 hm2 hwn hwp hp hn hi1 hjb hlh hkx he
        have HMD : Aside (mid = i + (e - m)) := hmide
        clear hmide
        obtain ⟨c, hc⟩ : ∃ c, decide (i < m ∧ m < e) = c := ⟨_, rfl⟩
        have hx1 : c = true → i < m ∧ m < e := fun h => by rw [← hc, decide_eq_true_eq] at h; exact h
        have hx2 : c = false → m ≤ i ∨ e ≤ m := fun h => by rw [← hc, decide_eq_false_iff_not] at h; omega
        go_upto_region 39 with fail
        go_cut [20, 24, 185] (fun s20 s24 sb wx => s20 = .int .i64 i ∧ s24 = .int .i64 e ∧ sb = .bool c ∧ wx = wr)
        case first =>
          as_aux_lemma =>
            rcases (show (i < m ∧ m < e) ∨ m ≤ i ∨ (i < m ∧ e ≤ m) by omega) with ⟨g1, g2⟩ | g1 | ⟨g1, g2⟩
            · have k1 : (i : Int) < (m : Int) := by omega
              have k2 : (m : Int) < (e : Int) := by omega
              have hct : Aside (true = c) := by show true = c; rw [← hc]; exact (decide_eq_true ⟨g1, g2⟩).symm
              clear hx1 hx2 hc
              go_wp2_with fail
              go_meet
              case rel => exact ⟨rfl, rfl, congrArg Value.bool hct.out, rfl⟩
            · have k1 : ¬ (i : Int) < (m : Int) := by omega
              have hct : Aside (false = c) := by show false = c; rw [← hc]; exact (decide_eq_false (by omega)).symm
              clear hx1 hx2 hc
              go_wp2_with fail
              go_meet
              case rel => exact ⟨rfl, rfl, congrArg Value.bool hct.out, rfl⟩
            · have k1 : (i : Int) < (m : Int) := by omega
              have k2 : ¬ (m : Int) < (e : Int) := by omega
              have hct : Aside (false = c) := by show false = c; rw [← hc]; exact (decide_eq_false (by omega)).symm
              clear hx1 hx2 hc
              go_wp2_with fail
              go_meet
              case rel => exact ⟨rfl, rfl, congrArg Value.bool hct.out, rfl⟩
        case rest =>
        obtain ⟨rfl, rfl, rfl, rfl⟩ := hcut
        clear hc
        go_upto_if 185 with fail
        go_cut [20, 24] (fun s20 s24 wx => s20 = .int .i64 i ∧ s24 = .int .i64 e ∧ ∃ d1 : Array α, d1.size = d.size ∧ Aside (SWK enc k w0 blk off d1 wx) ∧ Aside (RotOf d i m e d1) ∧ Aside (PermIn a b d d1))
        case first =>
          as_aux_lemma =>
            cases c
            case true =>
              obtain ⟨g1, g2⟩ := hx1 rfl
              have HR := rotate_any (P := P) k HL.out.F enc g cb blk off cap i m e d0 d w0 _ R hs S1.out g1 g2 (by omega) (by omega)
              clear hx1 hx2
              go_wp2_with (go_at_fn 179; refine HR.mono ?_; rintro ez w3 ⟨rfl, d1, hw3, hr3, hp3⟩)
              go_meet
              case rel => exact ⟨rfl, rfl, d1, hp3.1, hw3, hr3, permIn_mono _ _ _ _ _ _ hai heb hb hp3⟩
            case false =>
              have g9 := hx2 rfl
              have hrr : RotOf d i m e d := by
                rcases (show i = m ∨ m = e by omega) with rfl | rfl
                · exact rot_nilL d i e
                · exact rot_nilR d i m
              clear hx1 hx2 g9
              go_wp2_with fail
              go_meet
              case rel => exact ⟨rfl, rfl, d, rfl, S1, hrr, permIn_refl _ _ _⟩
        case rest =>
        obtain ⟨rfl, rfl, d1, hds1, S2, HR1, HP1⟩ := hcut
        clear hx1 hx2
        have HCU : Aside _ := cut_turn Q1.out Q2.out HR1.out hai him hme heb HMD.out HCT.out
        clear S1 HCT Q1 Q2 HR1 hlt hlz hwe
        obtain ⟨we, hwe⟩ : ∃ we, wc = we := ⟨_, rfl⟩
        rw [hwe] at S2 ⊢
        clear hwe
        obtain ⟨c, hc⟩ : ∃ c, decide (a < i ∧ i < mid) = c := ⟨_, rfl⟩
        have hx1 : c = true → a < i ∧ i < mid := fun h => by rw [← hc, decide_eq_true_eq] at h; exact h
        have hx2 : c = false → i ≤ a ∨ mid ≤ i := fun h => by rw [← hc, decide_eq_false_iff_not] at h; omega
        go_upto_region 41 with fail
        go_cut [20, 24, 199] (fun s20 s24 sb wx => s20 = .int .i64 i ∧ s24 = .int .i64 e ∧ sb = .bool c ∧ wx = we)
        case first =>
          as_aux_lemma =>
            rcases (show (a < i ∧ i < mid) ∨ i ≤ a ∨ (a < i ∧ mid ≤ i) by omega) with ⟨g1, g2⟩ | g1 | ⟨g1, g2⟩
            · have k1 : (a : Int) < (i : Int) := by omega
              have k2 : (i : Int) < (mid : Int) := by omega
              have hct : Aside (true = c) := by show true = c; rw [← hc]; exact (decide_eq_true ⟨g1, g2⟩).symm
              clear hx1 hx2 hc
              go_wp2_with fail
              go_meet
              case rel => exact ⟨rfl, rfl, congrArg Value.bool hct.out, rfl⟩
            · have k1 : ¬ (a : Int) < (i : Int) := by omega
              have hct : Aside (false = c) := by show false = c; rw [← hc]; exact (decide_eq_false (by omega)).symm
              clear hx1 hx2 hc
              go_wp2_with fail
              go_meet
              case rel => exact ⟨rfl, rfl, congrArg Value.bool hct.out, rfl⟩
            · have k1 : (a : Int) < (i : Int) := by omega
              have k2 : ¬ (i : Int) < (mid : Int) := by omega
              have hct : Aside (false = c) := by show false = c; rw [← hc]; exact (decide_eq_false (by omega)).symm
              clear hx1 hx2 hc
              go_wp2_with fail
              go_meet
              case rel => exact ⟨rfl, rfl, congrArg Value.bool hct.out, rfl⟩
        case rest =>
        obtain ⟨rfl, rfl, rfl, rfl⟩ := hcut
        clear hc
        go_upto_if 199 with fail
        go_cut [20, 24] (fun s20 s24 wx => s20 = .int .i64 i ∧ s24 = .int .i64 e ∧ ∃ d2 : Array α, Aside (SWK enc k w0 blk off d2 wx) ∧ Aside (PermIn a mid d1 d2) ∧ Aside (SortedIn (ltOf cf) a mid d2))
        case first =>
          as_aux_lemma =>
            cases c
            case true =>
              obtain ⟨g1, g2⟩ := hx1 rfl
              have HS := IH.out a i mid d1 _ (by omega) (by omega) S2.out g1 g2 (by omega) HCU.out.1 HCU.out.2.1
              rw [hds1] at HS
              clear hx1 hx2
              go_wp2_with (go_at_fn 140; refine HS.mono ?_; rintro ez w3 ⟨rfl, d2, hw3, hp3, hs3⟩)
              go_meet
              case rel => exact ⟨rfl, rfl, d2, hw3, hp3, hs3⟩
            case false =>
              have hrr : SortedIn (ltOf cf) a mid d1 := by
                rcases (show i = a ∨ i = mid by have := hx2 rfl; omega) with g9 | g9
                · have := HCU.out.2.1
                  rwa [g9] at this
                · have := HCU.out.1
                  rwa [g9] at this
              clear hx1 hx2
              go_wp2_with fail
              go_meet
              case rel => exact ⟨rfl, rfl, d1, S2, permIn_refl _ _ _, hrr⟩
        case rest =>
        obtain ⟨rfl, rfl, d2, S3, HP2, HS2⟩ := hcut
        clear hx1 hx2 S2
        obtain ⟨wf, hwf⟩ : ∃ wf, wc = wf := ⟨_, rfl⟩
        rw [hwf] at S3 ⊢
        clear hwf
        have hds2 : d2.size = d.size := HP2.out.1.trans hds1
        have HE2 : Aside (∀ q, mid ≤ q → d2[q]! = d1[q]!) := fun q hq => HP2.out.2.1 q (.inr hq)
        obtain ⟨c, hc⟩ : ∃ c, decide (mid < e ∧ e < b) = c := ⟨_, rfl⟩
        have hx1 : c = true → mid < e ∧ e < b := fun h => by rw [← hc, decide_eq_true_eq] at h; exact h
        have hx2 : c = false → e ≤ mid ∨ b ≤ e := fun h => by rw [← hc, decide_eq_false_iff_not] at h; omega
        go_upto_region 43 with fail
        go_cut [20, 24, 213] (fun s20 s24 sb wx => s20 = .int .i64 i ∧ s24 = .int .i64 e ∧ sb = .bool c ∧ wx = wf)
        case first =>
          as_aux_lemma =>
            rcases (show (mid < e ∧ e < b) ∨ e ≤ mid ∨ (mid < e ∧ b ≤ e) by omega) with ⟨g1, g2⟩ | g1 | ⟨g1, g2⟩
            · have k1 : (mid : Int) < (e : Int) := by omega
              have k2 : (e : Int) < (b : Int) := by omega
              have hct : Aside (true = c) := by show true = c; rw [← hc]; exact (decide_eq_true ⟨g1, g2⟩).symm
              clear hx1 hx2 hc
              go_wp2_with fail
              go_meet
              case rel => exact ⟨rfl, rfl, congrArg Value.bool hct.out, rfl⟩
            · have k1 : ¬ (mid : Int) < (e : Int) := by omega
              have hct : Aside (false = c) := by show false = c; rw [← hc]; exact (decide_eq_false (by omega)).symm
              clear hx1 hx2 hc
              go_wp2_with fail
              go_meet
              case rel => exact ⟨rfl, rfl, congrArg Value.bool hct.out, rfl⟩
            · have k1 : (mid : Int) < (e : Int) := by omega
              have k2 : ¬ (e : Int) < (b : Int) := by omega
              have hct : Aside (false = c) := by show false = c; rw [← hc]; exact (decide_eq_false (by omega)).symm
              clear hx1 hx2 hc
              go_wp2_with fail
              go_meet
              case rel => exact ⟨rfl, rfl, congrArg Value.bool hct.out, rfl⟩
        case rest =>
        obtain ⟨rfl, rfl, rfl, rfl⟩ := hcut
        clear hc
        go_upto_if 213 with fail
        cases c
        case true =>
          obtain ⟨g1, g2⟩ := hx1 rfl
          have HS := IH.out mid e b d2 _ (by omega) (by omega) S3.out g1 g2 (by omega) (sorted_congr HCU.out.2.2.1 fun q h1 h2 => HE2.out q h1) (sorted_congr HCU.out.2.2.2.1 fun q h1 h2 => HE2.out q (by omega))
          rw [hds2] at HS
          clear hx1 hx2
          go_wp2_with (go_at_fn 140; refine HS.mono ?_; rintro ez w3 ⟨rfl, d3, hw3, hp3, hs3⟩)
          go_end0
          obtain ⟨j1, j2⟩ := join_sorted (by omega) (by omega) (by omega) HP2.out HS2.out hp3 hs3 HCU.out.2.2.2.2
          exact ⟨rfl, d3, hw3, permIn_trans _ _ _ _ _ HP1.out j1, j2⟩
        case false =>
          have hrr : SortedIn (ltOf cf) mid b d2 := by
            rcases (show e = mid ∨ e = b by have := hx2 rfl; omega) with g9 | g9
            · have := HCU.out.2.2.2.1
              rw [g9] at this
              exact sorted_congr this fun q h1 h2 => HE2.out q h1
            · have := HCU.out.2.2.1
              rw [g9] at this
              exact sorted_congr this fun q h1 h2 => HE2.out q h1
          clear hx1 hx2
          go_wp2_with fail
          go_end0
          obtain ⟨j1, j2⟩ := join_sorted (by omega) (by omega) (by omega) HP2.out HS2.out (permIn_refl d2 mid b) hrr HCU.out.2.2.2.2
          exact ⟨rfl, d2, S3.out, permIn_trans _ _ _ _ _ HP1.out j1, j2⟩
end Go.Proofs.YtalpfoomkhhgnaaGreatDoor

/-! slices.stableCmpFunc, slices.SortStableFunc at a table's rows: whatever length: a sorted permutation. Conditions: as each theorem states. -/
namespace Go.Proofs.YtalpfoomkhhgnaaGreatDoor
open Go Go.Shelf Go.RowKit Go.Lib Go.Sort

/-- .. and for the whole: insertion's contract, the bodies. -/
structure StS (P : Program) (k : Nat) : Prop where
  M : StM P k
  eB : ∀ args w, (callFunc 84 args).run P w = .ok (.enter 84 args) w
  eI : ∀ args w, (callFunc 139 args).run P w = .ok (.enter 139 args) w
  fB : P.funcs[84]? = some Tryz.f84
  fU : P.funcs[57]? = some Tryz.f57
variable {P : Program} {α : Type} [Inhabited α]
/-- What is asked of insertionSortCmpFunc. -/
def InsSays (P : Program) (k : Nat) (enc : α → List Value) (cf : α → α → Int) (g : Nat) (cb : Array Value) (blk off cap : Nat) (d0 : Array α) (w0 : World) : Prop :=
  ∀ (a b : Nat) (d : Array α) (w : World), d0.size = d.size → SWK enc k w0 blk off d w → a ≤ b → b ≤ d.size →
    Calls P 139 #[.slice (some ⟨blk, off, none⟩) d.size cap, .int .i64 a, .int .i64 b, .func (.func g) #[] cb] w fun e w' => e = .returned (.tuple #[]) ∧ SWK enc k w0 blk off (Sort.insertionSort (ltOf cf) d a b) w'

set_option maxHeartbeats 16000000 in
set_option maxRecDepth 1000000 in
theorem stable_any (k : Nat) (L : StS P k) (enc : α → List Value) (cf : α → α → Int) (hO : SWO (ltOf cf)) (g : Nat) (cb : Array Value) (blk off cap : Nat) (d : Array α) (w : World)
    (eg : ∀ args w, (callFunc g args).run P w = .ok (.enter g args) w) (hcmp : CmpLays P g cb enc k cf blk off d.size w) (R : RowK enc k w blk off d) (hI : InsSays P k enc cf g cb blk off cap d w) (hsz : d.size < 1152921504606846976) :
    Calls P 84 #[.slice (some ⟨blk, off, none⟩) d.size cap, .int .i64 d.size, .func (.func g) #[] cb] w fun e w' => e = .returned (.tuple #[]) ∧ ∃ d', SWK enc k w blk off d' w' ∧ PermIn 0 d.size d d' ∧ SortedIn (ltOf cf) 0 d.size d' := by
  have mixed := L.M.F.mixed; have ti := L.M.F.ti; have ai := L.M.F.ai; have zi := L.M.F.zi; have vi := L.M.F.vi; have tb := L.M.F.tb; have ab := L.M.F.ab; have zb := L.M.F.zb; have vb := L.M.F.vb; have ts := L.M.F.ts; have asl := L.M.F.asl; have zs := L.M.F.zs; have ar := L.M.F.ar; have zr := L.M.F.zr
  have eM := L.M.eM
  have eI := L.eI
  have FB := L.fB
  have HM : Aside (∀ (N a m b : Nat) (d1 : Array α) (w1 : World), b - a < N → d.size = d1.size → SWK enc k w blk off d1 w1 → a < m → m < b → b ≤ d1.size → SortedIn (ltOf cf) a m d1 → SortedIn (ltOf cf) m b d1 →
    Calls P 140 #[.slice (some ⟨blk, off, none⟩) d1.size cap, .int .i64 a, .int .i64 m, .int .i64 b, .func (.func g) #[] cb] w1 fun e w' => e = .returned (.tuple #[]) ∧ ∃ d', SWK enc k w blk off d' w' ∧ PermIn a b d1 d' ∧ SortedIn (ltOf cf) a b d') :=
    symMerge_any k L.M enc cf hO g cb blk off cap d w eg hcmp R (by omega)
  have HI : Aside _ := hI
  have S0 : Aside (SWK enc k w blk off d w) := SWK.start R.hH
  clear hcmp L hI R
  go_enter FB, Tryz.ntmps84
  go_wp2
  go_loopg [7, 8] (d.size) (fun kx s7 s8 wr => ∃ (a : Nat) (dk : Array α), s7 = .int .i64 a ∧ s8 = .int .i64 ((a : Int) + 20) ∧ a ≤ d.size ∧ d.size - a ≤ kx ∧ dk.size = d.size ∧ Aside (SWK enc k w blk off dk wr) ∧ Aside (PermIn 0 d.size d dk) ∧ Aside (Ahead (ltOf cf) 20 d.size a dk))
  case atStart => exact ⟨0, d, rfl, rfl, Nat.zero_le _, by omega, rfl, S0, permIn_refl _ _ _, Ahead.zero _ _ _⟩
  case round =>
  clear S0
  obtain ⟨a, dk, rfl, rfl, ha, hkx, hds, S1, HP, HA⟩ := hrel
  by_cases hlt : a + 20 ≤ d.size
  · have hlz : (a : Int) + 20 ≤ (d.size : Int) := by omega
    have hw1 : IntKind.i64.wrap ((a : Int) + 20 + 20) = (a : Int) + 20 + 20 := by rw [IntKind.wrap_i64]; omega
    have hc := HI.out a (a + 20) dk wr hds.symm S1.out (by omega) (by omega)
    obtain ⟨d1, hd1⟩ : ∃ d1, Sort.insertionSort (ltOf cf) dk a (a + 20) = d1 := ⟨_, rfl⟩
    obtain ⟨hp1, hs1⟩ := insertionSort_holds hO dk a (a + 20) (by omega) (by omega)
    rw [hd1] at hc hp1 hs1
    rw [hds, show ((a + 20 : Nat) : Int) = (a : Int) + 20 by omega] at hc
    have HP1 : Aside (PermIn 0 d.size d d1) := permIn_trans _ _ _ _ _ HP.out (permIn_mono _ _ _ _ _ _ (Nat.zero_le _) hlt (by omega) hp1)
    have HA1 : Aside (Ahead (ltOf cf) 20 d.size (a + 20) d1) := HA.out.step rfl (fun q hq => hp1.2.1 q (.inl hq)) hs1
    have hds1 : d1.size = d.size := hp1.1.trans hds
    clear hd1 hp1 hs1 S1 HP HA
    go_wp2_with (go_at_fn 139; refine hc.mono ?_; rintro e w3 ⟨rfl, hw3⟩)
    go_roundg (d.size - (a + 20))
    case measure => omega
    case rel => exact ⟨a + 20, d1, by go_num, by go_num, hlt, Nat.le_refl _, hds1, hw3, HP1, HA1⟩
  have hlz : ¬ (a : Int) + 20 ≤ (d.size : Int) := by omega
  have hc := HI.out a d.size dk wr hds.symm S1.out (by omega) (by omega)
  obtain ⟨d1, hd1⟩ : ∃ d1, Sort.insertionSort (ltOf cf) dk a d.size = d1 := ⟨_, rfl⟩
  obtain ⟨hp1, hs1⟩ := insertionSort_holds hO dk a d.size (by omega) (by omega)
  rw [hd1] at hc hp1 hs1
  rw [hds] at hc
  have HP1 : Aside (PermIn 0 d.size d d1) := permIn_trans _ _ _ _ _ HP.out (permIn_mono _ _ _ _ _ _ (Nat.zero_le _) (Nat.le_refl _) (by omega) hp1)
  have HR1 : Aside (Runs (ltOf cf) 20 d.size d1 0) := HA.out.last (by omega) (fun q hq => hp1.2.1 q (.inl hq)) hs1
  have hds1 : d1.size = d.size := hp1.1.trans hds
  clear hd1 hp1 hs1 S1 HP HA ha hkx hlt
  go_wp2_with (go_at_fn 139; refine hc.mono ?_; rintro e w3 ⟨rfl, hw3⟩)
  have S1 : Aside (SWK enc k w blk off d1 w3) := hw3
  clear hw3 hc hlz hds
  go_loopg [6] (d.size) (fun kx s6 wr => ∃ (s : Nat) (dk : Array α), s6 = .int .i64 s ∧ 1 ≤ s ∧ s < 2305843009213693952 ∧ d.size - s ≤ kx ∧ dk.size = d.size ∧ Aside (SWK enc k w blk off dk wr) ∧ Aside (PermIn 0 d.size d dk) ∧ Aside (Runs (ltOf cf) s d.size dk 0))
  case atStart => exact ⟨20, d1, rfl, by omega, by omega, by omega, hds1, S1, HP1, HR1⟩
  case round =>
  clear S1 HP1 HR1 hds1
  obtain ⟨s, dk, rfl, hs1, hs2, hkx, hds, S1, HP, HR⟩ := hrel
  by_cases hlt : s < d.size
  case neg =>
    have hlz : ¬ (s : Int) < (d.size : Int) := by omega
    go_wp2
    go_end0
    exact ⟨rfl, dk, S1.out, HP.out, HR.out.end (by omega)⟩
  have hlz : (s : Int) < (d.size : Int) := by omega
  have hw2 : IntKind.i64.wrap (2 * (s : Int)) = 2 * (s : Int) := by rw [IntKind.wrap_i64]; omega
  have hw3 : IntKind.i64.wrap ((s : Int) * 2) = (s : Int) * 2 := by rw [IntKind.wrap_i64]; omega
  go_wp2
  go_loopg [7, 8] (d.size) (fun kx s7 s8 wr => ∃ (a : Nat) (dk : Array α), s7 = .int .i64 a ∧ s8 = .int .i64 ((a : Int) + 2 * (s : Int)) ∧ a ≤ d.size ∧ d.size - a ≤ kx ∧ dk.size = d.size ∧ Aside (SWK enc k w blk off dk wr) ∧ Aside (PermIn 0 d.size d dk) ∧ Aside (Ahead (ltOf cf) (2 * s) d.size a dk) ∧ Aside (Runs (ltOf cf) s d.size dk a))
  case atStart => exact ⟨0, dk, rfl, by go_num, Nat.zero_le _, by omega, hds, S1, HP, Ahead.zero _ _ _, HR⟩
  case round =>
  clear S1 HP HR hds
  obtain ⟨a, dk, rfl, rfl, ha, hkx2, hds, S1, HP, HA, HR⟩ := hrel
  have hw4 : IntKind.i64.wrap ((a : Int) + (s : Int)) = (a : Int) + (s : Int) := by rw [IntKind.wrap_i64]; omega
  by_cases hlt2 : a + 2 * s ≤ d.size
  · have hlz2 : (a : Int) + 2 * (s : Int) ≤ (d.size : Int) := by omega
    have hw1 : IntKind.i64.wrap ((a : Int) + 2 * (s : Int) + 2 * (s : Int)) = (a : Int) + 2 * (s : Int) + 2 * (s : Int) := by rw [IntKind.wrap_i64]; omega
    obtain ⟨r1, r2⟩ := HR.out.first (by omega)
    obtain ⟨r3, r4⟩ := r2.first (by omega)
    have hc := HM.out (a + 2 * s - a + 1) a (a + s) (a + 2 * s) dk wr (by omega) hds.symm S1.out (by omega) (by omega) (by omega) r1 (by rw [show a + 2 * s = a + s + s by omega]; exact r3)
    rw [hds, show ((a + s : Nat) : Int) = (a : Int) + (s : Int) by omega, show ((a + 2 * s : Nat) : Int) = (a : Int) + 2 * (s : Int) by omega] at hc
    have HR4 : Aside (Runs (ltOf cf) s d.size dk (a + 2 * s)) := by rw [show a + 2 * s = a + s + s by omega]; exact r4
    clear r1 r2 r3 r4 S1 HR
    go_wp2_with (go_at_fn 140; refine hc.mono ?_; rintro e w3 ⟨rfl, d1, hw3, hp1, hs1⟩)
    have HP1 : Aside (PermIn 0 d.size d d1) := permIn_trans _ _ _ _ _ HP.out (permIn_mono _ _ _ _ _ _ (Nat.zero_le _) hlt2 (by omega) hp1)
    have HA1 : Aside (Ahead (ltOf cf) (2 * s) d.size (a + 2 * s) d1) := HA.out.step rfl (fun q hq => hp1.2.1 q (.inl hq)) hs1
    have HR1 : Aside (Runs (ltOf cf) s d.size d1 (a + 2 * s)) := HR4.out.congr (fun q hq _ => hp1.2.1 q (.inr hq)) (fun q hq _ => hp1.2.1 q (.inr hq))
    have hds1 : d1.size = d.size := hp1.1.trans hds
    have S3 : Aside (SWK enc k w blk off d1 w3) := hw3
    clear hp1 hs1 hw3 HP HA HR4
    go_wp2
    go_roundg (d.size - (a + 2 * s))
    case measure => omega
    case rel => exact ⟨a + 2 * s, d1, by go_num, by go_num, hlt2, Nat.le_refl _, hds1, S3, HP1, HA1, HR1⟩
  have hlz2 : ¬ (a : Int) + 2 * (s : Int) ≤ (d.size : Int) := by omega
  by_cases hm : a + s < d.size
  · have hmz : (a : Int) + (s : Int) < (d.size : Int) := by omega
    obtain ⟨r1, r2⟩ := HR.out.first (by omega)
    have hc := HM.out (d.size - a + 1) a (a + s) d.size dk wr (by omega) hds.symm S1.out (by omega) (by omega) (by omega) r1 (r2.end (by omega))
    rw [hds, show ((a + s : Nat) : Int) = (a : Int) + (s : Int) by omega] at hc
    clear r1 r2 S1 HR
    go_wp2_with (go_at_fn 140; refine hc.mono ?_; rintro e w3 ⟨rfl, d1, hw3, hp1, hs1⟩)
    have HP1 : Aside (PermIn 0 d.size d d1) := permIn_trans _ _ _ _ _ HP.out (permIn_mono _ _ _ _ _ _ (Nat.zero_le _) (Nat.le_refl _) (by omega) hp1)
    have HA1 : Aside (Runs (ltOf cf) (2 * s) d.size d1 0) := HA.out.last (by omega) (fun q hq => hp1.2.1 q (.inl hq)) hs1
    have hds1 : d1.size = d.size := hp1.1.trans hds
    have S3 : Aside (SWK enc k w blk off d1 w3) := hw3
    clear hp1 hs1 hw3 HP HA
    go_wp2
    go_roundg (d.size - 2 * s)
    case measure => omega
    case rel => exact ⟨2 * s, d1, by go_num, by omega, by omega, Nat.le_refl _, hds1, S3, HP1, HA1⟩
  · have hmz : ¬ (a : Int) + (s : Int) < (d.size : Int) := by omega
    have HA1 : Aside (Runs (ltOf cf) (2 * s) d.size dk 0) := HA.out.last (by omega) (fun q hq => rfl) (HR.out.end (by omega))
    clear HA HR
    go_wp2
    go_roundg (d.size - 2 * s)
    case measure => omega
    case rel => exact ⟨2 * s, dk, by go_num, by omega, by omega, Nat.le_refl _, hds, S1, HP, HA1⟩

set_option maxHeartbeats 16000000 in
set_option maxRecDepth 1000000 in
/-- slices.SortStableFunc at rows. -/
theorem sortStable_any (k : Nat) (L : StS P k) (enc : α → List Value) (cf : α → α → Int) (hO : SWO (ltOf cf)) (g : Nat) (cb : Array Value) (blk off cap : Nat) (d : Array α) (w : World)
    (eg : ∀ args w, (callFunc g args).run P w = .ok (.enter g args) w) (hcmp : CmpLays P g cb enc k cf blk off d.size w) (R : RowK enc k w blk off d) (hI : InsSays P k enc cf g cb blk off cap d w) (hsz : d.size < 1152921504606846976) :
    Calls P 57 #[.slice (some ⟨blk, off, none⟩) d.size cap, .func (.func g) #[] cb] w fun e w' => e = .returned (.tuple #[]) ∧ ∃ d', SWK enc k w blk off d' w' ∧ PermIn 0 d.size d d' ∧ SortedIn (ltOf cf) 0 d.size d' := by
  have mixed := L.M.F.mixed; have ti := L.M.F.ti; have ai := L.M.F.ai; have zi := L.M.F.zi; have vi := L.M.F.vi; have tb := L.M.F.tb; have ab := L.M.F.ab; have zb := L.M.F.zb; have vb := L.M.F.vb; have ts := L.M.F.ts; have asl := L.M.F.asl; have zs := L.M.F.zs; have ar := L.M.F.ar; have zr := L.M.F.zr
  have eB := L.eB
  have FU := L.fU
  have hc := stable_any k L enc cf hO g cb blk off cap d w eg hcmp R hI hsz
  clear hcmp L hI R
  go_enter FU, Tryz.ntmps57
  go_wp2_with (go_at_fn 84; refine hc.mono ?_; rintro e w3 ⟨rfl, d1, hw3, hp1, hs1⟩)
  go_end0
  exact ⟨rfl, d1, hw3, hp1, hs1⟩
end Go.Proofs.YtalpfoomkhhgnaaGreatDoor

/-! What marlaw13.ScanTrue says, in plain Lean: users write and remove, a scan tells just what stands there. Conditions: as each theorem states. -/
namespace Go.Proofs.YtalpfoomkhhgnaaGreatDoor
open Go Go.RowKit

/-- What holds between the deeds: a file system, an index. -/
structure Tru (m : Fs) (ix : Files) : Prop where
  ca : Ca m
  ix : ∀ p k, look ix p = some k → k.time ≤ m.time ∧ ∀ f, look m.now (dirW ++ p) = some f → f.time = k.time → k.data = hashB f.data
  tw : ∀ p f, look m.now (dirW ++ p) = some f → f.time ≤ m.time
/-- Rows tell what stands there. -/
structure Told (m : Fs) (pats : List B8) (rows : List Rw) : Prop where
  eq : rows = (takenL pats ((pathsL m.now).filter (isUnder wP))).map (rowOf m.now)
  has : ∀ r ∈ rows, HasF m.now r.id ∧ ∃ d, r.id = hashB d
theorem Tru.new {m : Fs} {ix : Files} (h : Tru m ix) : Tru m [] := ⟨h.ca, (fun p k hk => by cases hk), h.tw⟩
end Go.Proofs.YtalpfoomkhhgnaaGreatDoor

/-! cell: NewLazy, ID, NewCounter, Add. Conditions: one goroutine; at most 10000000 bytes. -/
namespace Go.Proofs.YtalpfoomkhhgnaaGreatDoor
open Go Go.RowKit
set_option linter.unusedVariables false
set_option linter.unusedSimpArgs false
set_option linter.unusedSectionVars false

/-- A lazy hash's cells: its Once, the bytes, the hash, how often. -/
def lzCells (d m s : Int) (vb : Value) (id : B8) (n : Int) : Array Value := #[.int .u32 d, .int .i32 m, .int .u32 s, vb, S8 id, .int .i64 n]
/-! ### Counters -/
end Go.Proofs.YtalpfoomkhhgnaaGreatDoor

/-! store: Open, place, read. Conditions: as each theorem states. -/
namespace Go.Proofs.YtalpfoomkhhgnaaGreatDoor
open Go Go.RowKit
set_option linter.unusedVariables false
set_option linter.unusedSimpArgs false
set_option linter.unusedSectionVars false

/-- What a caller wants kept besides: blocks and what they hold. -/
structure KeptW where
  blk : Nat → Option Obj
  low : Nat
def keptW [KW : Inhabited KeptW] : Nat → Option Obj := (default : KeptW).blk
open Classical in
/-- .. and how many blocks there are at least. -/
noncomputable def lowW [KW : Inhabited KeptW] : Nat := if ∀ k, keptW k = none then 0 else (default : KeptW).low
variable [KW : Inhabited KeptW]
section
variable {w0 w w' : World} {S O : Nat → Prop} {f : Value} {gs gc : Nat} {m m' : Fs} {n : Int}
end
variable [Inhabited BaseW]
section
variable {w0 w1 w w' : World} {S O : Nat → Prop} {f : Value} {gs gc : Nat} {m m1 : Fs} {n er : Int} {fx : Fi} {z6 z7 z8 z10 z11 : Option Value}
end
end Go.Proofs.YtalpfoomkhhgnaaGreatDoor

/-! marref5.apply: a change of a list of files. Conditions: at most 10000000 files; short paths. -/
namespace Go.Proofs.YtalpfoomkhhgnaaGreatDoor
open Go Go.RowKit

/-- What a change hands back: a new list, or the one that it was given. -/
def NewOr (w : World) (v v' : Value) : Prop := ∀ k, v'.ownBlock = some k → v.ownBlock = some k ∨ w.heap.size ≤ k
end Go.Proofs.YtalpfoomkhhgnaaGreatDoor

/-! marref5.FS: change: a change is done. Conditions: at most 10000000 files, changes, ticks. -/
namespace Go.Proofs.YtalpfoomkhhgnaaGreatDoor
open Go Go.RowKit
variable [Inhabited BaseW]

section
variable {ops : Array Oper} {rest : List Oper} {o : Oper} {a : Act} {Q : Exit → Act → World → Prop} {w : World}
end

theorem IsOp.ext {R : Nat → Prop} {w w' : World} {cs : List Value} {c : Ch} (h : IsOp R w cs c) (hx : Ext w w') : IsOp R w' cs c := h.keepR (KeepR.of_keep (KeepB.of_ext hx))
/-- A change with its stamp. -/
theorem IsOp.stamp {R : Nat → Prop} {w : World} {kind : Int} {p q : B8} {mode time t2 : Int} {a : Option Addr} {n cap : Nat} {c : Ch} {t : Nat} (h : IsOp R w [.int .i64 kind, S8 p, S8 q, .int .i64 mode, .slice a n cap, .int .i64 time] c)
    (hk : (kind = 1 ∧ ∃ f, c = .put q f ∧ p = [] ∧ f.mode = mode ∧ f.data.length = n ∧ f.time = time) ∨ (kind ≠ 1 ∧ ∀ t, c.at t = c)) (ht : t2 = if kind = 1 then (t : Int) else time) :
    IsOp R w [.int .i64 kind, S8 p, S8 q, .int .i64 mode, .slice a n cap, .int .i64 t2] (c.at t) := by
  rcases hk with ⟨rfl, f, rfl, rfl, rfl, rfl, rfl⟩ | ⟨hk, hat⟩
  · obtain ⟨h1, v, he, hd⟩ := h
    rw [if_pos rfl] at ht
    subst ht
    simp only [List.cons.injEq, true_and, and_true] at he
    exact ⟨h1, _, rfl, he ▸ hd⟩
  · rw [if_neg hk] at ht
    rw [hat, ht]
    exact h

end Go.Proofs.YtalpfoomkhhgnaaGreatDoor

/-! marref1.Under: what it answers. Conditions: texts of at most 10000000 signs. -/
namespace Go.Proofs.YtalpfoomkhhgnaaGreatDoor
open Go Go.RowKit

end Go.Proofs.YtalpfoomkhhgnaaGreatDoor

/-! marref5.may: may a file stand at a path? Conditions: all paths may be. -/
namespace Go.Proofs.YtalpfoomkhhgnaaGreatDoor
open Go Go.RowKit

end Go.Proofs.YtalpfoomkhhgnaaGreatDoor

/-! marref5.FS: safe, drop. Conditions: at most 9000000 ticks; short paths. -/
namespace Go.Proofs.YtalpfoomkhhgnaaGreatDoor
open Go Go.RowKit
variable [Inhabited BaseW]

section
variable {ops : Array Oper} {rest : List Oper} {o : Oper} {a : Act} {Q : Exit → Act → World → Prop} {w : World}
end
end Go.Proofs.YtalpfoomkhhgnaaGreatDoor

/-! marref.CopyBytes; marref5.FS: put. Conditions: at most 8000000 ticks; short paths. -/
namespace Go.Proofs.YtalpfoomkhhgnaaGreatDoor
open Go Go.RowKit
variable [Inhabited BaseW]

def putRM (m : Fs) (path : B8) (mode : Int) (data : B8) (only full : Bool) (room : Int) : Fs × Int :=
  if wrongE path mode data ≠ 0 then (m, wrongE path mode data) else if only = true ∧ (look m.now path).isSome then (m, 8)
  else putsM m path mode data (!full && decide ((data.length : Int) ≤ room - usedF m.now + oldLen m.now path))

end Go.Proofs.YtalpfoomkhhgnaaGreatDoor
