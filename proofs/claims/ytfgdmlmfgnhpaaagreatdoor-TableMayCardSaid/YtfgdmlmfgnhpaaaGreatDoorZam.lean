/- marlaw13.Few, patterns. Conditions: as each theorem states. -/
import Derived.Test.YtfgdmlmfgnhpaaaGreatDoorZai
import Derived.Test.YtfgdmlmfgnhpaaaGreatDoorZac
import Derived.Test.YtfgdmlmfgnhpaaaGreatDoorZal
import Derived.Test.YtfgdmlmfgnhpaaaGreatDoorZak
import Derived.Test.YtfgdmlmfgnhpaaaGreatDoorZaj
import Derived.Test.YtfgdmlmfgnhpaaaGreatDoorZag
import Derived.Test.YtfgdmlmfgnhpaaaGreatDoorZad
import Derived.Test.YtfgdmlmfgnhpaaaGreatDoorCards
import Derived.Test.YtfgdmlmfgnhpaaaGreatDoorTie
import Derived.OpenShut
import Derived.LaidMore
import Derived.Lay
import Derived.Deep.DeepHandedRow
import Derived.Lib.LaidTab
import Derived.Stop.LaidErr
import Derived.ProofKit
import Derived.SizedLaws
import Derived.Deep.Slices
import Derived.Deep.Fields
import Derived.ChangeSame

set_option linter.unusedVariables false
set_option linter.unusedSimpArgs false
set_option linter.unusedSectionVars false

/-! What marlaw16.TableMay says, in plain Lean: a table may be just if each row may be alone, they rise, none stands under another one. Conditions: at most 256 rows. -/
namespace Go.Proofs.YtfgdmlmfgnhpaaaGreatDoor
open Go Go.RowKit

theorem path_w {p : B8} (h : pathB (dirW ++ p) = true) : pathB p = true := by
  unfold pathB at h ⊢
  have hc : cut 47 (dirW ++ p) = [119] :: cut 47 p := cut_append 47 [119] p
  rw [hc, List.length_append] at h
  simp only [Bool.and_eq_true, decide_eq_true_eq, List.all_cons, List.length_cons] at h ⊢
  refine ⟨?_, h.2.1.2, by omega⟩
  have := h.1
  omega
theorem under_lt {d s : B8} (h : isUnder d s = true) : ltB d s = true := by
  obtain ⟨r, rfl⟩ := (under_iff d s).1 h
  unfold ltB
  rw [decide_eq_true_eq]
  clear h
  induction d with
  | nil => exact List.Lex.nil
  | cons x d ih => exact List.Lex.cons ih
theorem parents_path {s p : B8} (h : p ∈ parentsL s) : pathB s = true := by
  cases hq : pathB s with
  | true => rfl
  | false =>
    unfold parentsL parentsN splitL at h
    rw [hq] at h
    simp at h
def goodR (l : List Rw) (i : Nat) (x : Rw) : Bool := (mayTab [x] && (decide (i = 0) || ltB (l.getD (i - 1) zRw).path x.path))
def goodU (l : List Rw) (n : Nat) (x : Rw) : Bool := (l.take n).all fun r => !underB x.path r.path
def goodAt (l : List Rw) (i : Nat) (x : Rw) : Bool := goodR l i x && goodU l l.length x
def goodT (l : List Rw) (n : Nat) : Bool := (List.range n).all fun i => goodAt l i (l.getD i zRw)
theorem goodT_snoc {l : List Rw} {n : Nat} {x : Rw} (h : l[n]? = some x) : goodT l (n + 1) = (goodT l n && goodAt l n x) := by
  unfold goodT
  rw [List.range_succ, List.all_append]
  simp [h]
theorem goodU_snoc {l : List Rw} {n : Nat} {x r : Rw} (h : l[n]? = some r) : goodU l (n + 1) x = (goodU l n x && !underB x.path r.path) := by
  unfold goodU
  rw [take_snocR h, List.all_append]
  simp
theorem alone (x : Rw) : mayTab [x] = mayR0 [x] 0 x := by
  unfold mayTab mayTRow
  simp [hasR]
theorem r0_alone (l : List Rw) (k : Nat) (x : Rw) : mayR0 l k x = (mayTab [x] && (decide (k = 0) || ltB (l.getD (k - 1) zRw).path x.path)) := by
  rw [alone]
  unfold mayR0
  simp [Bool.and_assoc]
theorem mayR0_path {l : List Rw} {k : Nat} {x : Rw} (h : mayR0 l k x = true) : pathB (dirW ++ x.path) = true := by
  unfold mayR0 at h
  exact ((Bool.and_eq_true _ _).mp h).1
theorem may_good {l : List Rw} (hl : l.length ≤ 256) : mayTab l = goodT l l.length := by
  rw [Bool.eq_iff_iff]
  constructor
  · intro h
    have hr0 : ∀ j x, j < l.length → l[j]? = some x → mayR0 l j x = true := fun j x _ hx => by
      have := tab_row h hx
      unfold mayTRow at this
      exact ((Bool.and_eq_true _ _).mp this).1
    unfold goodT
    rw [List.all_eq_true]
    intro i hi
    have hi := List.mem_range.1 hi
    have hx : l[i]? = some l[i] := List.getElem?_eq_getElem hi
    rw [getD_at hx]
    unfold goodAt goodR goodU
    rw [← r0_alone, hr0 i _ hi hx, Bool.true_and, List.take_length, List.all_eq_true]
    intro r hr
    cases hq : underB l[i].path r.path with
    | false => rfl
    | true =>
      exfalso
      unfold underB at hq
      simp only [Bool.and_eq_true] at hq
      obtain ⟨k, hk, rfl⟩ := List.mem_iff_getElem.1 hr
      have hy : l[k]? = some l[k] := List.getElem?_eq_getElem hk
      have hlt := under_lt hq.2.2
      have hik : i < k := by
        rcases Nat.lt_trichotomy i k with h1 | h1 | h1
        · exact h1
        · subst h1; rw [lt_irr] at hlt; cases hlt
        · have := lt_trans' hlt (r0_lt hr0 h1 hi hy hx)
          rw [lt_irr] at this
          cases this
      have hp : l[i].path ∈ parentsL l[k].path := (mem_parents hq.2.1).2 hq.2.2
      have := tab_row h hy
      unfold mayTRow at this
      have h2 := List.all_eq_true.1 ((Bool.and_eq_true _ _).mp this).2 _ hp
      have h3 : hasR (l.take k) l[i].path = true := by
        unfold hasR
        rw [List.any_eq_true]
        refine ⟨l[i], ?_, by simp⟩
        rw [List.mem_iff_getElem?]
        exact ⟨i, by rw [List.getElem?_take, if_pos hik]; exact hx⟩
      rw [h3] at h2
      cases h2
  · intro h
    have hg : ∀ k x, l[k]? = some x → goodAt l k x = true := fun k x hx => by
      have h1 := List.all_eq_true.1 h k (List.mem_range.2 (List.getElem?_eq_some_iff.1 hx).1)
      rwa [getD_at hx] at h1
    rw [tab_yes, decide_eq_true hl]
    intro k x hx
    have hgx := hg k x hx
    unfold goodAt goodR at hgx
    obtain ⟨h1, h2⟩ := (Bool.and_eq_true _ _).mp hgx
    unfold mayTRow
    rw [r0_alone, h1, Bool.true_and, List.all_eq_true]
    intro p hp
    cases hq : hasR (l.take k) p with
    | false => rfl
    | true =>
      exfalso
      have hpx := parents_path hp
      have hup := (mem_parents hpx).1 hp
      unfold hasR at hq
      obtain ⟨r, hr, hrp⟩ := List.any_eq_true.1 hq
      have hrp : r.path = p := by simpa using hrp
      obtain ⟨j, hj, rfl⟩ := List.mem_iff_getElem.1 (List.mem_of_mem_take hr)
      have hy : l[j]? = some l[j] := List.getElem?_eq_getElem hj
      have hgj := hg j _ hy
      unfold goodAt goodR at hgj
      obtain ⟨h3, h4⟩ := (Bool.and_eq_true _ _).mp hgj
      have hpj : pathB l[j].path = true := by
        rw [← r0_alone] at h3
        exact path_w (mayR0_path h3)
      unfold goodU at h4
      rw [List.take_length] at h4
      have h5 := List.all_eq_true.1 h4 x (List.mem_of_getElem? hx)
      have h6 : underB l[j].path x.path = true := by
        unfold underB
        rw [hpj, hpx, hrp, hup]; rfl
      rw [h6] at h5
      cases h5
/-- The first row of a table stands in the working directory. -/
theorem good_first {l : List Rw} {x : Rw} (h : mayTab l = true) (hx : l[0]? = some x) : (pathB wP && (pathB (dirW ++ x.path) && isUnder wP (dirW ++ x.path))) = true := by
  have := tab_row h hx
  unfold mayTRow at this
  have h1 := mayR0_path ((Bool.and_eq_true _ _).mp this).1
  rw [h1, dirW_under, show pathB wP = true by decide]
  rfl

end Go.Proofs.YtfgdmlmfgnhpaaaGreatDoor

/-! marlaw16.TableMay, what the chapter's examples fix given. Conditions: as each theorem states. -/
namespace Go.Proofs.YtfgdmlmfgnhpaaaGreatDoor
open Go Go.RowKit Go.Sort
set_option linter.unusedVariables false
set_option linter.unusedSimpArgs false
set_option linter.unusedSectionVars false

theorem IsRws.one {w : World} {b o n cap k : Nat} {l : List Rw} {x : Rw} (h : IsRws w (.slice (some ⟨b, o, none⟩) l.length cap) l) (hx : l[k]? = some x) : IsRws w (.slice (some ⟨b, o + k * 3, none⟩) 1 (cap - k)) [x] := by
  have hk := (List.getElem?_eq_some_iff.1 hx).1
  obtain ⟨a, c, he, h1, h2, h3, hg⟩ := h.cells
  simp only [Value.slice.injEq, true_and] at he
  obtain ⟨rfl, rfl⟩ := he
  obtain ⟨b', o', hb, c0, c1, c2⟩ := hg k x hx
  cases hb
  refine ⟨_, _, rfl, by show 1 ≤ _; omega, by omega, by show 1 ≤ _; omega, fun _ => ⟨b, o + k * 3, rfl, fun i u hu => ?_⟩⟩
  have hu : [S8 x.path, .int .i64 x.mode, S8 x.id][i]? = some u := by simpa [rwC] using hu
  match i, hu with
  | 0, hu => cases hu; exact c0
  | 1, hu => cases hu; exact c1
  | 2, hu => cases hu; exact c2
  | i + 3, hu => simp at hu
theorem gt_cases (x y : B8) : Op.bytesLess x y = ltB x y ∧ (ltB x y = true ∨ (x == y) = !ltB y x) := by
  refine ⟨less_ltB x y, ?_⟩
  cases h1 : ltB x y with
  | true => exact .inl rfl
  | false =>
    refine .inr ?_
    cases h2 : ltB y x with
    | true => simpa using (lt_ne h2).symm
    | false =>
      have : x = y := Classical.byContradiction fun h => by have := lt_tri h1 h; rw [this] at h2; cases h2
      simp [this]

set_option maxRecDepth 100000 in
set_option maxHeartbeats 16000000 in
theorem tableMay_of (va : Value) (l : List Rw) (w : World) (hE : Env w) (hF : First16 w) (hva : IsRws w va l) :
    Calls Tryz.prog 6 #[va] w fun e w' => e = .returned (.bool true) ∧ Ext w w' := by
  obtain ⟨aa, ac, rfl, l1, l2, l3, hga⟩ := hva.cells
  have HVA : Hid (IsRws w (.slice aa l.length ac) l) := hva
  have HGA : Hid _ := hga
  have HF : Hid (First16 w) := hF
  have HE : Hid (Env w) := hE
  clear hva hF hga hE
  go_enter Tryz.func6, Tryz.ntmps6
  go_wp2_with fail
  go_at_call 37
  refine (HF.out w (Ext.refl _)).mono ?_
  rintro e w1 ⟨rfl, hx1⟩
  have HX1 : Hid (Ext w w1) := hx1
  clear hx1
  go_wp2_with fail
  go_at_call 38
  refine (few16_any _ l w1 (HVA.out.ext HX1.out)).mono ?_
  rintro e w2 ⟨ta, rfl, rfl, hta⟩
  have HTA0 : Hid (ta = true → l.length ≤ 100 ∧ ∀ r ∈ l, r.path.length ≤ 400 ∧ r.id.length ≤ 400) := hta
  clear hta
  obtain ⟨w1, rfl⟩ : ∃ w1 : World, w1 = w2 := ⟨_, rfl⟩
  cases ta with
  | false =>
    go_wp2_with fail
    go_at_call 37
    refine (HF.out _ HX1.out).mono ?_
    rintro e wz ⟨rfl, hxz⟩
    go_wp2
    go_ret
    exact ⟨rfl, HX1.out.trans hxz⟩
  | true =>
  have hl100 := (HTA0.out rfl).1
  have HSM : Hid (∀ r ∈ l, r.path.length ≤ 400 ∧ r.id.length ≤ 400) := (HTA0.out rfl).2
  have HMG : Hid (mayTab l = goodT l l.length) := may_good (by omega)
  have HGF : Hid (∀ x, mayTab l = true → l[0]? = some x → (pathB wP && (pathB (dirW ++ x.path) && isUnder wP (dirW ++ x.path))) = true) := fun x h hx => good_first h hx
  clear HTA0
  go_wp2_with fail
  go_loopw [3, 4] (fun g i wr => ∃ k : Nat, k ≤ l.length ∧ i = .int .i64 k ∧ g = .bool (goodT l k) ∧ Hid (Ext w wr)) (fun _ i _ => l.length - (intOf i).toNat)
  case atStart => exact ⟨0, Nat.zero_le _, rfl, rfl, HX1⟩
  case round =>
  obtain ⟨k, hk, rfl, rfl, HX⟩ := hrel
  obtain ⟨g, hg⟩ : ∃ c, goodT l k = c := ⟨_, rfl⟩
  have HGG : Hid _ := hg
  rw [hg]
  clear hg
  by_cases hlt : k < l.length
  case neg =>
    have hkk : k = l.length := by omega
    subst hkk
    have HMG2 : Hid (mayTab l = g) := by unfold Hid; rw [HMG.out, HGG.out]
    go_wp2_with fail
    go_at_call 37
    refine (HF.out wr HX.out).mono ?_
    rintro e we ⟨rfl, hxe⟩
    have HXE : Hid (Ext w we) := HX.out.trans hxe
    clear hxe
    go_wp2_with fail
    go_at_call 39
    refine (tmay_any _ l we (HE.out.ext HXE.out) (HVA.out.ext HXE.out) (by omega) HSM.out).mono ?_
    rw [HMG2.out]
    rintro e wf ⟨rfl, hxf⟩
    have HXF : Hid (Ext w wf) := HXE.out.trans hxf
    clear hxf
    cases g with
    | false =>
      go_wp2
      go_ret
      exact ⟨rfl, HXF.out⟩
    | true =>
    by_cases hl0 : l.length = 0
    · have hq0 : ((l.length : Int) == 0) = true := by rw [hl0]; rfl
      clear hl0
      go_wp2
      go_ret
      exact ⟨rfl, HXF.out⟩
    · have hq0 : ((l.length : Int) == 0) = false := by rw [beq_eq_false_iff_ne]; omega
      have hpos : 0 < l.length := by omega
      obtain ⟨x, hx⟩ : ∃ x, l[0]? = some x := ⟨_, List.getElem?_eq_getElem hpos⟩
      obtain ⟨ab, ao, rfl, c0, -⟩ := HGA.out 0 x hx
      have y0 := HXF.out.cell c0
      simp only [Nat.zero_mul, Nat.add_zero] at y0
      have hxl := (HSM.out x (List.mem_of_getElem? hx)).1
      have HUX : Hid _ := HGF.out x HMG2.out hx
      have hcat : ¬ 9223372036854775807 < 2 + x.path.length := by omega
      have hru := runder_any wP (dirW ++ x.path) wf (by decide) (by rw [List.length_append]; show 2 + _ ≤ _; omega)
      rw [HUX.out] at hru
      have HRU : Hid _ := hru
      clear c0 hx hl0 hru
      go_wp2_with fail
      go_at_call 41
      refine Calls.mono HRU.out ?_
      rintro e wg ⟨rfl, hxg⟩
      have HXZ : Hid (Ext w wg) := HXF.out.trans hxg
      clear hxg
      go_wp2
      go_ret
      exact ⟨rfl, HXZ.out⟩
  obtain ⟨x, hx⟩ : ∃ x, l[k]? = some x := ⟨_, List.getElem?_eq_getElem hlt⟩
  obtain ⟨ab, ao, rfl, c0, c1, c2⟩ := HGA.out k x hx
  have y0 := HX.out.cell c0
  have HXK : Hid (l[k]? = some x) := hx
  have HC0 : Hid _ := c0
  have hsm := HSM.out x (List.mem_of_getElem? hx)
  have HSX : Hid _ := hsm
  have HGR : Hid (goodR l k x = (mayTab [x] && (decide (k = 0) || ltB (l.getD (k - 1) zRw).path x.path))) := rfl
  obtain ⟨mb, hmb⟩ : ∃ c, mayTab [x] = c := ⟨_, rfl⟩
  have HMB : Hid _ := hmb
  have HM1 : Hid (∀ wq, Ext wr wq → Calls Tryz.prog 39 #[.slice (some ⟨ab, ao + k * 3, none⟩) 1 (ac - k)] wq fun e w' => e = .returned (.bool mb) ∧ Ext wq w') := fun wq hq => by
    have h9 := tmay_any _ [x] wq (HE.out.ext (HX.out.trans hq)) ((HVA.out.ext (HX.out.trans hq)).one (n := 0) hx) (by simp) (fun r hr => by
      obtain rfl : r = x := by simpa using hr
      exact hsm)
    rwa [hmb] at h9
  clear hx c0 c1 c2 hsm hmb
  have hwk : IntKind.i64.wrap ((k : Int) + 1) = (k : Int) + 1 := IntWalk.i64_in _ (by omega)
  have hs1 : (0 : Int) ≤ (k : Int) + 1 := by omega
  have hs2 : (k : Int) + 1 ≤ (ac : Int) := by omega
  have hs3 : ¬ ac = k := by omega
  go_upto_region 9 with fail
  go_cut [3] (fun c wx => c = .bool (goodT l k && goodR l k x) ∧ Ext wr wx)
  case first => as_aux_lemma =>
    cases g
    case false =>
      have HG3 : Hid (false = (goodT l k && goodR l k x)) := by unfold Hid; rw [HGG.out]; rfl
      apply wp_region_mix 27 [_, _, _, _, _, _, _, _, _, _, _, _, _, _, _, _, _, _, _, _, _, _, _, _, _, _, .bool false] [none, none, none, none, none, none, none, none, none, none, none, none, none, none, none, none, none, none, none, none, none, none, none, none, none, none, none] [[], [0], [1], [1], [1], [1, 4], [1, 2, 3, 5], [1, 6], [1, 7], [8], [9], [9, 10], [9, 11], [12], [12], [12, 13, 14], [12, 15], [12, 16], [12], [12], [12, 19], [12, 18, 20], [12, 21], [12, 22], [12, 17, 23], [9, 12, 24], [9, 25]] (by kernel_rfl) (by kernel_rfl) (by simp [mixV])
      · trivial
      · simp (maxSteps := 1000000) only [List.take_succ_cons, List.take_zero, oblFrom, stepObl, fillFrom, Act.put, List.setIfInBounds_toArray, List.set_cons_zero, List.set_cons_succ, knows, getV, mixV, List.getD_cons_zero, List.getD_cons_succ, and_true, true_and, forall_const]
        refine ⟨?_, ?_, ?_, ?_, ?_, ?_, ?_, ?_, ?_, ?_, ?_, ?_, ?_, ?_, ?_, ?_, ?_, ?_, ?_, ?_, ?_, ?_, ?_, ?_, ?_, ?_, ?_⟩
        · intro xs wq hq R hR
          go_simp
          exact hR _ _ (Ext.refl _) rfl
        · intro xs wq hq hk R hR
          go_simp
          exact hR _ _ (Ext.refl _) rfl
        · intro xs wq hq hk R hR
          go_simp
          exact hR _ _ (Ext.refl _) rfl
        · intro xs wq hq hk R hR
          go_simp
          exact hR _ _ (Ext.refl _) rfl
        · intro xs wq hq hk R hR
          go_simp
          exact hR _ _ (Ext.refl _) rfl
        · intro xs wq hq hk R hR
          obtain ⟨hk0, hk1⟩ := hk
          go_simp
          exact hR _ _ (Ext.refl _) rfl
        · intro xs wq hq hk R hR
          obtain ⟨hk0, hk1, hk2, hk3⟩ := hk
          go_simp
          exact hR _ _ (Ext.refl _) rfl
        · intro xs wq hq hk R hR
          obtain ⟨hk0, hk1⟩ := hk
          go_simp
          exact hR _ _ (Ext.refl _) rfl
        · intro xs wq hq hk R hR
          obtain ⟨hk0, hk1⟩ := hk
          go_simp
          exact hR _ _ (Ext.refl _) rfl
        · intro xs wq hq hk R hR
          go_simp
          exact hR _ _ (Ext.refl _) rfl
        · intro xs wq hq hk R hR
          go_simp
          exact hR _ _ (Ext.refl _) rfl
        · intro xs wq hq hk R hR
          obtain ⟨hk0, hk1⟩ := hk
          go_simp
          exact hR _ _ (Ext.refl _) rfl
        · intro xs wq hq hk R hR
          obtain ⟨hk0, hk1⟩ := hk
          go_simp
          exact hR _ _ (Ext.refl _) rfl
        · intro xs wq hq hk R hR
          go_simp
          exact hR _ _ (Ext.refl _) rfl
        · intro xs wq hq hk R hR
          go_simp
          exact hR _ _ (Ext.refl _) rfl
        · intro xs wq hq hk R hR
          obtain ⟨hk0, hk1, hk2⟩ := hk
          go_simp
          exact hR _ _ (Ext.refl _) rfl
        · intro xs wq hq hk R hR
          obtain ⟨hk0, hk1⟩ := hk
          go_simp
          exact hR _ _ (Ext.refl _) rfl
        · intro xs wq hq hk R hR
          obtain ⟨hk0, hk1⟩ := hk
          go_simp
          exact hR _ _ (Ext.refl _) rfl
        · intro xs wq hq hk R hR
          go_simp
          exact hR _ _ (Ext.refl _) rfl
        · intro xs wq hq hk R hR
          go_simp
          exact hR _ _ (Ext.refl _) rfl
        · intro xs wq hq hk R hR
          obtain ⟨hk0, hk1⟩ := hk
          go_simp
          exact hR _ _ (Ext.refl _) rfl
        · intro xs wq hq hk R hR
          obtain ⟨hk0, hk1, hk2⟩ := hk
          go_simp
          exact hR _ _ (Ext.refl _) rfl
        · intro xs wq hq hk R hR
          obtain ⟨hk0, hk1⟩ := hk
          go_simp
          exact hR _ _ (Ext.refl _) rfl
        · intro xs wq hq hk R hR
          obtain ⟨hk0, hk1⟩ := hk
          go_simp
          exact hR _ _ (Ext.refl _) rfl
        · intro xs wq hq hk R hR
          obtain ⟨hk0, hk1, hk2⟩ := hk
          go_simp
          exact hR _ _ (Ext.refl _) rfl
        · intro xs wq hq hk R hR
          obtain ⟨hk0, hk1, hk2⟩ := hk
          go_simp
          exact hR _ _ (Ext.refl _) rfl
        · intro xs wq hq hk R hR
          obtain ⟨hk0, hk1⟩ := hk
          go_simp
          exact hR _ _ (Ext.refl _) rfl
      intro xs w2 hx2 hk
      simp only [heldV, Nat.zero_add, Nat.reduceAdd, and_true] at hk
      have q0 := hk.1
      replace hk := hk.2
      have q1 := hk.1
      replace hk := hk.2
      have q2 := hk.1
      replace hk := hk.2
      have q3 := hk.1
      replace hk := hk.2
      have q4 := hk.1
      replace hk := hk.2
      have q5 := hk.1
      replace hk := hk.2
      have q6 := hk.1
      replace hk := hk.2
      have q7 := hk.1
      replace hk := hk.2
      have q8 := hk.1
      replace hk := hk.2
      have q9 := hk.1
      replace hk := hk.2
      have q10 := hk.1
      replace hk := hk.2
      have q11 := hk.1
      replace hk := hk.2
      have q12 := hk.1
      replace hk := hk.2
      have q13 := hk.1
      replace hk := hk.2
      have q14 := hk.1
      replace hk := hk.2
      have q15 := hk.1
      replace hk := hk.2
      have q16 := hk.1
      replace hk := hk.2
      have q17 := hk.1
      replace hk := hk.2
      have q18 := hk.1
      replace hk := hk.2
      have q19 := hk.1
      replace hk := hk.2
      have q20 := hk.1
      replace hk := hk.2
      have q21 := hk.1
      replace hk := hk.2
      have q22 := hk.1
      replace hk := hk.2
      have q23 := hk.1
      replace hk := hk.2
      have q24 := hk.1
      replace hk := hk.2
      have q25 := hk.1
      replace hk := hk.2
      have q26 := hk
      clear hk
      simp (maxSteps := 1000000) only [List.take_succ_cons, List.take_zero, List.drop_succ_cons, List.drop_zero, fillFrom, Act.put, List.setIfInBounds_toArray, List.set_cons_zero, List.set_cons_succ, Nat.zero_add, Nat.reduceAdd, q0, q1, q2, q3, q4, q5, q6, q7, q8, q9, q10, q11, q12, q13, q14, q15, q16, q17, q18, q19, q20, q21, q22, q23, q24, q25, q26]
      clear q0 q1 q2 q3 q4 q5 q6 q7 q8 q9 q10 q11 q12 q13 q14 q15 q16 q17 q18 q19 q20 q21 q22 q23 q24 q25 q26
      have HXM : Hid (Ext wr w2) := hx2
      go_wp2_with fail
      go_meet
      case rel => exact ⟨by rw [← HG3.out], HXM.out⟩
    case true =>
      cases mb
      case false =>
        have HG3 : Hid (false = (goodT l k && goodR l k x)) := by unfold Hid; rw [HGG.out, HGR.out, HMB.out]; rfl
        apply wp_region_mix 27 [_, _, _, _, _, _, .slice (some ⟨ab, ao + k * 3, none⟩) 1 (ac - k), .bool false, _, _, _, _, _, _, _, _, _, _, _, _, _, _, _, _, _, _, .bool false] [none, none, none, none, none, none, none, none, none, none, none, none, none, none, none, none, none, none, none, none, none, none, none, none, none, none, none] [[], [0], [1], [1], [1], [1, 4], [1, 2, 3, 5], [1, 6], [1, 7], [8], [9], [9, 10], [9, 11], [12], [12], [12, 13, 14], [12, 15], [12, 16], [12], [12], [12, 19], [12, 18, 20], [12, 21], [12, 22], [12, 17, 23], [9, 12, 24], [9, 25]] (by kernel_rfl) (by kernel_rfl) (by simp [mixV])
        · trivial
        · simp (maxSteps := 1000000) only [List.take_succ_cons, List.take_zero, oblFrom, stepObl, fillFrom, Act.put, List.setIfInBounds_toArray, List.set_cons_zero, List.set_cons_succ, knows, getV, mixV, List.getD_cons_zero, List.getD_cons_succ, and_true, true_and, forall_const]
          refine ⟨?_, ?_, ?_, ?_, ?_, ?_, ?_, ?_, ?_, ?_, ?_, ?_, ?_, ?_, ?_, ?_, ?_, ?_, ?_, ?_, ?_, ?_, ?_, ?_, ?_, ?_, ?_⟩
          · intro xs wq hq R hR
            go_simp
            exact hR _ _ (Ext.refl _) rfl
          · intro xs wq hq hk R hR
            go_simp
            exact hR _ _ (Ext.refl _) rfl
          · intro xs wq hq hk R hR
            go_simp
            exact hR _ _ (Ext.refl _) rfl
          · intro xs wq hq hk R hR
            go_simp
            exact hR _ _ (Ext.refl _) rfl
          · intro xs wq hq hk R hR
            go_simp
            exact hR _ _ (Ext.refl _) rfl
          · intro xs wq hq hk R hR
            obtain ⟨hk0, hk1⟩ := hk
            go_simp
            exact hR _ _ (Ext.refl _) rfl
          · intro xs wq hq hk R hR
            obtain ⟨hk0, hk1, hk2, hk3⟩ := hk
            go_simp
            exact hR _ _ (Ext.refl _) rfl
          · intro xs wq hq hk R hR
            obtain ⟨hk0, hk1⟩ := hk
            go_simp
            exact (HM1.out _ hq).mono (by rintro e' w8 ⟨rfl, hx8⟩; exact ⟨_, rfl, hR _ _ hx8 rfl⟩)
          · intro xs wq hq hk R hR
            obtain ⟨hk0, hk1⟩ := hk
            go_simp
            exact hR _ _ (Ext.refl _) rfl
          · intro xs wq hq hk R hR
            go_simp
            exact hR _ _ (Ext.refl _) rfl
          · intro xs wq hq hk R hR
            go_simp
            exact hR _ _ (Ext.refl _) rfl
          · intro xs wq hq hk R hR
            obtain ⟨hk0, hk1⟩ := hk
            go_simp
            exact hR _ _ (Ext.refl _) rfl
          · intro xs wq hq hk R hR
            obtain ⟨hk0, hk1⟩ := hk
            go_simp
            exact hR _ _ (Ext.refl _) rfl
          · intro xs wq hq hk R hR
            go_simp
            exact hR _ _ (Ext.refl _) rfl
          · intro xs wq hq hk R hR
            go_simp
            exact hR _ _ (Ext.refl _) rfl
          · intro xs wq hq hk R hR
            obtain ⟨hk0, hk1, hk2⟩ := hk
            go_simp
            exact hR _ _ (Ext.refl _) rfl
          · intro xs wq hq hk R hR
            obtain ⟨hk0, hk1⟩ := hk
            go_simp
            exact hR _ _ (Ext.refl _) rfl
          · intro xs wq hq hk R hR
            obtain ⟨hk0, hk1⟩ := hk
            go_simp
            exact hR _ _ (Ext.refl _) rfl
          · intro xs wq hq hk R hR
            go_simp
            exact hR _ _ (Ext.refl _) rfl
          · intro xs wq hq hk R hR
            go_simp
            exact hR _ _ (Ext.refl _) rfl
          · intro xs wq hq hk R hR
            obtain ⟨hk0, hk1⟩ := hk
            go_simp
            exact hR _ _ (Ext.refl _) rfl
          · intro xs wq hq hk R hR
            obtain ⟨hk0, hk1, hk2⟩ := hk
            go_simp
            exact hR _ _ (Ext.refl _) rfl
          · intro xs wq hq hk R hR
            obtain ⟨hk0, hk1⟩ := hk
            go_simp
            exact hR _ _ (Ext.refl _) rfl
          · intro xs wq hq hk R hR
            obtain ⟨hk0, hk1⟩ := hk
            go_simp
            exact hR _ _ (Ext.refl _) rfl
          · intro xs wq hq hk R hR
            obtain ⟨hk0, hk1, hk2⟩ := hk
            go_simp
            exact hR _ _ (Ext.refl _) rfl
          · intro xs wq hq hk R hR
            obtain ⟨hk0, hk1, hk2⟩ := hk
            go_simp
            exact hR _ _ (Ext.refl _) rfl
          · intro xs wq hq hk R hR
            obtain ⟨hk0, hk1⟩ := hk
            go_simp
            exact hR _ _ (Ext.refl _) rfl
        intro xs w2 hx2 hk
        simp only [heldV, Nat.zero_add, Nat.reduceAdd, and_true] at hk
        have q0 := hk.1
        replace hk := hk.2
        have q1 := hk.1
        replace hk := hk.2
        have q2 := hk.1
        replace hk := hk.2
        have q3 := hk.1
        replace hk := hk.2
        have q4 := hk.1
        replace hk := hk.2
        have q5 := hk.1
        replace hk := hk.2
        have q6 := hk.1
        replace hk := hk.2
        have q7 := hk.1
        replace hk := hk.2
        have q8 := hk.1
        replace hk := hk.2
        have q9 := hk.1
        replace hk := hk.2
        have q10 := hk.1
        replace hk := hk.2
        have q11 := hk.1
        replace hk := hk.2
        have q12 := hk.1
        replace hk := hk.2
        have q13 := hk.1
        replace hk := hk.2
        have q14 := hk.1
        replace hk := hk.2
        have q15 := hk.1
        replace hk := hk.2
        have q16 := hk.1
        replace hk := hk.2
        have q17 := hk.1
        replace hk := hk.2
        have q18 := hk.1
        replace hk := hk.2
        have q19 := hk.1
        replace hk := hk.2
        have q20 := hk.1
        replace hk := hk.2
        have q21 := hk.1
        replace hk := hk.2
        have q22 := hk.1
        replace hk := hk.2
        have q23 := hk.1
        replace hk := hk.2
        have q24 := hk.1
        replace hk := hk.2
        have q25 := hk.1
        replace hk := hk.2
        have q26 := hk
        clear hk
        simp (maxSteps := 1000000) only [List.take_succ_cons, List.take_zero, List.drop_succ_cons, List.drop_zero, fillFrom, Act.put, List.setIfInBounds_toArray, List.set_cons_zero, List.set_cons_succ, Nat.zero_add, Nat.reduceAdd, q0, q1, q2, q3, q4, q5, q6, q7, q8, q9, q10, q11, q12, q13, q14, q15, q16, q17, q18, q19, q20, q21, q22, q23, q24, q25, q26]
        clear q0 q1 q2 q3 q4 q5 q6 q7 q8 q9 q10 q11 q12 q13 q14 q15 q16 q17 q18 q19 q20 q21 q22 q23 q24 q25 q26
        have HXM : Hid (Ext wr w2) := hx2
        go_wp2_with fail
        go_meet
        case rel => exact ⟨by rw [← HG3.out], HXM.out⟩
      case true =>
        by_cases hk0 : k = 0
        case pos =>
          have HG3 : Hid (true = (goodT l k && goodR l k x)) := by unfold Hid; rw [HGG.out, HGR.out, HMB.out, hk0]; rfl
          have hq0 : ((k : Int) == 0) = true := by rw [hk0]; rfl
          clear hk0
          apply wp_region_mix 27 [_, _, _, _, _, _, .slice (some ⟨ab, ao + k * 3, none⟩) 1 (ac - k), .bool true, _, _, _, _, _, _, _, _, _, _, _, _, _, _, _, _, _, _, .bool true] [none, none, none, none, none, none, none, none, none, none, none, none, none, none, none, none, none, none, none, none, none, none, none, none, none, none, none] [[], [0], [1], [1], [1], [1, 4], [1, 2, 3, 5], [1, 6], [1, 7], [8], [9], [9, 10], [9, 11], [12], [12], [12, 13, 14], [12, 15], [12, 16], [12], [12], [12, 19], [12, 18, 20], [12, 21], [12, 22], [12, 17, 23], [9, 12, 24], [9, 25]] (by kernel_rfl) (by kernel_rfl) (by simp [mixV])
          · trivial
          · simp (maxSteps := 1000000) only [List.take_succ_cons, List.take_zero, oblFrom, stepObl, fillFrom, Act.put, List.setIfInBounds_toArray, List.set_cons_zero, List.set_cons_succ, knows, getV, mixV, List.getD_cons_zero, List.getD_cons_succ, and_true, true_and, forall_const]
            refine ⟨?_, ?_, ?_, ?_, ?_, ?_, ?_, ?_, ?_, ?_, ?_, ?_, ?_, ?_, ?_, ?_, ?_, ?_, ?_, ?_, ?_, ?_, ?_, ?_, ?_, ?_, ?_⟩
            · intro xs wq hq R hR
              go_simp
              exact hR _ _ (Ext.refl _) rfl
            · intro xs wq hq hk R hR
              go_simp
              exact hR _ _ (Ext.refl _) rfl
            · intro xs wq hq hk R hR
              go_simp
              exact hR _ _ (Ext.refl _) rfl
            · intro xs wq hq hk R hR
              go_simp
              exact hR _ _ (Ext.refl _) rfl
            · intro xs wq hq hk R hR
              go_simp
              exact hR _ _ (Ext.refl _) rfl
            · intro xs wq hq hk R hR
              obtain ⟨hk0, hk1⟩ := hk
              go_simp
              exact hR _ _ (Ext.refl _) rfl
            · intro xs wq hq hk R hR
              obtain ⟨hk0, hk1, hk2, hk3⟩ := hk
              go_simp
              exact hR _ _ (Ext.refl _) rfl
            · intro xs wq hq hk R hR
              obtain ⟨hk0, hk1⟩ := hk
              go_simp
              exact (HM1.out _ hq).mono (by rintro e' w8 ⟨rfl, hx8⟩; exact ⟨_, rfl, hR _ _ hx8 rfl⟩)
            · intro xs wq hq hk R hR
              obtain ⟨hk0, hk1⟩ := hk
              go_simp
              exact hR _ _ (Ext.refl _) rfl
            · intro xs wq hq hk R hR
              go_simp
              exact hR _ _ (Ext.refl _) rfl
            · intro xs wq hq hk R hR
              go_simp
              exact hR _ _ (Ext.refl _) rfl
            · intro xs wq hq hk R hR
              obtain ⟨hk0, hk1⟩ := hk
              go_simp
              exact hR _ _ (Ext.refl _) rfl
            · intro xs wq hq hk R hR
              obtain ⟨hk0, hk1⟩ := hk
              go_simp
              exact hR _ _ (Ext.refl _) rfl
            · intro xs wq hq hk R hR
              go_simp
              exact hR _ _ (Ext.refl _) rfl
            · intro xs wq hq hk R hR
              go_simp
              exact hR _ _ (Ext.refl _) rfl
            · intro xs wq hq hk R hR
              obtain ⟨hk0, hk1, hk2⟩ := hk
              go_simp
              exact hR _ _ (Ext.refl _) rfl
            · intro xs wq hq hk R hR
              obtain ⟨hk0, hk1⟩ := hk
              go_simp
              exact hR _ _ (Ext.refl _) rfl
            · intro xs wq hq hk R hR
              obtain ⟨hk0, hk1⟩ := hk
              go_simp
              exact hR _ _ (Ext.refl _) rfl
            · intro xs wq hq hk R hR
              go_simp
              exact hR _ _ (Ext.refl _) rfl
            · intro xs wq hq hk R hR
              go_simp
              exact hR _ _ (Ext.refl _) rfl
            · intro xs wq hq hk R hR
              obtain ⟨hk0, hk1⟩ := hk
              go_simp
              exact hR _ _ (Ext.refl _) rfl
            · intro xs wq hq hk R hR
              obtain ⟨hk0, hk1, hk2⟩ := hk
              go_simp
              exact hR _ _ (Ext.refl _) rfl
            · intro xs wq hq hk R hR
              obtain ⟨hk0, hk1⟩ := hk
              go_simp
              exact hR _ _ (Ext.refl _) rfl
            · intro xs wq hq hk R hR
              obtain ⟨hk0, hk1⟩ := hk
              go_simp
              exact hR _ _ (Ext.refl _) rfl
            · intro xs wq hq hk R hR
              obtain ⟨hk0, hk1, hk2⟩ := hk
              go_simp
              exact hR _ _ (Ext.refl _) rfl
            · intro xs wq hq hk R hR
              obtain ⟨hk0, hk1, hk2⟩ := hk
              go_simp
              exact hR _ _ (Ext.refl _) rfl
            · intro xs wq hq hk R hR
              obtain ⟨hk0, hk1⟩ := hk
              go_simp
              exact hR _ _ (Ext.refl _) rfl
          intro xs w2 hx2 hk
          simp only [heldV, Nat.zero_add, Nat.reduceAdd, and_true] at hk
          have q0 := hk.1
          replace hk := hk.2
          have q1 := hk.1
          replace hk := hk.2
          have q2 := hk.1
          replace hk := hk.2
          have q3 := hk.1
          replace hk := hk.2
          have q4 := hk.1
          replace hk := hk.2
          have q5 := hk.1
          replace hk := hk.2
          have q6 := hk.1
          replace hk := hk.2
          have q7 := hk.1
          replace hk := hk.2
          have q8 := hk.1
          replace hk := hk.2
          have q9 := hk.1
          replace hk := hk.2
          have q10 := hk.1
          replace hk := hk.2
          have q11 := hk.1
          replace hk := hk.2
          have q12 := hk.1
          replace hk := hk.2
          have q13 := hk.1
          replace hk := hk.2
          have q14 := hk.1
          replace hk := hk.2
          have q15 := hk.1
          replace hk := hk.2
          have q16 := hk.1
          replace hk := hk.2
          have q17 := hk.1
          replace hk := hk.2
          have q18 := hk.1
          replace hk := hk.2
          have q19 := hk.1
          replace hk := hk.2
          have q20 := hk.1
          replace hk := hk.2
          have q21 := hk.1
          replace hk := hk.2
          have q22 := hk.1
          replace hk := hk.2
          have q23 := hk.1
          replace hk := hk.2
          have q24 := hk.1
          replace hk := hk.2
          have q25 := hk.1
          replace hk := hk.2
          have q26 := hk
          clear hk
          simp (maxSteps := 1000000) only [List.take_succ_cons, List.take_zero, List.drop_succ_cons, List.drop_zero, fillFrom, Act.put, List.setIfInBounds_toArray, List.set_cons_zero, List.set_cons_succ, Nat.zero_add, Nat.reduceAdd, q0, q1, q2, q3, q4, q5, q6, q7, q8, q9, q10, q11, q12, q13, q14, q15, q16, q17, q18, q19, q20, q21, q22, q23, q24, q25, q26]
          clear q0 q1 q2 q3 q4 q5 q6 q7 q8 q9 q10 q11 q12 q13 q14 q15 q16 q17 q18 q19 q20 q21 q22 q23 q24 q25 q26
          have HXM : Hid (Ext wr w2) := hx2
          clear hq0
          go_wp2_with fail
          go_meet
          case rel => exact ⟨by rw [← HG3.out], HXM.out⟩
        case neg =>
          obtain ⟨j, hj⟩ : ∃ j, k = j + 1 := ⟨k - 1, by omega⟩
          obtain ⟨y, hy⟩ : ∃ y, l[j]? = some y := ⟨_, List.getElem?_eq_getElem (by omega)⟩
          obtain ⟨b2, o2, he, d0, -⟩ := HGA.out j y hy
          cases he
          have z0 := HX.out.cell d0
          have hwj : IntKind.i64.wrap ((k : Int) - 1) = (j : Int) := by rw [IntWalk.i64_in _ (by omega)]; omega
          have hq0 : ((k : Int) == 0) = false := by rw [beq_eq_false_iff_ne]; omega
          have hjl : j < l.length := by omega
          obtain ⟨t, ht⟩ : ∃ t, ltB y.path x.path = t := ⟨_, rfl⟩
          have HG3 : Hid (t = (goodT l k && goodR l k x)) := by
            unfold Hid
            rw [HGG.out, HGR.out, HMB.out, hj, show j + 1 - 1 = j from rfl, getD_at hy, ht]
            simp
          obtain ⟨hb1, hb2⟩ := gt_cases x.path y.path
          obtain ⟨u, hu⟩ : ∃ u, ltB x.path y.path = u := ⟨_, rfl⟩
          rw [hu] at hb1 hb2
          rw [ht] at hb2
          have hut : u = true → t = false := fun h => by rw [← ht]; rw [h] at hu; exact lt_asym hu
          clear hj hk0 hy d0 hu ht
          cases u
          case true =>
            have ht0 : t = false := hut rfl
            subst ht0
            clear hb2 hut
            apply wp_region_mix 27 [_, _, _, _, _, _, .slice (some ⟨ab, ao + k * 3, none⟩) 1 (ac - k), .bool true, _, _, _, _, _, _, _, _, _, S8 x.path, _, _, .int .i64 (j : Int), _, _, S8 y.path, .bool false, .bool false, .bool false] [none, none, none, none, none, none, none, none, none, none, none, none, none, none, none, none, none, none, none, none, none, none, none, none, none, none, none] [[], [0], [1], [1], [1], [1, 4], [1, 2, 3, 5], [1, 6], [1, 7], [8], [9], [9, 10], [9, 11], [12], [12], [12, 13, 14], [12, 15], [12, 16], [12], [12], [12, 19], [12, 18, 20], [12, 21], [12, 22], [12, 17, 23], [9, 12, 24], [9, 25]] (by kernel_rfl) (by kernel_rfl) (by simp [mixV])
            · trivial
            · simp (maxSteps := 1000000) only [List.take_succ_cons, List.take_zero, oblFrom, stepObl, fillFrom, Act.put, List.setIfInBounds_toArray, List.set_cons_zero, List.set_cons_succ, knows, getV, mixV, List.getD_cons_zero, List.getD_cons_succ, and_true, true_and, forall_const]
              refine ⟨?_, ?_, ?_, ?_, ?_, ?_, ?_, ?_, ?_, ?_, ?_, ?_, ?_, ?_, ?_, ?_, ?_, ?_, ?_, ?_, ?_, ?_, ?_, ?_, ?_, ?_, ?_⟩
              · intro xs wq hq R hR
                have f0 := hq.cell y0; have f1 := hq.cell z0
                go_simp
                exact hR _ _ (Ext.refl _) rfl
              · intro xs wq hq hk R hR
                have f0 := hq.cell y0; have f1 := hq.cell z0
                go_simp
                exact hR _ _ (Ext.refl _) rfl
              · intro xs wq hq hk R hR
                have f0 := hq.cell y0; have f1 := hq.cell z0
                go_simp
                exact hR _ _ (Ext.refl _) rfl
              · intro xs wq hq hk R hR
                have f0 := hq.cell y0; have f1 := hq.cell z0
                go_simp
                exact hR _ _ (Ext.refl _) rfl
              · intro xs wq hq hk R hR
                have f0 := hq.cell y0; have f1 := hq.cell z0
                go_simp
                exact hR _ _ (Ext.refl _) rfl
              · intro xs wq hq hk R hR
                obtain ⟨hk0, hk1⟩ := hk
                have f0 := hq.cell y0; have f1 := hq.cell z0
                go_simp
                exact hR _ _ (Ext.refl _) rfl
              · intro xs wq hq hk R hR
                obtain ⟨hk0, hk1, hk2, hk3⟩ := hk
                have f0 := hq.cell y0; have f1 := hq.cell z0
                go_simp
                exact hR _ _ (Ext.refl _) rfl
              · intro xs wq hq hk R hR
                obtain ⟨hk0, hk1⟩ := hk
                go_simp
                exact (HM1.out _ hq).mono (by rintro e' w8 ⟨rfl, hx8⟩; exact ⟨_, rfl, hR _ _ hx8 rfl⟩)
              · intro xs wq hq hk R hR
                obtain ⟨hk0, hk1⟩ := hk
                have f0 := hq.cell y0; have f1 := hq.cell z0
                go_simp
                exact hR _ _ (Ext.refl _) rfl
              · intro xs wq hq hk R hR
                have f0 := hq.cell y0; have f1 := hq.cell z0
                go_simp
                exact hR _ _ (Ext.refl _) rfl
              · intro xs wq hq hk R hR
                have f0 := hq.cell y0; have f1 := hq.cell z0
                go_simp
                exact hR _ _ (Ext.refl _) rfl
              · intro xs wq hq hk R hR
                obtain ⟨hk0, hk1⟩ := hk
                have f0 := hq.cell y0; have f1 := hq.cell z0
                go_simp
                exact hR _ _ (Ext.refl _) rfl
              · intro xs wq hq hk R hR
                obtain ⟨hk0, hk1⟩ := hk
                have f0 := hq.cell y0; have f1 := hq.cell z0
                go_simp
                exact hR _ _ (Ext.refl _) rfl
              · intro xs wq hq hk R hR
                have f0 := hq.cell y0; have f1 := hq.cell z0
                go_simp
                exact hR _ _ (Ext.refl _) rfl
              · intro xs wq hq hk R hR
                have f0 := hq.cell y0; have f1 := hq.cell z0
                go_simp
                exact hR _ _ (Ext.refl _) rfl
              · intro xs wq hq hk R hR
                obtain ⟨hk0, hk1, hk2⟩ := hk
                have f0 := hq.cell y0; have f1 := hq.cell z0
                go_simp
                exact hR _ _ (Ext.refl _) rfl
              · intro xs wq hq hk R hR
                obtain ⟨hk0, hk1⟩ := hk
                have f0 := hq.cell y0; have f1 := hq.cell z0
                go_simp
                exact hR _ _ (Ext.refl _) rfl
              · intro xs wq hq hk R hR
                obtain ⟨hk0, hk1⟩ := hk
                have f0 := hq.cell y0; have f1 := hq.cell z0
                go_simp
                exact hR _ _ (Ext.refl _) rfl
              · intro xs wq hq hk R hR
                have f0 := hq.cell y0; have f1 := hq.cell z0
                go_simp
                exact hR _ _ (Ext.refl _) rfl
              · intro xs wq hq hk R hR
                have f0 := hq.cell y0; have f1 := hq.cell z0
                go_simp
                exact hR _ _ (Ext.refl _) rfl
              · intro xs wq hq hk R hR
                obtain ⟨hk0, hk1⟩ := hk
                have f0 := hq.cell y0; have f1 := hq.cell z0
                go_simp
                exact hR _ _ (Ext.refl _) rfl
              · intro xs wq hq hk R hR
                obtain ⟨hk0, hk1, hk2⟩ := hk
                have f0 := hq.cell y0; have f1 := hq.cell z0
                go_simp
                exact hR _ _ (Ext.refl _) rfl
              · intro xs wq hq hk R hR
                obtain ⟨hk0, hk1⟩ := hk
                have f0 := hq.cell y0; have f1 := hq.cell z0
                go_simp
                exact hR _ _ (Ext.refl _) rfl
              · intro xs wq hq hk R hR
                obtain ⟨hk0, hk1⟩ := hk
                have f0 := hq.cell y0; have f1 := hq.cell z0
                go_simp
                exact hR _ _ (Ext.refl _) rfl
              · intro xs wq hq hk R hR
                obtain ⟨hk0, hk1, hk2⟩ := hk
                have f0 := hq.cell y0; have f1 := hq.cell z0
                go_simp
                exact hR _ _ (Ext.refl _) rfl
              · intro xs wq hq hk R hR
                obtain ⟨hk0, hk1, hk2⟩ := hk
                have f0 := hq.cell y0; have f1 := hq.cell z0
                go_simp
                exact hR _ _ (Ext.refl _) rfl
              · intro xs wq hq hk R hR
                obtain ⟨hk0, hk1⟩ := hk
                have f0 := hq.cell y0; have f1 := hq.cell z0
                go_simp
                exact hR _ _ (Ext.refl _) rfl
            intro xs w2 hx2 hk
            simp only [heldV, Nat.zero_add, Nat.reduceAdd, and_true] at hk
            have q0 := hk.1
            replace hk := hk.2
            have q1 := hk.1
            replace hk := hk.2
            have q2 := hk.1
            replace hk := hk.2
            have q3 := hk.1
            replace hk := hk.2
            have q4 := hk.1
            replace hk := hk.2
            have q5 := hk.1
            replace hk := hk.2
            have q6 := hk.1
            replace hk := hk.2
            have q7 := hk.1
            replace hk := hk.2
            have q8 := hk.1
            replace hk := hk.2
            have q9 := hk.1
            replace hk := hk.2
            have q10 := hk.1
            replace hk := hk.2
            have q11 := hk.1
            replace hk := hk.2
            have q12 := hk.1
            replace hk := hk.2
            have q13 := hk.1
            replace hk := hk.2
            have q14 := hk.1
            replace hk := hk.2
            have q15 := hk.1
            replace hk := hk.2
            have q16 := hk.1
            replace hk := hk.2
            have q17 := hk.1
            replace hk := hk.2
            have q18 := hk.1
            replace hk := hk.2
            have q19 := hk.1
            replace hk := hk.2
            have q20 := hk.1
            replace hk := hk.2
            have q21 := hk.1
            replace hk := hk.2
            have q22 := hk.1
            replace hk := hk.2
            have q23 := hk.1
            replace hk := hk.2
            have q24 := hk.1
            replace hk := hk.2
            have q25 := hk.1
            replace hk := hk.2
            have q26 := hk
            clear hk
            simp (maxSteps := 1000000) only [List.take_succ_cons, List.take_zero, List.drop_succ_cons, List.drop_zero, fillFrom, Act.put, List.setIfInBounds_toArray, List.set_cons_zero, List.set_cons_succ, Nat.zero_add, Nat.reduceAdd, q0, q1, q2, q3, q4, q5, q6, q7, q8, q9, q10, q11, q12, q13, q14, q15, q16, q17, q18, q19, q20, q21, q22, q23, q24, q25, q26]
            clear q0 q1 q2 q3 q4 q5 q6 q7 q8 q9 q10 q11 q12 q13 q14 q15 q16 q17 q18 q19 q20 q21 q22 q23 q24 q25 q26
            have HXM : Hid (Ext wr w2) := hx2
            clear hq0 hwj z0
            go_wp2_with fail
            go_meet
            case rel => exact ⟨by rw [← HG3.out], HXM.out⟩
          case false =>
            have hb3 : (x.path == y.path) = !t := by
              rcases hb2 with h | h
              · cases h
              · exact h
            clear hb2 hut
            apply wp_region_mix 27 [_, _, _, _, _, _, .slice (some ⟨ab, ao + k * 3, none⟩) 1 (ac - k), .bool true, _, _, _, _, _, _, _, _, _, S8 x.path, _, _, .int .i64 (j : Int), _, _, S8 y.path, .bool t, .bool t, .bool t] [none, none, none, none, none, none, none, none, none, none, none, none, none, none, none, none, none, none, none, none, none, none, none, none, none, none, none] [[], [0], [1], [1], [1], [1, 4], [1, 2, 3, 5], [1, 6], [1, 7], [8], [9], [9, 10], [9, 11], [12], [12], [12, 13, 14], [12, 15], [12, 16], [12], [12], [12, 19], [12, 18, 20], [12, 21], [12, 22], [12, 17, 23], [9, 12, 24], [9, 25]] (by kernel_rfl) (by kernel_rfl) (by simp [mixV])
            · trivial
            · simp (maxSteps := 1000000) only [List.take_succ_cons, List.take_zero, oblFrom, stepObl, fillFrom, Act.put, List.setIfInBounds_toArray, List.set_cons_zero, List.set_cons_succ, knows, getV, mixV, List.getD_cons_zero, List.getD_cons_succ, and_true, true_and, forall_const]
              refine ⟨?_, ?_, ?_, ?_, ?_, ?_, ?_, ?_, ?_, ?_, ?_, ?_, ?_, ?_, ?_, ?_, ?_, ?_, ?_, ?_, ?_, ?_, ?_, ?_, ?_, ?_, ?_⟩
              · intro xs wq hq R hR
                have f0 := hq.cell y0; have f1 := hq.cell z0
                go_simp
                exact hR _ _ (Ext.refl _) rfl
              · intro xs wq hq hk R hR
                have f0 := hq.cell y0; have f1 := hq.cell z0
                go_simp
                exact hR _ _ (Ext.refl _) rfl
              · intro xs wq hq hk R hR
                have f0 := hq.cell y0; have f1 := hq.cell z0
                go_simp
                exact hR _ _ (Ext.refl _) rfl
              · intro xs wq hq hk R hR
                have f0 := hq.cell y0; have f1 := hq.cell z0
                go_simp
                exact hR _ _ (Ext.refl _) rfl
              · intro xs wq hq hk R hR
                have f0 := hq.cell y0; have f1 := hq.cell z0
                go_simp
                exact hR _ _ (Ext.refl _) rfl
              · intro xs wq hq hk R hR
                obtain ⟨hk0, hk1⟩ := hk
                have f0 := hq.cell y0; have f1 := hq.cell z0
                go_simp
                exact hR _ _ (Ext.refl _) rfl
              · intro xs wq hq hk R hR
                obtain ⟨hk0, hk1, hk2, hk3⟩ := hk
                have f0 := hq.cell y0; have f1 := hq.cell z0
                go_simp
                exact hR _ _ (Ext.refl _) rfl
              · intro xs wq hq hk R hR
                obtain ⟨hk0, hk1⟩ := hk
                go_simp
                exact (HM1.out _ hq).mono (by rintro e' w8 ⟨rfl, hx8⟩; exact ⟨_, rfl, hR _ _ hx8 rfl⟩)
              · intro xs wq hq hk R hR
                obtain ⟨hk0, hk1⟩ := hk
                have f0 := hq.cell y0; have f1 := hq.cell z0
                go_simp
                exact hR _ _ (Ext.refl _) rfl
              · intro xs wq hq hk R hR
                have f0 := hq.cell y0; have f1 := hq.cell z0
                go_simp
                exact hR _ _ (Ext.refl _) rfl
              · intro xs wq hq hk R hR
                have f0 := hq.cell y0; have f1 := hq.cell z0
                go_simp
                exact hR _ _ (Ext.refl _) rfl
              · intro xs wq hq hk R hR
                obtain ⟨hk0, hk1⟩ := hk
                have f0 := hq.cell y0; have f1 := hq.cell z0
                go_simp
                exact hR _ _ (Ext.refl _) rfl
              · intro xs wq hq hk R hR
                obtain ⟨hk0, hk1⟩ := hk
                have f0 := hq.cell y0; have f1 := hq.cell z0
                go_simp
                exact hR _ _ (Ext.refl _) rfl
              · intro xs wq hq hk R hR
                have f0 := hq.cell y0; have f1 := hq.cell z0
                go_simp
                exact hR _ _ (Ext.refl _) rfl
              · intro xs wq hq hk R hR
                have f0 := hq.cell y0; have f1 := hq.cell z0
                go_simp
                exact hR _ _ (Ext.refl _) rfl
              · intro xs wq hq hk R hR
                obtain ⟨hk0, hk1, hk2⟩ := hk
                have f0 := hq.cell y0; have f1 := hq.cell z0
                go_simp
                exact hR _ _ (Ext.refl _) rfl
              · intro xs wq hq hk R hR
                obtain ⟨hk0, hk1⟩ := hk
                have f0 := hq.cell y0; have f1 := hq.cell z0
                go_simp
                exact hR _ _ (Ext.refl _) rfl
              · intro xs wq hq hk R hR
                obtain ⟨hk0, hk1⟩ := hk
                have f0 := hq.cell y0; have f1 := hq.cell z0
                go_simp
                exact hR _ _ (Ext.refl _) rfl
              · intro xs wq hq hk R hR
                have f0 := hq.cell y0; have f1 := hq.cell z0
                go_simp
                exact hR _ _ (Ext.refl _) rfl
              · intro xs wq hq hk R hR
                have f0 := hq.cell y0; have f1 := hq.cell z0
                go_simp
                exact hR _ _ (Ext.refl _) rfl
              · intro xs wq hq hk R hR
                obtain ⟨hk0, hk1⟩ := hk
                have f0 := hq.cell y0; have f1 := hq.cell z0
                go_simp
                exact hR _ _ (Ext.refl _) rfl
              · intro xs wq hq hk R hR
                obtain ⟨hk0, hk1, hk2⟩ := hk
                have f0 := hq.cell y0; have f1 := hq.cell z0
                go_simp
                exact hR _ _ (Ext.refl _) rfl
              · intro xs wq hq hk R hR
                obtain ⟨hk0, hk1⟩ := hk
                have f0 := hq.cell y0; have f1 := hq.cell z0
                go_simp
                exact hR _ _ (Ext.refl _) rfl
              · intro xs wq hq hk R hR
                obtain ⟨hk0, hk1⟩ := hk
                have f0 := hq.cell y0; have f1 := hq.cell z0
                go_simp
                exact hR _ _ (Ext.refl _) rfl
              · intro xs wq hq hk R hR
                obtain ⟨hk0, hk1, hk2⟩ := hk
                have f0 := hq.cell y0; have f1 := hq.cell z0
                go_simp
                exact hR _ _ (Ext.refl _) rfl
              · intro xs wq hq hk R hR
                obtain ⟨hk0, hk1, hk2⟩ := hk
                have f0 := hq.cell y0; have f1 := hq.cell z0
                go_simp
                exact hR _ _ (Ext.refl _) rfl
              · intro xs wq hq hk R hR
                obtain ⟨hk0, hk1⟩ := hk
                have f0 := hq.cell y0; have f1 := hq.cell z0
                go_simp
                exact hR _ _ (Ext.refl _) rfl
            intro xs w2 hx2 hk
            simp only [heldV, Nat.zero_add, Nat.reduceAdd, and_true] at hk
            have q0 := hk.1
            replace hk := hk.2
            have q1 := hk.1
            replace hk := hk.2
            have q2 := hk.1
            replace hk := hk.2
            have q3 := hk.1
            replace hk := hk.2
            have q4 := hk.1
            replace hk := hk.2
            have q5 := hk.1
            replace hk := hk.2
            have q6 := hk.1
            replace hk := hk.2
            have q7 := hk.1
            replace hk := hk.2
            have q8 := hk.1
            replace hk := hk.2
            have q9 := hk.1
            replace hk := hk.2
            have q10 := hk.1
            replace hk := hk.2
            have q11 := hk.1
            replace hk := hk.2
            have q12 := hk.1
            replace hk := hk.2
            have q13 := hk.1
            replace hk := hk.2
            have q14 := hk.1
            replace hk := hk.2
            have q15 := hk.1
            replace hk := hk.2
            have q16 := hk.1
            replace hk := hk.2
            have q17 := hk.1
            replace hk := hk.2
            have q18 := hk.1
            replace hk := hk.2
            have q19 := hk.1
            replace hk := hk.2
            have q20 := hk.1
            replace hk := hk.2
            have q21 := hk.1
            replace hk := hk.2
            have q22 := hk.1
            replace hk := hk.2
            have q23 := hk.1
            replace hk := hk.2
            have q24 := hk.1
            replace hk := hk.2
            have q25 := hk.1
            replace hk := hk.2
            have q26 := hk
            clear hk
            simp (maxSteps := 1000000) only [List.take_succ_cons, List.take_zero, List.drop_succ_cons, List.drop_zero, fillFrom, Act.put, List.setIfInBounds_toArray, List.set_cons_zero, List.set_cons_succ, Nat.zero_add, Nat.reduceAdd, q0, q1, q2, q3, q4, q5, q6, q7, q8, q9, q10, q11, q12, q13, q14, q15, q16, q17, q18, q19, q20, q21, q22, q23, q24, q25, q26]
            clear q0 q1 q2 q3 q4 q5 q6 q7 q8 q9 q10 q11 q12 q13 q14 q15 q16 q17 q18 q19 q20 q21 q22 q23 q24 q25 q26
            have HXM : Hid (Ext wr w2) := hx2
            clear hq0 hwj z0 hb3
            go_wp2_with fail
            go_meet
            case rel => exact ⟨by rw [← HG3.out], HXM.out⟩
  case rest =>
  obtain ⟨rfl, hxc⟩ := hcut
  obtain ⟨g2, hg2⟩ : ∃ c, (goodT l k && goodR l k x) = c := ⟨_, rfl⟩
  have HG4 : Hid (g2 = (goodT l k && goodR l k x)) := hg2.symm
  rw [hg2]
  have HX2 : Hid (Ext w wc) := HX.out.trans hxc
  clear hg2 hxc y0 hs1 hs2 hs3 hwk
  go_wp2_with fail
  go_loopw [3, 5] (fun gv i wq => ∃ n : Nat, n ≤ l.length ∧ i = .int .i64 n ∧ gv = .bool (g2 && goodU l n x) ∧ Hid (Ext w wq)) (fun _ i _ => l.length - (intOf i).toNat)
  case atStart => exact ⟨0, Nat.zero_le _, rfl, by rw [show goodU l 0 x = true from rfl, Bool.and_true], HX2⟩
  case round =>
  clear HX2 HX
  obtain ⟨n, hn, rfl, rfl, HX⟩ := hrel
  obtain ⟨g3, hg3⟩ : ∃ c, (g2 && goodU l n x) = c := ⟨_, rfl⟩
  have HG5 : Hid _ := hg3
  rw [hg3]
  clear hg3
  by_cases hnl : n < l.length
  case neg =>
    have hkk : n = l.length := by omega
    have HGX : Hid (goodT l (k + 1) = g3) := by
      unfold Hid
      rw [goodT_snoc HXK.out, ← HG5.out, hkk, HG4.out]
      unfold goodAt
      rw [Bool.and_assoc]
    clear hkk
    go_wp2_with fail
    go_roundw
    case rel => exact ⟨k + 1, by omega, by go_num, by rw [HGX.out], HX⟩
    case measure => simp [intOf]; omega
  obtain ⟨r, hr⟩ : ∃ r, l[n]? = some r := ⟨_, List.getElem?_eq_getElem hnl⟩
  obtain ⟨b3, o3, he3, d0, -⟩ := HGA.out n r hr
  cases he3
  have y0 := HX.out.cell HC0.out
  have z0 := HX.out.cell d0
  have HUS : Hid (goodU l (n + 1) x = (goodU l n x && !underB x.path r.path)) := goodU_snoc hr
  obtain ⟨u, hu⟩ : ∃ c, underB x.path r.path = c := ⟨_, rfl⟩
  have HU : Hid _ := hu
  have hrl := HSM.out r (List.mem_of_getElem? hr)
  have hxl := HSX.out
  have HUN : Hid (∀ wq, Ext wr wq → Calls Tryz.prog 40 #[S8 x.path, S8 r.path] wq fun e w' => e = .returned (.bool u) ∧ Ext wq w') := fun wq hq => by
    have h9 := under_any x.path r.path wq (HE.out.ext (HX.out.trans hq)) (by omega) (by omega)
    rwa [hu] at h9
  clear d0 hr hu hrl hxl
  cases g3
  case' false =>
    go_upto_region 13 with fail
    apply wp_region_mix 15 [_, _, _, _, _, _, _, _, _, _, _, _, _, _, .bool false] [none, none, none, none, none, none, none, none, none, none, none, none, none, none, none] [[], [0], [1], [1], [1, 2, 3], [1, 4], [1, 5], [1], [1], [1, 7, 8], [1, 9], [1, 10], [1, 6, 11], [1, 12], [1, 13]] (by kernel_rfl) (by kernel_rfl) (by simp [mixV])
    · trivial
    · simp (maxSteps := 1000000) only [List.take_succ_cons, List.take_zero, oblFrom, stepObl, fillFrom, Act.put, List.setIfInBounds_toArray, List.set_cons_zero, List.set_cons_succ, knows, getV, mixV, List.getD_cons_zero, List.getD_cons_succ, and_true, true_and, forall_const]
      refine ⟨?_, ?_, ?_, ?_, ?_, ?_, ?_, ?_, ?_, ?_, ?_, ?_, ?_, ?_, ?_⟩
      · intro xs wq hq R hR
        go_simp
        exact hR _ _ (Ext.refl _) rfl
      · intro xs wq hq hk R hR
        go_simp
        exact hR _ _ (Ext.refl _) rfl
      · intro xs wq hq hk R hR
        go_simp
        exact hR _ _ (Ext.refl _) rfl
      · intro xs wq hq hk R hR
        go_simp
        exact hR _ _ (Ext.refl _) rfl
      · intro xs wq hq hk R hR
        obtain ⟨hk0, hk1, hk2⟩ := hk
        go_simp
        exact hR _ _ (Ext.refl _) rfl
      · intro xs wq hq hk R hR
        obtain ⟨hk0, hk1⟩ := hk
        go_simp
        exact hR _ _ (Ext.refl _) rfl
      · intro xs wq hq hk R hR
        obtain ⟨hk0, hk1⟩ := hk
        go_simp
        exact hR _ _ (Ext.refl _) rfl
      · intro xs wq hq hk R hR
        go_simp
        exact hR _ _ (Ext.refl _) rfl
      · intro xs wq hq hk R hR
        go_simp
        exact hR _ _ (Ext.refl _) rfl
      · intro xs wq hq hk R hR
        obtain ⟨hk0, hk1, hk2⟩ := hk
        go_simp
        exact hR _ _ (Ext.refl _) rfl
      · intro xs wq hq hk R hR
        obtain ⟨hk0, hk1⟩ := hk
        go_simp
        exact hR _ _ (Ext.refl _) rfl
      · intro xs wq hq hk R hR
        obtain ⟨hk0, hk1⟩ := hk
        go_simp
        exact hR _ _ (Ext.refl _) rfl
      · intro xs wq hq hk R hR
        obtain ⟨hk0, hk1, hk2⟩ := hk
        go_simp
        exact hR _ _ (Ext.refl _) rfl
      · intro xs wq hq hk R hR
        obtain ⟨hk0, hk1⟩ := hk
        go_simp
        exact hR _ _ (Ext.refl _) rfl
      · intro xs wq hq hk R hR
        obtain ⟨hk0, hk1⟩ := hk
        go_simp
        exact hR _ _ (Ext.refl _) rfl
    intro xs w3 hx3 hk
    simp only [heldV, Nat.zero_add, Nat.reduceAdd, and_true] at hk
    obtain ⟨q0, q1, q2, q3, q4, q5, q6, q7, q8, q9, q10, q11, q12, q13, q14⟩ := hk
    simp (maxSteps := 1000000) only [List.take_succ_cons, List.take_zero, List.drop_succ_cons, List.drop_zero, fillFrom, Act.put, List.setIfInBounds_toArray, List.set_cons_zero, List.set_cons_succ, Nat.zero_add, Nat.reduceAdd, q0, q1, q2, q3, q4, q5, q6, q7, q8, q9, q10, q11, q12, q13, q14]
    clear q0 q1 q2 q3 q4 q5 q6 q7 q8 q9 q10 q11 q12 q13 q14
    have HG6 : Hid ((g2 && goodU l (n + 1) x) = false) := by
      unfold Hid
      rw [HUS.out, ← Bool.and_assoc, HG5.out]; rfl
  case' true =>
    go_upto_region 13 with fail
    apply wp_region_mix 15 [_, _, _, _, _, _, S8 x.path, _, _, _, _, S8 r.path, .bool u, _, .bool (!u)] [none, none, none, none, none, none, none, none, none, none, none, none, none, none, none] [[], [0], [1], [1], [1, 2, 3], [1, 4], [1, 5], [1], [1], [1, 7, 8], [1, 9], [1, 10], [1, 6, 11], [1, 12], [1, 13]] (by kernel_rfl) (by kernel_rfl) (by simp [mixV])
    · trivial
    · simp (maxSteps := 1000000) only [List.take_succ_cons, List.take_zero, oblFrom, stepObl, fillFrom, Act.put, List.setIfInBounds_toArray, List.set_cons_zero, List.set_cons_succ, knows, getV, mixV, List.getD_cons_zero, List.getD_cons_succ, and_true, true_and, forall_const]
      refine ⟨?_, ?_, ?_, ?_, ?_, ?_, ?_, ?_, ?_, ?_, ?_, ?_, ?_, ?_, ?_⟩
      · intro xs wq hq R hR
        have f0 := hq.cell y0; have f1 := hq.cell z0
        go_simp
        exact hR _ _ (Ext.refl _) rfl
      · intro xs wq hq hk R hR
        have f0 := hq.cell y0; have f1 := hq.cell z0
        go_simp
        exact hR _ _ (Ext.refl _) rfl
      · intro xs wq hq hk R hR
        have f0 := hq.cell y0; have f1 := hq.cell z0
        go_simp
        exact hR _ _ (Ext.refl _) rfl
      · intro xs wq hq hk R hR
        have f0 := hq.cell y0; have f1 := hq.cell z0
        go_simp
        exact hR _ _ (Ext.refl _) rfl
      · intro xs wq hq hk R hR
        obtain ⟨hk0, hk1, hk2⟩ := hk
        have f0 := hq.cell y0; have f1 := hq.cell z0
        go_simp
        exact hR _ _ (Ext.refl _) rfl
      · intro xs wq hq hk R hR
        obtain ⟨hk0, hk1⟩ := hk
        have f0 := hq.cell y0; have f1 := hq.cell z0
        go_simp
        exact hR _ _ (Ext.refl _) rfl
      · intro xs wq hq hk R hR
        obtain ⟨hk0, hk1⟩ := hk
        have f0 := hq.cell y0; have f1 := hq.cell z0
        go_simp
        exact hR _ _ (Ext.refl _) rfl
      · intro xs wq hq hk R hR
        have f0 := hq.cell y0; have f1 := hq.cell z0
        go_simp
        exact hR _ _ (Ext.refl _) rfl
      · intro xs wq hq hk R hR
        have f0 := hq.cell y0; have f1 := hq.cell z0
        go_simp
        exact hR _ _ (Ext.refl _) rfl
      · intro xs wq hq hk R hR
        obtain ⟨hk0, hk1, hk2⟩ := hk
        have f0 := hq.cell y0; have f1 := hq.cell z0
        go_simp
        exact hR _ _ (Ext.refl _) rfl
      · intro xs wq hq hk R hR
        obtain ⟨hk0, hk1⟩ := hk
        have f0 := hq.cell y0; have f1 := hq.cell z0
        go_simp
        exact hR _ _ (Ext.refl _) rfl
      · intro xs wq hq hk R hR
        obtain ⟨hk0, hk1⟩ := hk
        have f0 := hq.cell y0; have f1 := hq.cell z0
        go_simp
        exact hR _ _ (Ext.refl _) rfl
      · intro xs wq hq hk R hR
        obtain ⟨hk0, hk1, hk2⟩ := hk
        go_simp
        exact (HUN.out _ hq).mono (by rintro e' w8 ⟨rfl, hx8⟩; exact ⟨_, rfl, hR _ _ hx8 rfl⟩)
      · intro xs wq hq hk R hR
        obtain ⟨hk0, hk1⟩ := hk
        have f0 := hq.cell y0; have f1 := hq.cell z0
        go_simp
        exact hR _ _ (Ext.refl _) rfl
      · intro xs wq hq hk R hR
        obtain ⟨hk0, hk1⟩ := hk
        have f0 := hq.cell y0; have f1 := hq.cell z0
        go_simp
        exact hR _ _ (Ext.refl _) rfl
    intro xs w3 hx3 hk
    simp only [heldV, Nat.zero_add, Nat.reduceAdd, and_true] at hk
    obtain ⟨q0, q1, q2, q3, q4, q5, q6, q7, q8, q9, q10, q11, q12, q13, q14⟩ := hk
    simp (maxSteps := 1000000) only [List.take_succ_cons, List.take_zero, List.drop_succ_cons, List.drop_zero, fillFrom, Act.put, List.setIfInBounds_toArray, List.set_cons_zero, List.set_cons_succ, Nat.zero_add, Nat.reduceAdd, q0, q1, q2, q3, q4, q5, q6, q7, q8, q9, q10, q11, q12, q13, q14]
    clear q0 q1 q2 q3 q4 q5 q6 q7 q8 q9 q10 q11 q12 q13 q14
    have HG6 : Hid ((g2 && goodU l (n + 1) x) = !u) := by
      unfold Hid
      rw [HUS.out, ← Bool.and_assoc, HG5.out, HU.out]; rfl
  all_goals
    have HX3 : Hid (Ext w w3) := HX.out.trans hx3
    have HG7 : Hid _ := HG6.out
    clear y0 z0 hx3
    go_wp2_with fail
    go_roundw
    case rel => exact ⟨n + 1, by omega, by go_num, by rw [HG6.out], HX3⟩
    case measure => simp [intOf]; omega

end Go.Proofs.YtfgdmlmfgnhpaaaGreatDoor

/-! marlaw16: what the chapter's examples fix. Conditions: the roots of the primes as laid. -/
namespace Go.Proofs.YtfgdmlmfgnhpaaaGreatDoor
open Go Go.RowKit Go.Sort
set_option linter.unusedVariables false
set_option linter.unusedSimpArgs false
set_option linter.unusedSectionVars false

def id16 : B8 := shaM [120]
def e16 : B8 × Int := encodeM (obT 1 [98] id16)
def t16 : B8 := shaM e16.1
def g16 : B8 × Int := encodeM (obT 4 [97] t16)
def u16 : B8 := shaM g16.1
theorem b_first : id16.length ≤ 400 ∧ e16.1.length ≤ 10000000 ∧ g16.1.length ≤ 10000000 ∧ t16.length ≤ 400 ∧ u16.length ≤ 400 ∧ (t16 == u16) = false ∧ validB u16 = true ∧ mayTab (rowB 1 id16) = true ∧ mayTab [] = true := by decide +kernel

set_option maxRecDepth 100000 in
set_option maxHeartbeats 4000000 in
theorem first16_any (w : World) (hE : Env w) (hES : EnvS w) :
    Calls Tryz.prog 37 #[] w fun e w' => e = .returned (.bool true) ∧ Ext w w' := by
  obtain ⟨b1, b2, b3, b4, b5, b6, b7, b8, b9⟩ := b_first
  have HE : Hid (Env w) := hE
  have HES : Hid (EnvS w) := hES
  have HB6 : Hid _ := b6
  have HB7 : Hid _ := b7
  have HB8 : Hid _ := b8
  have HB9 : Hid _ := b9
  clear hE hES b6 b7 b8 b9
  have kc := fun (w : World) (C : Array Value) (n c : Nat) => Lib.run_convert_bytes_const (P := Tryz.prog) w 45 5 C n c Tryz.underlying45 Tryz.underlying5
  go_enter Tryz.func37, Tryz.ntmps37
  go_wp2_with fail
  obtain ⟨wa, hwa⟩ : ∃ wa, wa = w.alloc (.cells #[.int .u8 120] 5 (1, 2)) := ⟨_, rfl⟩
  have hxa : Ext w wa := by rw [hwa]; exact (Ext.refl _).alloc _
  have hrow : wa.heap[w.heap.size]? = some (.cells #[.int .u8 120] 5 (1, 2)) := by rw [hwa]; exact alloc_at _ _
  have HA : Hid (IsBytes wa (.slice (some ⟨w.heap.size, 0, none⟩) 1 1) [120]) := one_byte (x := 120) (fr := (1, 2)) hrow
  have HXA : Hid (Ext w wa) := hxa
  rw [← hwa]
  clear hwa hxa hrow
  go_at_call 35
  refine (id_sha _ [120] wa (HES.out.ext HXA.out) HA.out (by decide)).mono ?_
  rw [show shaM [120] = id16 from rfl]
  rintro e w1 ⟨rfl, hx1⟩
  have HX1 : Hid (Ext w w1) := HXA.out.trans hx1
  clear hx1 HA kc
  go_wp2_with fail
  obtain ⟨wb, hwb⟩ : ∃ wb, wb = w1.alloc (.cells #[S8 [97, 47, 98], .int .i64 1, S8 id16] 85) := ⟨_, rfl⟩
  have hxb : Ext w1 wb := by rw [hwb]; exact (Ext.refl _).alloc _
  have HR : Hid (IsRws wb (.slice (some ⟨w1.heap.size, 0, none⟩) 1 1) (rowB 1 id16)) := Row.new (by rw [hwb]; exact alloc_at _ _) (by omega) _ rfl
  have HXB : Hid (Ext w wb) := HX1.out.trans hxb
  rw [← hwb]
  clear hwb hxb
  go_at_call 120
  refine (buildOne_any _ 1 id16 wb (HE.out.ext HXB.out) (HES.out.ext HXB.out) HR.out HB8.out b1 t16 u16 b2 b3 rfl rfl b4 b5 HB6.out HB7.out).mono ?_
  rintro e w2 ⟨⟨t, a, c, rfl, hvt, htl⟩, hx2⟩
  have HX2 : Hid (Ext w w2) := HXB.out.trans hx2
  have HVT : Hid _ := hvt
  clear hx2 hvt
  go_wp2_with (first
    | (go_at_call 31; go_must (refine (valid_any t w2 (by omega)).mono ?_; rw [HVT.out]; rintro e w3 ⟨rfl, hx3⟩; have HX3 : Hid (Ext w w3) := HX2.out.trans hx3))
    | (go_at_call 39; go_must (refine (tmay_any (.slice none 0 0) [] w3 (HE.out.ext HX3.out) (IsRws.nil _) (Nat.zero_le _) (fun r hr => by cases hr)).mono ?_; rw [HB9.out]; rintro e w4 ⟨rfl, hx4⟩)))
  go_ret
  exact ⟨rfl, HX3.out.trans hx4⟩
theorem first16 (w : World) (hE : Env w) (hES : EnvS w) : First16 w := fun w' hx => first16_any w' (hE.ext hx) (hES.ext hx)
end Go.Proofs.YtfgdmlmfgnhpaaaGreatDoor

/-! marlaw5.FewEvents, Few: are events, operations few and small? Conditions: as each theorem states. -/
namespace Go.Proofs.YtfgdmlmfgnhpaaaGreatDoor
open Go Go.RowKit
variable [Inhabited BaseW]

theorem ReadO.dExt {p : List Value → Ev → Prop} {w w' : World} {v : Value} {L : List Ev} (h : ReadO w p v L) (hx : Ext w w') : ReadO w' p v L := h.stay hx.size (fun hn k hk => hx.block k (h.lt hn k hk))
/-- An operation, in its cells. -/
def IsOpn (w : World) (cs : List Value) (o : Opn) : Prop := ∃ vd vp, cs = [.int .i64 o.kind, .int .i64 o.mode, .int .i64 o.keep, .int .i64 o.torn, S8 o.path, S8 o.dest, vd, vp] ∧ OldB vd o.data ∧ ReadO w IsEvI vp o.plan
/-! ### FewEvents -/
def evW (n : Nat) (e : Ev) : Nat := min (n + min e.data.length 40000 + min e.path.length 1000) 160000
def fewEv (es : List Ev) : Bool := decide (es.length ≤ 60) && (es.all (fun e => decide (e.path.length ≤ 400)) && decide (es.foldl evW 0 ≤ 40000))
/-! ### Few -/
def opW (n : Nat) (o : Opn) : Nat := min (n + min o.data.length 40000) 160000
def okOp (o : Opn) : Bool := fewEv o.plan && (decide (o.path.length ≤ 400) && decide (o.dest.length ≤ 400))
def fewOps (l : List Opn) : Bool := decide (l.length ≤ 100) && (l.all okOp && decide (l.foldl opW 0 ≤ 40000))
theorem IsOpn.length {w : World} {cs : List Value} {o : Opn} (h : IsOpn w cs o) : cs.length = 8 ∧ cs.all (·.oneCell') = true := by
  obtain ⟨vd, vp, rfl, h1, h3⟩ := h
  obtain ⟨_, _, rfl, _⟩ := h1.bytes
  obtain ⟨_, ⟨_, _, rfl, _⟩, _⟩ := h3
  exact ⟨rfl, by simp [Value.oneCell']⟩
abbrev IsOps (w : World) (v : Value) (l : List Opn) : Prop := ReadO w (IsOpn w) v l
end Go.Proofs.YtfgdmlmfgnhpaaaGreatDoor

/-! marlaw5: what comes in: operations, by their fields, their slices, their events, read as the texts say. Conditions: what one slice may hold. -/
namespace Go.Proofs.YtfgdmlmfgnhpaaaGreatDoor
open Go Go.ChangeShapes Go.WideShapes Go.ChangeAt Go.RowKit Go.Deep

theorem own : ownKnob Tryz.prog.godebug = none := by kernel_rfl
theorem laidOut : laidOutB Tryz.prog = true := by kernel_rfl
theorem env_of {W : World} (hs : W.ShapedOpen Tryz.prog) : Env W :=
  ⟨Go.Proofs.cell_of_shapedOpen_int (zero := #[.int .i64 0]) (t := 3) hs (of_decide_eq_true (by kernel_rfl)) (by kernel_rfl) rfl (by kernel_rfl) (by kernel_rfl) Tryz.underlying3⟩

theorem trodAll_below (hl : laidOutB Tryz.prog = true) {H : Type} {enc : TypeId × Value → H} {W W' : World} (hb : Below W.heap.size W W') : ∀ {ts : List TypeId} {vs : List Value} {ds : List (DataW H)} {ps : List MemPlace}, DataW.TrodAll enc Tryz.prog W 0 (fun _ => true) true ts vs ds ps → (∀ x ∈ ps, x.block < W.heap.size) → (∀ t ∈ ts, Tryz.prog.readableRec t = true ∧ t < Tryz.prog.types.size) →
    DataW.TrodAll enc Tryz.prog W' 0 (fun b => decide (b < W.heap.size)) true ts vs ds ps
  | [], vs, ds, ps, h, _, _ => by
    obtain ⟨rfl, rfl, rfl⟩ := trodAll_nil h
    exact trodAll_mk0
  | t :: ts, vs, ds, ps, h, hlt, hr => by
    obtain ⟨v, vs', d, ds', p, q, rfl, rfl, rfl, h0, h1⟩ := trodAll_cons h
    exact ⟨p, q, Below.trod hl (hr t (by simp)).1 (hr t (by simp)).2 h0 hb (fun x hx => hlt x (by simp [hx])), trodAll_below hl hb h1 (fun x hx => hlt x (by simp [hx])) (fun t ht => hr t (by simp [ht])), rfl⟩

theorem i64_wf {n : Int} (h : (Lit.int .i64 n).wf = true) : I64 n := by
  have h1 : IntKind.i64.min = -9223372036854775808 := rfl
  have h2 : IntKind.i64.max = 9223372036854775807 := rfl
  simp only [Lit.wf, Bool.and_eq_true, decide_eq_true_eq] at h
  unfold I64
  omega

section
variable {H : Type} {enc : TypeId × Value → H} {P : Program} {w : World} {base : Nat} {spare : Nat → Bool} {held : Bool}
end

/-! ### What one slice may hold, at any depth -/
def Szd {H : Type} (t : TypeId) (d : DataW H) : Prop := ∀ n ∈ d.weights Tryz.prog t, n ≤ reachBytes
theorem szd_arg {H : Type} {ts : List TypeId} {ds : List (DataW H)} {j : Nat} {t : TypeId} {d : DataW H} (h : (DataW.weightsEach Tryz.prog ts ds).all (· ≤ reachBytes) = true) (ht : ts[j]? = some t) (hd : ds[j]? = some d) : Szd t d := fun n hn => by
  have := List.all_eq_true.1 h _ (DataW.weights_mem_each ht hd n hn)
  simpa using this
theorem wAll_mem {H : Type} {P : Program} {e : TypeId} : ∀ {l : List (DataW H)} {d : DataW H}, d ∈ l → ∀ n ∈ d.weights P e, n ∈ DataW.weightsAll P e l
  | d' :: r, d, hd, n, hn => by
    simp only [DataW.weightsAll, List.mem_append]
    rcases List.mem_cons.1 hd with rfl | h
    · exact Or.inl hn
    · exact Or.inr (wAll_mem h n hn)
theorem szd_slice {H : Type} {t q : TypeId} {e s : List (DataW H)} (h : Szd t (.slice e s)) (hu : Tryz.prog.underlying t = some (.slice q)) : (e.length + s.length) * Tryz.prog.bytesOf q ≤ reachBytes ∧ ∀ d ∈ e, Szd q d := by
  refine ⟨h _ (by simp [DataW.weights, hu]), fun d hd n hn => h n ?_⟩
  simp only [DataW.weights, hu, List.mem_cons, List.mem_append]
  exact Or.inr (Or.inl (wAll_mem hd n hn))
section
variable {H : Type} {enc : TypeId × Value → H} {W : World}
theorem trod_i64 {n : Nat} {v : Value} {y : DataW H × List MemPlace} (h : DataW.trod enc Tryz.prog W 0 (fun _ => true) true n 3 [v] = some y) : ∃ z, v = .int .i64 z ∧ I64 z := by
  obtain ⟨z, hc, -, hw⟩ := DataW.trod_int Tryz.underlying3 h
  simp only [List.cons.injEq, and_true] at hc
  exact ⟨z, hc, i64_wf hw⟩
theorem trod_s8 {n : Nat} {v : Value} {y : DataW H × List MemPlace} (h : DataW.trod enc Tryz.prog W 0 (fun _ => true) true n 9 [v] = some y) : ∃ l : B8, v = S8 l := by
  obtain ⟨s, hc, -, -⟩ := DataW.trod_string Tryz.underlying9 h
  simp only [List.cons.injEq, and_true] at hc
  exact ⟨s.data.toList, hc⟩

theorem row_of_cells {a : Addr} {len cap : Nat} {cs : List Value} (hl : len ≤ cap) (hm : cap ≤ maxLen) (hn : len ≤ 140737488355328) (hc : ∀ i u, cs[i]? = some u → W.cell? (a.add i) = some u) : Row W (.slice (some a) len cap) len cs := by
  unfold maxLen at hm
  refine ⟨some a, cap, rfl, hl, by omega, hn, fun hne => ?_⟩
  obtain ⟨x, r, rfl⟩ : ∃ x r, cs = x :: r := by
    cases cs with
    | nil => exact (hne rfl).elim
    | cons x r => exact ⟨x, r, rfl⟩
  have hspot : a.spot = none := by
    have := World.cell?_spot (hc 0 x rfl)
    simpa [Addr.add] using this
  obtain ⟨b, o, sp⟩ := a
  simp only at hspot
  subst hspot
  refine ⟨b, o, rfl, fun i u hu => ?_⟩
  have hadd : (⟨b, o, none⟩ : Addr).add i = ⟨b, o + i, none⟩ := by unfold Addr.add; split <;> simp_all
  rw [← hadd]
  exact hc i u hu


theorem row_low {w : World} {v : Value} {n : Nat} {cs : List Value} (h : Row w v n cs) (hn : cs ≠ []) : ∀ k, v.ownBlock = some k → k < w.heap.size := by
  obtain ⟨a, cap, rfl, h1, h2, h3, h4⟩ := h
  obtain ⟨b, o, rfl, hc⟩ := h4 hn
  intro k hk
  cases cs with
  | nil => exact (hn rfl).elim
  | cons x r =>
    have := World.block_lt_of_cell? _ _ (hc 0 x rfl)
    have hb : b = k := by simpa [Value.ownBlock] using hk
    subst hb
    exact this
theorem flat_inv (m : Nat) (hm : 0 < m) (css : List (List Value)) (h : ∀ c ∈ css, c.length = m) (q : Nat) (u : Value) (hq : css.flatten[q]? = some u) : ∃ c, css[q / m]? = some c ∧ c[q % m]? = some u := by
  induction css generalizing q with
  | nil => simp at hq
  | cons c r ih =>
    have hc := h c (by simp)
    by_cases hl : q < m
    · refine ⟨c, by rw [Nat.div_eq_of_lt hl]; rfl, ?_⟩
      rw [Nat.mod_eq_of_lt hl]
      simpa [List.flatten_cons, List.getElem?_append_left (show q < c.length by omega)] using hq
    · rw [List.flatten_cons, List.getElem?_append_right (by omega), hc] at hq
      obtain ⟨d, h1, h2⟩ := ih (fun x hx => h x (by simp [hx])) (q - m) hq
      refine ⟨d, ?_, ?_⟩
      · have : q / m = (q - m) / m + 1 := by
          rw [Nat.div_eq_sub_div hm (by omega)]
        rw [this]
        exact h1
      · rw [Nat.mod_eq_sub_mod (by omega)]
        exact h2


theorem mul_ge {a b c : Nat} (h : a * b ≤ c) (hb : 1 ≤ b) : a ≤ c := Nat.le_trans (Nat.le_mul_of_pos_right a hb) h
/-- A slice of structs, from what each row says. -/
theorem readO_of {α : Type} (m : Nat) (hm0 : 0 < m) {a : Addr} {len cap : Nat} (d0 : List Value × α) (hl : len ≤ cap) (hm : cap ≤ maxLen) (hn : len ≤ 140737488355328) {p : List Value → α → Prop} (hp : ∀ c x, p c x → c.length = m)
    (key : ∀ i, i < len → ∃ ce : List Value × α, p ce.1 ce.2 ∧ ∀ j u, ce.1[j]? = some u → W.cell? (a.add (i * m + j)) = some u) : ∃ xs : List α, ReadO W p (.slice (some a) len cap) xs ∧ xs.length = len ∧ ∀ x ∈ xs, ∃ c, p c x := by
  have key2 : ∀ i, ∃ ce : List Value × α, i < len → p ce.1 ce.2 ∧ ∀ j u, ce.1[j]? = some u → W.cell? (a.add (i * m + j)) = some u := fun i => by
    by_cases h : i < len
    · obtain ⟨ce, h1⟩ := key i h
      exact ⟨ce, fun _ => h1⟩
    · exact ⟨d0, fun hc => (h hc).elim⟩
  have CE := fun i => (key2 i).choose_spec
  generalize hce : (fun i => (key2 i).choose) = ce at CE
  have CE' : ∀ i, i < len → p (ce i).1 (ce i).2 ∧ ∀ j u, (ce i).1[j]? = some u → W.cell? (a.add (i * m + j)) = some u := fun i hil => by
    have := CE i hil
    rw [← hce]
    exact this
  have hget : ∀ (i : Nat) c, ((List.range len).map fun i => (ce i).1)[i]? = some c → i < len ∧ c = (ce i).1 := fun i c hc => by
    have hil := (List.getElem?_eq_some_iff.1 hc).1
    simp only [List.length_map, List.length_range] at hil
    refine ⟨hil, ?_⟩
    rw [List.getElem?_map, List.getElem?_range hil] at hc
    exact (Option.some.inj hc).symm
  have hrow : Row W (.slice (some a) len cap) len ((List.range len).map fun i => (ce i).1).flatten := by
    refine row_of_cells hl hm hn fun q u hq => ?_
    obtain ⟨c, hc, hu⟩ := flat_inv m hm0 _ (fun c hc => by
      obtain ⟨i, hir, rfl⟩ := List.mem_map.1 hc
      exact hp _ _ (CE' i (by simpa using hir)).1) q u hq
    obtain ⟨hil, rfl⟩ := hget _ _ hc
    have := (CE' _ hil).2 _ u hu
    rwa [show q / m * m + q % m = q by rw [Nat.mul_comm]; exact Nat.div_add_mod q m] at this
  refine ⟨(List.range len).map fun i => (ce i).2, ⟨(List.range len).map fun i => (ce i).1, by rw [List.length_map, List.length_range]; exact hrow, fun hne => ?_, by simp, fun i c e hc he => ?_⟩, by simp, fun x hx => ?_⟩
  · refine row_low hrow fun h0 => ?_
    have hlen : 0 < len := by
      cases len with
      | zero => exact (hne rfl).elim
      | succ n => omega
    have h1 := hp _ _ (CE' 0 hlen).1
    have h2 : ((List.range len).map fun i => (ce i).1)[0]? = some (ce 0).1 := by rw [List.getElem?_map, List.getElem?_range hlen]; rfl
    have h3 := List.mem_of_getElem? h2
    have h4 := List.flatten_eq_nil_iff.1 h0 _ h3
    rw [h4] at h1
    simp at h1
    omega
  · obtain ⟨hil, rfl⟩ := hget _ _ hc
    rw [List.getElem?_map, List.getElem?_range hil] at he
    cases he
    exact (CE' i hil).1
  · obtain ⟨i, hir, rfl⟩ := List.mem_map.1 hx
    exact ⟨_, (CE' i (by simpa using hir)).1⟩
end

section
variable [Inhabited BaseW] {H : Type} {enc : TypeId × Value → H} {W : World}
end

end Go.Proofs.YtfgdmlmfgnhpaaaGreatDoor

/-! marlaw13.Few, patterns. Conditions: as each theorem states. -/
namespace Go.Proofs.YtfgdmlmfgnhpaaaGreatDoor
open Go Go.RowKit
set_option linter.unusedVariables false
set_option linter.unusedSimpArgs false
set_option linter.unusedSectionVars false
variable [Inhabited BaseW]

section
variable {ops : Array Oper} {rest : List Oper} {o : Oper} {a : Act} {Q : Exit → Act → World → Prop} {w : World}
end

theorem IsOpn.ext {w w' : World} {cs : List Value} {o : Opn} (h : IsOpn w cs o) (hx : Ext w w') : IsOpn w' cs o := by
  obtain ⟨vd, vp, rfl, h1, h2⟩ := h
  exact ⟨vd, vp, rfl, h1, h2.dExt hx⟩
theorem IsOps.ext {w w' : World} {v : Value} {l : List Opn} (h : IsOps w v l) (hx : Ext w w') : IsOps w' v l :=
  (h.stay hx.size (fun hn k hk => hx.block k (h.lt hn k hk))).mono (fun c x hc => hc.ext hx)

/-- marlaw13's operations. -/
structure Sop where
  kind : Int
  f : Opn
def IsSop (w : World) (cs : List Value) (o : Sop) : Prop := ∃ fs, cs = .int .i64 o.kind :: fs ∧ IsOpn w fs o.f
theorem IsSop.length {w : World} {cs : List Value} {o : Sop} (h : IsSop w cs o) : cs.length = 9 := by
  obtain ⟨fs, rfl, h⟩ := h
  simp [(h.length).1]
abbrev IsSops (w : World) (v : Value) (l : List Sop) : Prop := ReadO w (IsSop w) v l
def fewS (l : List Sop) : Bool := decide (l.length ≤ 60) && fewOps (l.map Sop.f)
end Go.Proofs.YtfgdmlmfgnhpaaaGreatDoor
