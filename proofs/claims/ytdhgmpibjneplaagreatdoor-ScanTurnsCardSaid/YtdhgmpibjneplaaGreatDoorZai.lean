/- names.Under; a block of the call's own is written. Conditions: as each theorem states. -/
import Derived.Test.YtdhgmpibjneplaaGreatDoorZab
import Derived.Test.YtdhgmpibjneplaaGreatDoorZaf
import Derived.Test.YtdhgmpibjneplaaGreatDoorZag
import Derived.Deep.Upon
import Derived.OwnWalk
import Derived.BigQuiet
import Derived.Deep.DeepCutAuto
import Derived.Test.YtdhgmpibjneplaaGreatDoorZad
import Derived.Test.YtdhgmpibjneplaaGreatDoorZah
import Derived.Laws.StructEq
import Derived.Test.YtdhgmpibjneplaaGreatDoorZae
import Derived.Lib.SlBytesConst

set_option linter.unusedVariables false
set_option linter.unusedSimpArgs false
set_option linter.unusedSectionVars false

/-! wire: merge, Sort, Unique. Conditions: lists of at most 1000000 texts. -/
namespace Go.Proofs.YtdhgmpibjneplaaGreatDoor
open Go Go.RowKit
set_option linter.unusedVariables false
set_option linter.unusedSimpArgs false
set_option linter.unusedSectionVars false

theorem bytesLess_ltB : ∀ a b : B8, Op.bytesLess a b = ltB a b
  | [], [] => by simp [Op.bytesLess, ltB]
  | [], _ :: _ => by simp [Op.bytesLess, ltB]
  | _ :: _, [] => by simp [Op.bytesLess, ltB]
  | a :: r, b :: s => by
    rw [Op.bytesLess, bytesLess_ltB r s]
    unfold ltB
    rw [Bool.eq_iff_iff]
    simp [List.cons_lt_cons_iff]
theorem IsStrs.tail {w : World} {a : Option Addr} {cap : Nat} {l : List B8} (k : Nat) (h : IsStrs w (.slice a l.length cap) l) (hk : k ≤ l.length) :
    ∀ a', (a = none → a' = none) → (cap ≠ k → ∀ b o, a = some ⟨b, o, none⟩ → a' = some ⟨b, o + k, none⟩) → IsStrs w (.slice a' (l.length - k) (cap - k)) (l.drop k) := by
  obtain ⟨a2, cap2, he, h1, h2, h3, h4⟩ := h
  simp only [Value.slice.injEq, true_and] at he
  obtain ⟨rfl, rfl⟩ := he
  intro a' hn hs
  have hlen : (l.drop k).length = l.length - k := List.length_drop
  unfold IsStrs
  rw [hlen]
  refine ⟨a', cap - k, rfl, by omega, by omega, by omega, fun hne => ?_⟩
  have hlt : k < l.length := by
    rcases Nat.lt_or_ge k l.length with h | h
    · exact h
    · rw [List.drop_eq_nil_of_le h] at hne; simp at hne
  obtain ⟨b, o, rfl, hc⟩ := h4 (by intro h0; rw [List.map_eq_nil_iff] at h0; subst h0; simp at hlt)
  refine ⟨b, o + k, hs (by omega) b o rfl, fun i u hu => ?_⟩
  rw [List.getElem?_map, List.getElem?_drop] at hu
  have := hc (k + i) u (by rw [List.getElem?_map]; exact hu)
  rwa [← Nat.add_assoc] at this
theorem IsStrs.head {w : World} {a : Option Addr} {cap : Nat} {l : List B8} (k : Nat) (h : IsStrs w (.slice a l.length cap) l) (hk : k ≤ l.length) : IsStrs w (.slice a k cap) (l.take k) := by
  obtain ⟨a2, cap2, he, h1, h2, h3, h4⟩ := h
  simp only [Value.slice.injEq, true_and] at he
  obtain ⟨rfl, rfl⟩ := he
  have hlen : (l.take k).length = k := by rw [List.length_take]; omega
  unfold IsStrs
  rw [hlen]
  refine ⟨a, cap, rfl, by omega, by omega, by omega, fun hne => ?_⟩
  obtain ⟨b, o, rfl, hc⟩ := h4 (by intro h0; rw [List.map_eq_nil_iff] at h0; subst h0; simp at hne)
  refine ⟨b, o, rfl, fun i u hu => hc i u ?_⟩
  rw [List.getElem?_map, List.getElem?_take] at hu
  split at hu
  · rw [List.getElem?_map]; exact hu
  · cases hu
theorem ltB_irr (a : B8) : ltB a a = false := by
  unfold ltB
  rw [decide_eq_false_iff_not]
  exact List.lt_irrefl a
def cmpI (a b : B8) : Int := if ltB a b = true then -1 else if ltB b a = true then 1 else 0
set_option maxRecDepth 100000 in
theorem compare_any (a b : B8) (w : World) : Calls Tryz.prog 103 #[S8 a, S8 b] w fun e w' => e = .returned (.int .i64 (cmpI a b)) ∧ w' = w := by
  obtain ⟨x, hx⟩ : ∃ x, ltB a b = x := ⟨_, rfl⟩
  have h1 : Op.bytesLess a b = x := by rw [bytesLess_ltB]; exact hx
  cases x with
  | true =>
    have hr : cmpI a b = -1 := by unfold cmpI; rw [hx]; rfl
    rw [hr]
    clear hr hx
    go_enter Tryz.func103, Tryz.ntmps103
    go_wp2
    go_ret
    exact ⟨rfl, rfl⟩
  | false =>
    obtain ⟨y, hy⟩ : ∃ y, ltB b a = y := ⟨_, rfl⟩
    have h2 : (a == b) = !y := by
      cases y with
      | true => simpa using fun e : a = b => by rw [e, ltB_irr] at hy; cases hy
      | false => simpa using leT_anti (a := a) (b := b) (by unfold leT; rw [hy]; rfl) (by unfold leT; rw [hx]; rfl)
    have hr : cmpI a b = if y = true then 1 else 0 := by unfold cmpI; rw [hx, hy]; rfl
    rw [hr]
    clear hr hx hy
    cases y with
    | true =>
      have h3 : (a == b) = false := h2
      clear h2
      go_enter Tryz.func103, Tryz.ntmps103
      go_wp2
      go_ret
      exact ⟨rfl, rfl⟩
    | false =>
      have h3 : (a == b) = true := h2
      clear h2
      go_enter Tryz.func103, Tryz.ntmps103
      go_wp2
      go_ret
      exact ⟨rfl, rfl⟩

def lenV : Value → Nat
  | .slice _ n _ => n
  | _ => 0
set_option maxRecDepth 100000 in
set_option maxHeartbeats 4000000 in
theorem wmerge_any (va vb : Value) (A B : List B8) (w : World) (hA : IsStrs w va A) (hB : IsStrs w vb B) (ua : upL A) (ub : upL B) (hl : A.length + B.length ≤ 2000000) :
    Calls Tryz.prog 150 #[va, vb] w fun e w' => (∃ v, e = .returned v ∧ w'.ownsRow w.heap.size 9 1 v (A.length + B.length) ((sortT (A ++ B)).map S8)) ∧ Ext w w' := by
  obtain ⟨a0, ac, rfl, la1, la2, la3, -⟩ := hA.get
  obtain ⟨b0, bc, rfl, lb1, lb2, lb3, -⟩ := hB.get
  have HA : Hid (IsStrs w (.slice a0 A.length ac) A) := hA
  have HB : Hid (IsStrs w (.slice b0 B.length bc) B) := hB
  have HM : Hid (MInv A B A B []) := MInv.start ua ub
  obtain ⟨i0, hi, hz0, hz1, hz2⟩ := info_parts info_str
  clear hA hB ua ub
  go_enter Tryz.func150, Tryz.ntmps150
  go_wp2_with (at_make; go_must (refine wpList_make_own _ rfl _ _ 23 rfl w.heap.size 9 i0 _ 1 Tryz.underlying23 hi hz0 hz1 _ _ _ (A.length + B.length) rfl rfl (by omega) (by rw [hz2]; omega) (by unfold maxLen; omega) (Nat.le_refl _) ?_; intro w1 hown1 hg1))
  have HX1 : Hid (Ext w w1) := Below.grown (Ext.refl w) hg1 (Nat.le_refl _) (fun k hk => by cases hk)
  clear hg1
  go_loopw [0, 1, 5] (fun xa xb v wr => ∃ (a b C : List B8), Hid (MInv A B a b C) ∧ Hid (IsStrs w xa a) ∧ Hid (IsStrs w xb b) ∧ wr.ownsRow w.heap.size 9 1 v C.length (C.map S8) ∧ Hid (Ext w wr)) (fun xa xb _ _ => lenV xa + lenV xb)
  case atStart => exact ⟨A, B, [], HM, HA, HB, hown1, HX1⟩
  case round =>
  clear hown1
  obtain ⟨a, b, C, HI, HXA, HXB, hown, HX⟩ := hrel
  have hln := HI.out.len
  have HA1 : Hid (IsStrs wr _ a) := IsStrs.ext HXA.out HX.out
  have HB1 : Hid (IsStrs wr _ b) := IsStrs.ext HXB.out HX.out
  obtain ⟨aa, ca, rfl, ka1, ka2, ka3, hga⟩ := HA1.out.get
  obtain ⟨ab, cb, rfl, kb1, kb2, kb3, hgb⟩ := HB1.out.get
  have HGA : Hid _ := hga
  have HGB : Hid _ := hgb
  clear hga hgb
  have hsz := HX.out.size
  cases a with
  | nil =>
    have HF : Hid (C ++ ([] ++ b) = sortT (A ++ B)) := HI.out.swap.fin
    have hcl : C.length + 0 + b.length = A.length + B.length := by simpa using hln
    clear HGA HGB
    go_wp2_with first | (at_builtin; (have hq9 := HB4.out); go_must (refine appS_op _ _ _ 1 16 Tryz.underlying23 info_str rfl (by omega) rfl (.tmp 40) (.tmp 41) rfl rfl w.heap.size _ _ _ rfl hown4 _ b.length (b.map S8) rfl HB4.out (by simp) (by intro u hu; first | (obtain ⟨_, _, rfl⟩ := List.mem_map.1 hu; rfl) | cases hu) (by omega) (by omega) hsz4 ?_; intro v5 w5 hown5 hg5; have hx5 : Ext w w5 := owns_ext_app hx4 hown4 hg5)) | (at_builtin; go_must (refine appS_op _ _ _ 1 16 Tryz.underlying23 info_str rfl (by omega) rfl (.tmp 38) (.tmp 39) rfl rfl w.heap.size _ C.length (C.map S8) rfl hown _ 0 [] rfl HA1.out (by simp) (by intro u hu; first | (obtain ⟨_, _, rfl⟩ := List.mem_map.1 hu; rfl) | cases hu) (by omega) (by omega) hsz ?_; intro v4 w4 hown4 hg4; have hx4 : Ext w w4 := owns_ext_app HX.out hown hg4; have hsz4 := hx4.size; have HB4 : Hid (IsStrs w4 _ _) := IsStrs.ext HXB.out hx4))
    go_ret
    refine ⟨⟨_, rfl, ?_⟩, hx5⟩
    rw [← HF.out]
    have h9 := hown5
    rw [hcl] at h9
    simpa using h9
  | cons x a =>
    cases b with
    | nil =>
      have HF : Hid (C ++ ((x :: a) ++ []) = sortT (A ++ B)) := by have h9 := HI.out.fin; unfold Hid; rw [List.append_nil]; exact h9
      have hcl : C.length + (a.length + 1) + 0 = A.length + B.length := by simpa using hln
      clear HGA HGB
      go_wp2_with first | (at_builtin; (have hq9 := HB4.out); go_must (refine appS_op _ _ _ 1 16 Tryz.underlying23 info_str rfl (by omega) rfl (.tmp 40) (.tmp 41) rfl rfl w.heap.size _ _ _ rfl hown4 _ 0 [] rfl HB4.out (by simp) (by intro u hu; first | (obtain ⟨_, _, rfl⟩ := List.mem_map.1 hu; rfl) | cases hu) (by omega) (by omega) hsz4 ?_; intro v5 w5 hown5 hg5; have hx5 : Ext w w5 := owns_ext_app hx4 hown4 hg5)) | (at_builtin; go_must (refine appS_op _ _ _ 1 16 Tryz.underlying23 info_str rfl (by omega) rfl (.tmp 38) (.tmp 39) rfl rfl w.heap.size _ C.length (C.map S8) rfl hown _ (a.length + 1) ((x :: a).map S8) rfl HA1.out (by simp) (by intro u hu; first | (obtain ⟨_, _, rfl⟩ := List.mem_map.1 hu; rfl) | cases hu) (by omega) (by omega) hsz ?_; intro v4 w4 hown4 hg4; have hx4 : Ext w w4 := owns_ext_app HX.out hown hg4; have hsz4 := hx4.size; have HB4 : Hid (IsStrs w4 _ _) := IsStrs.ext HXB.out hx4))
      go_ret
      refine ⟨⟨_, rfl, ?_⟩, hx5⟩
      rw [← HF.out]
      have h9 := hown5
      rw [hcl] at h9
      simpa using h9
    | cons y b =>
      obtain ⟨ba, oa, rfl, hca⟩ := HGA.out 0 (by simp)
      obtain ⟨bb, ob, rfl, hcb⟩ := HGB.out 0 (by simp)
      have y1 : wr.cell? ⟨ba, oa, none⟩ = some (S8 x) := hca 0 (by simp)
      have y2 : wr.cell? ⟨bb, ob, none⟩ = some (S8 y) := hcb 0 (by simp)
      clear hca hcb HGA HGB HA1 HB1
      simp only [List.length_cons] at hln ka1 ka2 kb1 kb2
      obtain ⟨c, hc⟩ : ∃ c, cmpI y x = c := ⟨_, rfl⟩
      have HC : Hid _ := hc
      cases hq : ltB y x with
      | false =>
        have HQ : Hid (MInv A B a (y :: b) (C ++ [x])) := HI.out.step hq
        have hcn : ¬ c < 0 := by
          rw [← hc]
          unfold cmpI
          rw [hq]
          cases ltB x y <;> simp
        clear hc hq
        go_upto_region 3 with fail
        apply wp_region_mix 8 [_, _, S8 y, _, _, S8 x, .int .i64 c, .bool false] [none, none, none, none, none, none, none, none] [[], [0], [1], [], [3], [4], [2, 5], [6]] (by kernel_rfl) (by kernel_rfl) (by simp [mixV])
        · trivial
        · simp (maxSteps := 1000000) only [List.take_succ_cons, List.take_zero, oblFrom, stepObl, fillFrom, Act.put, List.setIfInBounds_toArray, List.set_cons_zero, List.set_cons_succ, knows, getV, mixV, List.getD_cons_zero, List.getD_cons_succ, and_true, true_and, forall_const]
          refine ⟨?_, ?_, ?_, ?_, ?_, ?_, ?_, ?_⟩
          · intro xs wq hq R hR
            have f1 := hq.cell y1; have f2 := hq.cell y2
            go_simp
            exact hR _ _ (Ext.refl _) rfl
          · intro xs wq hq hk R hR
            have f1 := hq.cell y1; have f2 := hq.cell y2
            go_simp
            exact hR _ _ (Ext.refl _) rfl
          · intro xs wq hq hk R hR
            have f1 := hq.cell y1; have f2 := hq.cell y2
            go_simp
            exact hR _ _ (Ext.refl _) rfl
          · intro xs wq hq R hR
            have f1 := hq.cell y1; have f2 := hq.cell y2
            go_simp
            exact hR _ _ (Ext.refl _) rfl
          · intro xs wq hq hk R hR
            have f1 := hq.cell y1; have f2 := hq.cell y2
            go_simp
            exact hR _ _ (Ext.refl _) rfl
          · intro xs wq hq hk R hR
            have f1 := hq.cell y1; have f2 := hq.cell y2
            go_simp
            exact hR _ _ (Ext.refl _) rfl
          · intro xs wq hq hk R hR
            obtain ⟨hk0, hk1⟩ := hk
            go_simp
            exact (compare_any y x _).mono (by rw [HC.out]; rintro e' w4 ⟨rfl, rfl⟩; exact ⟨_, rfl, hR _ _ (Ext.refl _) rfl⟩)
          · intro xs wq hq hk R hR
            have f1 := hq.cell y1; have f2 := hq.cell y2
            go_simp
            exact hR _ _ (Ext.refl _) rfl
        intro xs w2 hx2 hk
        simp only [heldV, Nat.zero_add, Nat.reduceAdd, and_true] at hk
        obtain ⟨q0, q1, q2, q3, q4, q5, q6, q7⟩ := hk
        simp (maxSteps := 1000000) only [List.take_succ_cons, List.take_zero, List.drop_succ_cons, List.drop_zero, fillFrom, Act.put, List.setIfInBounds_toArray, List.set_cons_zero, List.set_cons_succ, Nat.zero_add, Nat.reduceAdd, q0, q1, q2, q3, q4, q5, q6, q7]
        clear q0 q1 q2 q3 q4 q5 q6 q7
        have y3 := hx2.cell y1
        have hown2 := owns_ext hown hx2
        have hsz2 := hx2.size
        have HX2 : Hid (Ext w w2) := HX.out.trans hx2
        have HT : Hid (IsStrs w (.slice (if ca = 1 then some ⟨ba, oa, none⟩ else some ⟨ba, oa + 1, none⟩) a.length (ca - 1)) a) := IsStrs.tail (l := x :: a) 1 HXA.out (by simp) (if ca = 1 then some ⟨ba, oa, none⟩ else some ⟨ba, oa + 1, none⟩) (fun h => by cases h) (fun h b o e => by rw [if_neg h]; cases e; rfl)
        clear hx2 y1 y2
        go_wp2_with (at_builtin; go_must (refine app_str rfl _ _ rfl w.heap.size _ C.length _ rfl (hown2.alloc _) w2.heap.size 1 1 [x] rfl rfl (alloc_at _ _) (by omega) (by simp; omega) ?_; intro v' w3 hown3 hg3))
        go_roundw
        case rel => exact ⟨a, y :: b, C ++ [x], HQ, HT, HXB, by rw [List.length_append]; exact hown3, owns_ext_app (HX2.out.alloc _) (hown2.alloc _) hg3⟩
        case measure => simp [lenV]
      | true =>
        have hxy : ltB x y = false := by
          cases h9 : ltB x y with
          | false => rfl
          | true =>
            have := ltB_trans hq h9
            rw [ltB_irr] at this
            cases this
        have HQ : Hid (MInv A B b (x :: a) (C ++ [y])) := HI.out.swap.step hxy
        have hcn : c < 0 := by
          rw [← hc]
          unfold cmpI
          rw [hxy, hq]
          decide
        clear hc hq hxy
        go_upto_region 3 with fail
        apply wp_region_mix 8 [_, _, S8 y, _, _, S8 x, .int .i64 c, .bool true] [none, none, none, none, none, none, none, none] [[], [0], [1], [], [3], [4], [2, 5], [6]] (by kernel_rfl) (by kernel_rfl) (by simp [mixV])
        · trivial
        · simp (maxSteps := 1000000) only [List.take_succ_cons, List.take_zero, oblFrom, stepObl, fillFrom, Act.put, List.setIfInBounds_toArray, List.set_cons_zero, List.set_cons_succ, knows, getV, mixV, List.getD_cons_zero, List.getD_cons_succ, and_true, true_and, forall_const]
          refine ⟨?_, ?_, ?_, ?_, ?_, ?_, ?_, ?_⟩
          · intro xs wq hq R hR
            have f1 := hq.cell y1; have f2 := hq.cell y2
            go_simp
            exact hR _ _ (Ext.refl _) rfl
          · intro xs wq hq hk R hR
            have f1 := hq.cell y1; have f2 := hq.cell y2
            go_simp
            exact hR _ _ (Ext.refl _) rfl
          · intro xs wq hq hk R hR
            have f1 := hq.cell y1; have f2 := hq.cell y2
            go_simp
            exact hR _ _ (Ext.refl _) rfl
          · intro xs wq hq R hR
            have f1 := hq.cell y1; have f2 := hq.cell y2
            go_simp
            exact hR _ _ (Ext.refl _) rfl
          · intro xs wq hq hk R hR
            have f1 := hq.cell y1; have f2 := hq.cell y2
            go_simp
            exact hR _ _ (Ext.refl _) rfl
          · intro xs wq hq hk R hR
            have f1 := hq.cell y1; have f2 := hq.cell y2
            go_simp
            exact hR _ _ (Ext.refl _) rfl
          · intro xs wq hq hk R hR
            obtain ⟨hk0, hk1⟩ := hk
            go_simp
            exact (compare_any y x _).mono (by rw [HC.out]; rintro e' w4 ⟨rfl, rfl⟩; exact ⟨_, rfl, hR _ _ (Ext.refl _) rfl⟩)
          · intro xs wq hq hk R hR
            have f1 := hq.cell y1; have f2 := hq.cell y2
            go_simp
            exact hR _ _ (Ext.refl _) rfl
        intro xs w2 hx2 hk
        simp only [heldV, Nat.zero_add, Nat.reduceAdd, and_true] at hk
        obtain ⟨q0, q1, q2, q3, q4, q5, q6, q7⟩ := hk
        simp (maxSteps := 1000000) only [List.take_succ_cons, List.take_zero, List.drop_succ_cons, List.drop_zero, fillFrom, Act.put, List.setIfInBounds_toArray, List.set_cons_zero, List.set_cons_succ, Nat.zero_add, Nat.reduceAdd, q0, q1, q2, q3, q4, q5, q6, q7]
        clear q0 q1 q2 q3 q4 q5 q6 q7
        have y3 := hx2.cell y2
        have hown2 := owns_ext hown hx2
        have hsz2 := hx2.size
        have HX2 : Hid (Ext w w2) := HX.out.trans hx2
        have HT : Hid (IsStrs w (.slice (if cb = 1 then some ⟨bb, ob, none⟩ else some ⟨bb, ob + 1, none⟩) b.length (cb - 1)) b) := IsStrs.tail (l := y :: b) 1 HXB.out (by simp) (if cb = 1 then some ⟨bb, ob, none⟩ else some ⟨bb, ob + 1, none⟩) (fun h => by cases h) (fun h b o e => by rw [if_neg h]; cases e; rfl)
        clear hx2 y1 y2
        go_wp2_with (at_builtin; go_must (refine app_str rfl _ _ rfl w.heap.size _ C.length _ rfl (hown2.alloc _) w2.heap.size 1 1 [y] rfl rfl (alloc_at _ _) (by omega) (by simp; omega) ?_; intro v' w3 hown3 hg3))
        go_roundw
        case rel => exact ⟨b, x :: a, C ++ [y], HQ, HT, HXA, by rw [List.length_append]; exact hown3, owns_ext_app (HX2.out.alloc _) (hown2.alloc _) hg3⟩
        case measure => simp [lenV]; omega

end Go.Proofs.YtdhgmpibjneplaaGreatDoor

/-! wire: Sort, Unique. Conditions: lists of at most 1000000 texts. -/
namespace Go.Proofs.YtdhgmpibjneplaaGreatDoor
open Go Go.RowKit Go.Sort
set_option linter.unusedVariables false
set_option linter.unusedSimpArgs false
set_option linter.unusedSectionVars false

/-! ### Neighbours that are alike, in plain Lean -/
structure CpInv (zs : List B8) (m : Nat) : Prop where
  rise : riseT (Lib.compactUpTo zs.toArray m)
  mem : ∀ x, x ∈ Lib.compactUpTo zs.toArray m ↔ x ∈ zs.take m
  last : 0 < m → (Lib.compactUpTo zs.toArray m).getLast? = some (zs.getD (m - 1) [])
theorem cp_at {zs : List B8} {m : Nat} (h : m < zs.length) : zs.toArray[m]! = zs.getD m [] := by
  rw [getElem!_pos zs.toArray m (by simpa using h), List.getD_eq_getElem?_getD, List.getElem?_eq_getElem h]
  rfl
theorem up_next {zs : List B8} (hu : upL zs) {m : Nat} (h : m + 1 < zs.length) : leT (zs.getD m []) (zs.getD (m + 1) []) = true := by
  have h9 := List.pairwise_iff_getElem.1 hu m (m + 1) (by omega) h (by omega)
  rw [List.getD_eq_getElem?_getD, List.getD_eq_getElem?_getD, List.getElem?_eq_getElem h, List.getElem?_eq_getElem (by omega : m < zs.length)]
  exact h9
theorem rise_last {c : List B8} {z x : B8} (hr : riseT c) (hl : c.getLast? = some z) (hz : ltB z x = true) : riseT (c ++ [x]) := by
  obtain ⟨d, rfl⟩ := List.getLast?_eq_some_iff.1 hl
  refine List.pairwise_append.2 ⟨hr, List.pairwise_singleton _ _, fun a ha b hb => ?_⟩
  rw [List.mem_singleton.1 hb]
  rcases List.mem_append.1 ha with ha | ha
  · exact ltB_trans ((List.pairwise_append.1 hr).2.2 a ha z (by simp)) hz
  · rw [List.mem_singleton.1 ha]
    exact hz
theorem cp_inv {zs : List B8} (hu : upL zs) : ∀ m, m ≤ zs.length → CpInv zs m
  | 0, _ => ⟨List.Pairwise.nil, fun x => by simp [Lib.compactUpTo], fun h => by omega⟩
  | m + 1, h => by
    have ih := cp_inv hu m (by omega)
    have hx : zs[m]? = some (zs.getD m []) := by rw [List.getD_eq_getElem?_getD, List.getElem?_eq_getElem (by omega : m < zs.length)]; rfl
    have htk : zs.take (m + 1) = zs.take m ++ [zs.getD m []] := by rw [List.take_add_one, hx]; rfl
    have hd := cp_at (zs := zs) (m := m) (by omega)
    have hsucc := Lib.compactUpTo_succ zs.toArray m
    cases hk : Lib.keeps zs.toArray m with
    | true =>
      rw [hk, if_pos rfl, hd] at hsucc
      refine ⟨?_, fun x => ?_, fun _ => ?_⟩
      · rw [hsucc]
        cases m with
        | zero => exact List.pairwise_singleton _ _
        | succ q =>
          have hl := ih.last (by omega)
          refine rise_last ih.rise hl ?_
          have hle := up_next hu (m := q) (by omega)
          rw [show q + 1 - 1 = q by omega]
          unfold Lib.keeps at hk
          rw [hd, show q + 1 - 1 = q by omega, cp_at (by omega : q < zs.length)] at hk
          have hne : zs.getD (q + 1) [] ≠ zs.getD q [] := by simpa using hk
          cases hlt : ltB (zs.getD q []) (zs.getD (q + 1) []) with
          | true => rfl
          | false => exact (hne (leT_anti (by unfold leT; rw [hlt]; rfl) hle)).elim
      · rw [hsucc, htk, List.mem_append, List.mem_append, ih.mem]
      · rw [hsucc]; simp
    | false =>
      rw [hk, if_neg (by simp), List.append_nil] at hsucc
      have hm0 : m ≠ 0 := by
        rintro rfl
        simp [Lib.keeps] at hk
      obtain ⟨q, rfl⟩ : ∃ q, m = q + 1 := ⟨m - 1, by omega⟩
      unfold Lib.keeps at hk
      rw [hd, show q + 1 - 1 = q by omega, cp_at (by omega : q < zs.length)] at hk
      have he : zs.getD (q + 1) [] = zs.getD q [] := by simpa using hk
      have hl := ih.last (by omega)
      rw [show q + 1 - 1 = q by omega] at hl
      refine ⟨by rw [hsucc]; exact ih.rise, fun x => ?_, fun _ => ?_⟩
      · rw [hsucc, htk, List.mem_append, List.mem_singleton, he]
        constructor
        · intro h1; exact .inl ((ih.mem x).1 h1)
        · rintro (h1 | rfl)
          · exact (ih.mem x).2 h1
          · exact List.mem_of_getLast? hl
      · rw [hsucc, show q + 1 + 1 - 1 = q + 1 by omega, he]; exact hl
theorem cp_uniq (l : List B8) : Lib.compact (sortT l) = uniqT l := by
  have h := cp_inv (sortT_up l) (sortT l).length (Nat.le_refl _)
  refine uniqT_of h.rise (fun x => ?_)
  have h2 := h.mem x
  rw [List.take_length] at h2
  exact h2.trans (sortT_perm l).mem_iff
theorem cp_len (zs : List B8) : (Lib.compact zs).length ≤ zs.length := by
  unfold Lib.compact Lib.compactUpTo
  rw [List.length_map]
  exact Nat.le_trans (List.length_filter_le _ _) (by simp)

/-! ### In memory -/
theorem owns_cut {w : World} {base : Nat} {e : TypeId} {g cap n k : Nat} {xs : List Value} (h : w.ownsRow base e 1 (.slice (some ⟨g, 0, none⟩) n cap) n xs) (hk : k ≤ n) : w.ownsRow base e 1 (.slice (some ⟨g, 0, none⟩) k cap) k (xs.take k) := by
  obtain ⟨hl, ⟨hv, _⟩ | ⟨g', cap', cur, hv, hb, hh, h1, h2, h3, h4⟩⟩ := h
  · cases hv
  · cases hv
    refine ⟨by rw [List.length_take, hl]; omega, .inr ⟨g, cap, cur, rfl, hb, hh, by omega, h2, h3, ?_⟩⟩
    rw [Nat.mul_one, ← h4, Nat.mul_one, List.take_take, Nat.min_eq_left hk]
theorem grow_none (w : World) : grow w #[] = w := by
  unfold grow
  simp
theorem compact_any {w : World} {base : Nat} {v : Value} {zs : List B8} (hown : w.ownsRow base 9 1 v zs.length (zs.map S8)) (hl : zs.length ≤ 10000000) :
    Calls Tryz.prog 112 #[v] w fun e w' => (∃ v', e = .returned v' ∧ w'.ownsRow base 9 1 v' (Lib.compact zs).length ((Lib.compact zs).map S8)) ∧ w.grownBy w' v.ownBlock := by
  rcases hown.2 with ⟨rfl, h0⟩ | ⟨g, cap, cur, rfl, hbase, hb, h1, h2, h3, h4⟩
  · have hs : zs = [] := List.eq_nil_of_length_eq_zero (by simpa using h0)
    subst hs
    exact (Tryz.slices_Compact_string_empty none 0 w).mono fun e w' ⟨he, hw⟩ => ⟨⟨_, he, by rw [hw]; exact World.ownsRow_nil _ _ _ _⟩, by rw [hw]; exact ⟨rfl, rfl, rfl, Nat.le_refl _, fun _ _ _ => rfl⟩⟩
  · refine (Tryz.slices_Compact_string g 0 cap zs w (holds_of_block hb (by simpa using h4)) (by omega) h1).mono ?_
    rintro e w' ⟨he, q, hw⟩
    have hcl := cp_len zs
    have hsz : (Lib.compact zs ++ List.replicate (zs.length - (Lib.compact zs).length) []).length = zs.length := by simp; omega
    have h9 := ownsRow_sorted (w := w) (n := q) (os := #[]) (ss := zs) (ts := Lib.compact zs ++ List.replicate (zs.length - (Lib.compact zs).length) []) hsz hbase hb h1 h2 h3
    rw [grow_none] at h9
    have h8 := grownBy_sorted (w := w) (g := g) (n := q) (os := #[]) (Lib.compact zs ++ List.replicate (zs.length - (Lib.compact zs).length) []).toArray
    rw [grow_none] at h8
    refine ⟨⟨_, he, ?_⟩, by rw [hw]; exact h8⟩
    rw [hw]
    have h7 := owns_cut h9 hcl
    have h6 : ((Lib.compact zs ++ List.replicate (zs.length - (Lib.compact zs).length) []).map encStr).take (Lib.compact zs).length = (Lib.compact zs).map S8 := by
      rw [List.map_append]
      exact List.take_left' (by simp)
    rw [h6] at h7
    exact h7
theorem clone_strs {w : World} {v : Value} {l : List B8} (hv : IsStrs w v l) (hl : l.length ≤ 10000000) :
    Calls Tryz.prog 149 #[v] w fun e w' => (∃ v', e = .returned v' ∧ w'.ownsRow w.heap.size 9 1 v' l.length (l.map S8)) ∧ Ext w w' := by
  obtain ⟨a, cap, rfl, l1, l2, l3, hg⟩ := hv.get
  cases l with
  | nil =>
    cases a with
    | none => exact (Tryz.slices_Clone_string_nil 0 cap w).mono fun e w' ⟨he, hw⟩ => ⟨⟨_, he, World.ownsRow_nil _ _ _ _⟩, by rw [hw]; exact Ext.refl _⟩
    | some ad => exact (Tryz.slices_Clone_string_zero ad cap w).mono fun e w' ⟨v', he, ho, _, hb⟩ => ⟨⟨_, he, ho⟩, hb⟩
  | cons x l =>
    obtain ⟨b, o, rfl, hc⟩ := hg 0 (by simp)
    refine (Tryz.slices_Clone_string b o (x :: l).length cap ((x :: l).map fun s => (⟨s.toArray⟩ : ByteArray)) w (by simp) (by omega) (fun j hj => ?_)).mono fun e w' ⟨v', he, ho, _, hb⟩ => ⟨⟨_, he, ?_⟩, hb⟩
    · rw [List.length_map] at hj
      rw [hc j hj, List.getD_eq_getElem?_getD, List.getD_eq_getElem?_getD, List.getElem?_map, List.getElem?_eq_getElem hj]
      rfl
    · rw [List.take_of_length_le (by simp), List.map_map] at ho
      exact ho

set_option maxRecDepth 100000 in
set_option maxHeartbeats 4000000 in
theorem wsort_all : ∀ (N : Nat) (v : Value) (l : List B8) (w : World), l.length ≤ N → IsStrs w v l → l.length ≤ 1000000 →
    Calls Tryz.prog 113 #[v] w fun e w' => (∃ v', e = .returned v' ∧ w'.ownsRow w.heap.size 9 1 v' l.length ((sortT l).map S8)) ∧ Ext w w' := by
  intro N
  induction N with
  | zero =>
    intro v l w hN hv hl
    have hl0 : l.length = 0 := by omega
    obtain ⟨a, cap, rfl, l1, l2, l3, -⟩ := hv.get
    have HV : Hid (IsStrs w (.slice a l.length cap) l) := hv
    have HS : Hid (sortT l = l) := sort_small (by omega)
    have h2b : (l.length : Int) < 2 := by omega
    clear hv hl0 hN
    go_enter Tryz.func113, Tryz.ntmps113
    go_wp2_with fail
    go_at_call 149
    refine (clone_strs HV.out (by omega)).mono ?_
    rintro e w1 ⟨⟨v1, rfl, ho⟩, hx⟩
    have HO : Hid _ := ho
    have HX : Hid _ := hx
    clear ho hx
    go_wp2
    go_ret
    exact ⟨⟨_, rfl, by rw [HS.out]; exact HO.out⟩, HX.out⟩
  | succ N ih =>
    intro v l w hN hv hl
    obtain ⟨a, cap, rfl, l1, l2, l3, hga⟩ := hv.get
    have HGA : Hid _ := hga
    have HV : Hid (IsStrs w (.slice a l.length cap) l) := hv
    have HI : Hid _ := ih
    clear hv ih hga
    go_enter Tryz.func113, Tryz.ntmps113
    by_cases h2 : l.length < 2
    · have h2b : (l.length : Int) < 2 := by omega
      have HS : Hid (sortT l = l) := sort_small h2
      go_wp2_with fail
      go_at_call 149
      refine (clone_strs HV.out (by omega)).mono ?_
      rintro e w1 ⟨⟨v1, rfl, ho⟩, hx⟩
      have HO : Hid _ := ho
      have HX : Hid _ := hx
      clear ho hx
      go_wp2
      go_ret
      exact ⟨⟨_, rfl, by rw [HS.out]; exact HO.out⟩, HX.out⟩
    · have h2b : ¬ (l.length : Int) < 2 := by omega
      obtain ⟨k, hk⟩ : ∃ k, l.length / 2 = k := ⟨_, rfl⟩
      have hk1 : (l.length : Int) / 2 = (k : Int) := by omega
      have hk2 : Int.tdiv (l.length : Int) 2 = (k : Int) := by rw [Int.tdiv_eq_ediv_of_nonneg (by omega)]; exact hk1
      have hk3 : 0 < k ∧ k < l.length := by omega
      obtain ⟨ba, oa, rfl, -⟩ := HGA.out 0 (by omega)
      have hmn : k ≤ cap := by omega
      have hkl : k ≤ l.length := by omega
      have HLT : Hid ((sortT (l.take k)).length + (sortT (l.drop k)).length = l.length) := by unfold Hid; rw [sortT_len, sortT_len, List.length_take, List.length_drop]; omega
      have HSH : Hid (sortT (sortT (l.take k) ++ sortT (l.drop k)) = sortT l) := sort_halves l k
      have HT1 : Hid (IsStrs w (.slice (some ⟨ba, oa, none⟩) k cap) (l.take k)) := IsStrs.head k HV.out (by omega)
      have HT2 : Hid (IsStrs w (.slice (if cap = k then some ⟨ba, oa, none⟩ else some ⟨ba, oa + k, none⟩) (l.length - k) (cap - k)) (l.drop k)) := IsStrs.tail k HV.out (by omega) (if cap = k then some ⟨ba, oa, none⟩ else some ⟨ba, oa + k, none⟩) (fun h => by cases h) (fun h b o e => by rw [if_neg h]; cases e; rfl)
      clear HGA
      go_upto_region 4 with fail
      apply wp_region_mix 9 [_, _, _, undef, _, _, _, undef, undef] [none, none, none, some (fun u w' => IsStrs w' u (sortT (l.take k))), none, none, none, some (fun u w' => IsStrs w' u (sortT (l.drop k))), some (fun u w' => w'.ownsRow w.heap.size 9 1 u l.length ((sortT l).map S8))] [[], [], [0, 1], [2], [], [], [4, 5], [6], [3, 7]] (by kernel_rfl) (by kernel_rfl) (by simp [mixV])
      · refine ⟨?_, ?_, ?_, trivial⟩
        · exact fun _ _ _ he hu => hu.ext he
        · exact fun _ _ _ he hu => hu.ext he
        · exact fun _ _ _ he hu => owns_ext hu he
      · simp (maxSteps := 1000000) only [List.take_succ_cons, List.take_zero, oblFrom, stepObl, fillFrom, Act.put, List.setIfInBounds_toArray, List.set_cons_zero, List.set_cons_succ, knows, getV, mixV, List.getD_cons_zero, List.getD_cons_succ, and_true, true_and, forall_const]
        refine ⟨?_, ?_, ?_, ?_, ?_, ?_, ?_, ?_, ?_⟩
        · intro xs wq hq R hR
          go_simp
          exact hR _ _ (Ext.refl _) rfl
        · intro xs wq hq R hR
          go_simp
          exact hR _ _ (Ext.refl _) rfl
        · intro xs wq hq hk R hR
          obtain ⟨hk0, hk1⟩ := hk
          go_simp
          exact hR _ _ (Ext.refl _) rfl
        · intro xs wq hq hk R hR
          go_simp
          exact (HI.out _ _ _ (by rw [List.length_take]; omega) (IsStrs.ext HT1.out hq) (by rw [List.length_take]; omega)).mono (by rintro e' w4 ⟨⟨v, rfl, ho⟩, hx⟩; exact ⟨_, rfl, hR _ _ hx (strs_owned ho (by rw [sortT_len]) (by rw [List.length_take]; omega))⟩)
        · intro xs wq hq R hR
          go_simp
          exact hR _ _ (Ext.refl _) rfl
        · intro xs wq hq R hR
          go_simp
          exact hR _ _ (Ext.refl _) rfl
        · intro xs wq hq hk R hR
          obtain ⟨hk0, hk1⟩ := hk
          go_simp
          exact hR _ _ (Ext.refl _) rfl
        · intro xs wq hq hk R hR
          go_simp
          exact (HI.out _ _ _ (by rw [List.length_drop]; omega) (IsStrs.ext HT2.out hq) (by rw [List.length_drop]; omega)).mono (by rintro e' w4 ⟨⟨v, rfl, ho⟩, hx⟩; exact ⟨_, rfl, hR _ _ hx (strs_owned ho (by rw [sortT_len]) (by rw [List.length_drop]; omega))⟩)
        · intro xs wq hq hk R hR
          obtain ⟨hk0, hk1⟩ := hk
          go_simp
          exact (wmerge_any _ _ _ _ _ hk0 hk1 (sortT_up _) (sortT_up _) (by rw [HLT.out]; omega)).mono (by rw [HLT.out, HSH.out]; rintro e' w4 ⟨⟨v, rfl, ho⟩, hx⟩; exact ⟨_, rfl, hR _ _ hx (World.ownsRow.mono ho hq.size)⟩)
      intro xs w2 hx2 hk
      simp only [heldV, Nat.zero_add, Nat.reduceAdd, and_true] at hk
      obtain ⟨q0, q1, q2, q3, q4, q5, q6, q7, q8⟩ := hk
      simp (maxSteps := 1000000) only [List.take_succ_cons, List.take_zero, List.drop_succ_cons, List.drop_zero, fillFrom, Act.put, List.setIfInBounds_toArray, List.set_cons_zero, List.set_cons_succ, Nat.zero_add, Nat.reduceAdd, q0, q1, q2, q4, q5, q6]
      clear q0 q1 q2 q4 q5 q6
      generalize xs 3 = x3 at *
      generalize xs 7 = x7 at *
      generalize xs 8 = x8 at *
      have HO : Hid _ := q8
      have HX : Hid _ := hx2
      clear hx2 q8
      go_wp2
      go_ret
      exact ⟨⟨_, rfl, HO.out⟩, HX.out⟩

set_option maxRecDepth 100000 in
theorem wuniq_any {w : World} {v : Value} {l : List B8} (hv : IsStrs w v l) (hl : l.length ≤ 1000000) :
    Calls Tryz.prog 70 #[v] w fun e w' => (∃ v', e = .returned v' ∧ w'.ownsRow w.heap.size 9 1 v' (uniqT l).length ((uniqT l).map S8)) ∧ Ext w w' := by
  obtain ⟨a, cap, rfl, l1, l2, l3, -⟩ := hv.get
  have HS : Hid _ := wsort_all l.length _ l w (Nat.le_refl _) hv hl
  have HU : Hid (Lib.compact (sortT l) = uniqT l) := cp_uniq l
  clear hv
  go_enter Tryz.func70, Tryz.ntmps70
  go_wp2_with fail
  go_at_call 113
  refine Calls.mono HS.out ?_
  rintro e w1 ⟨⟨v1, rfl, ho⟩, hx⟩
  have HC : Hid _ := compact_any (by rw [sortT_len]; exact ho) (by rw [sortT_len]; omega)
  have HX : Hid (Ext w w1) := hx
  have HO : Hid (w1.ownsRow w.heap.size 9 1 v1 l.length ((sortT l).map S8)) := ho
  clear ho hx HS
  go_wp2_with fail
  go_at_call 112
  refine Calls.mono HC.out ?_
  rw [HU.out]
  rintro e w2 ⟨⟨v2, rfl, ho2⟩, hg⟩
  have HX2 : Hid (Ext w w2) := Below.grown HX.out hg HX.out.size (fun q hq => (World.ownsRow.lt HO.out q hq).1)
  have HO2 : Hid _ := ho2
  clear ho2 hg HC
  go_wp2
  go_ret
  exact ⟨⟨_, rfl, HO2.out⟩, HX2.out⟩

end Go.Proofs.YtdhgmpibjneplaaGreatDoor

/-! Maps by texts, their elements given by a function: looked up, set. Conditions: keys of at most 1000000 signs. -/
namespace Go.Proofs.YtdhgmpibjneplaaGreatDoor
open Go Go.RowKit

def enG (V : Fi → Value) (e : B8 × Fi) : Lit × DataW Value := (.string e.1, .held (V e.2))
def datG (V : Fi → Value) (l : Files) : DataW Value := .map (l.map (enG V))
def lookG (V : Fi → Value) (z : Value) (l : Files) (p : B8) : Value := match look l p with
  | some f => V f
  | none => z
section
variable (V : Fi → Value)
theorem filter_enG (p : B8) : ∀ l : Files, (l.map (enG V)).filter (fun q => !q.1.sameKey (.string p)) = (delF l p).map (enG V)
  | [] => rfl
  | e :: l => by
    have ih := filter_enG p l
    unfold delF at ih ⊢
    have hk : (enG V e).1.sameKey (.string p) = (e.1 == p) := rfl
    rw [List.map_cons, List.filter_cons, List.filter_cons, hk]
    split
    · rw [List.map_cons, ih]
    · exact ih
theorem insert_enG (x : B8 × Fi) : ∀ l : Files, DataW.insert (enG V x) (l.map (enG V)) = (insF x l).map (enG V)
  | [] => rfl
  | y :: l => by
    rw [List.map_cons, DataW.insert, insF]
    have hb : (enG V x).1.before (enG V y).1 = ltB x.1 y.1 := before_ltB _ _
    rw [hb]
    split
    · rfl
    · rw [insert_enG x l]; rfl
theorem datG_put (l : Files) (p : B8) (f : Fi) : (datG V l).put (.string p) (.held (V f)) = datG V (putF l p f) := by
  unfold datG DataW.put putF
  simp only
  rw [filter_enG]
  have : (Lit.string p, DataW.held (V f)) = enG V (p, f) := rfl
  rw [this, insert_enG]
theorem find_enG (p : B8) : ∀ l : Files, (l.map (enG V)).find? (fun q => q.1.sameKey (.string p)) = (l.find? fun e => e.1 == p).map (enG V)
  | [] => rfl
  | e :: l => by
    have hk : (enG V e).1.sameKey (.string p) = (e.1 == p) := rfl
    rw [List.map_cons, List.find?_cons, List.find?_cons, hk]
    cases e.1 == p
    · exact find_enG p l
    · rfl
theorem datG_at (l : Files) (p : B8) (z : DataW Value) : (datG V l).atKey (.string p) z = match look l p with | some f => .held (V f) | none => z := by
  unfold datG DataW.atKey look
  simp only
  rw [find_enG]
  cases h : l.find? fun e => e.1 == p with
  | none => rfl
  | some e => rfl
theorem datG_has (l : Files) (p : B8) : Maps.has (datG V l) (.string p) = (look l p).isSome := by
  unfold datG
  rw [Maps.has_eq, Bool.eq_iff_iff, List.any_eq_true]
  unfold look
  constructor
  · rintro ⟨q, hq, hk⟩
    obtain ⟨e, he, rfl⟩ := List.mem_map.1 hq
    have : e.1 == p := hk
    rw [Option.isSome_map, List.find?_isSome]
    exact ⟨e, he, this⟩
  · intro h
    rw [Option.isSome_map, List.find?_isSome] at h
    obtain ⟨e, he, hk⟩ := h
    exact ⟨enG V e, List.mem_map.2 ⟨e, he, rfl⟩, hk⟩
end
structure IsMG (V : Fi → Value) (w : World) (b : Nat) (l : Files) : Prop where
  map : w.ownsMap Tryz.prog 9 elemV b l.length (datG V l)
theorem mg_made (V : Fi → Value) (w : World) : IsMG V (w.alloc (.map #[] 0)) w.heap.size [] := ⟨World.ownsMap_made _ _ _ _⟩
section
variable {V : Fi → Value} {w w' : World} {b : Nat} {l : Files}
theorem IsMG.stay (h : IsMG V w b l) (hb : w'.heap[b]? = w.heap[b]?) : IsMG V w' b l := by
  obtain ⟨es, clock, he, F, hs, hD⟩ := h.map
  exact ⟨es, clock, hb.trans he, F, hs, hD⟩
theorem IsMG.lt (h : IsMG V w b l) : b < w.heap.size := h.map.lt
theorem IsMG.ext (h : IsMG V w b l) (hx : Ext w w') : IsMG V w' b l := h.stay (hx.block _ h.lt)
theorem IsMG.notU8 (h : IsMG V w b l) : ¬ IsU8 w b := by
  obtain ⟨es, clock, he, _⟩ := h.map
  rintro ⟨cs, t, fr, hc, -⟩
  rw [he] at hc
  cases hc
theorem IsMG.kind (h : IsMG V w b l) : ∃ es clock, w.heap[b]? = some (.map es clock) := by
  obtain ⟨es, clock, he, _⟩ := h.map
  exact ⟨es, clock, he⟩
/-- m[p]. -/
theorem IsMG.look_run (h : IsMG V w b l) (T E : TypeId) (z : Value) (hT : Tryz.prog.underlying T = some (.map 9 E)) (hz : (zeroValue E).run Tryz.prog w = .ok z w) (p : B8) (hp : p.length ≤ 1000000) :
    (Instr.lookup T (.map (some b)) (S8 p) true).run Tryz.prog w = .ok (.tuple #[lookG V z l p, .bool (look l p).isSome]) w ∧ (Instr.lookup T (.map (some b)) (S8 p) false).run Tryz.prog w = .ok (lookG V z l p) w := by
  have h2 := h.map
  obtain ⟨v, ps, h4, h5⟩ := h2.look_ok K_str hT hz rfl (key_str p (by omega))
  obtain ⟨v', ps', h6, h7⟩ := h2.lookup K_str hT hz rfl (key_str p (by omega))
  rw [datG_at] at h5 h7
  rw [datG_has] at h4
  have hz : (match look l p with | some f => DataW.held (V f) | none => DataW.held z) = (DataW.held (lookG V z l p) : DataW Value) := by
    unfold lookG
    cases look l p <;> rfl
  rw [hz] at h5 h7
  have e1 : v = lookG V z l p := DataW.held.inj (congrArg Prod.fst (Option.some.inj h5))
  have e2 : v' = lookG V z l p := DataW.held.inj (congrArg Prod.fst (Option.some.inj h7))
  subst e1
  subst e2
  exact ⟨h4, h6⟩
end
section
variable {ops : Array Oper} {rest : List Oper} {o : Oper} {a : Act} {Q : Exit → Act → World → Prop} {w : World} {V : Fi → Value}
theorem set_mg (T E : TypeId) (hT : Tryz.prog.underlying T = some (.map 9 E)) (hgd : o.guard = none) (m x v : Operand) (hop : o.op = Op.mapUpdate T m x v) {b : Nat} {l : Files} (hf : IsMG V w b l) (hl : l.length ≤ 10000000)
    (hm : a.eval m = .map (some b)) (p : B8) (hp : p.length ≤ 1000000) (hx : a.eval x = S8 p) (f : Fi) (hv : a.eval v = V f)
    (h : ∀ w', IsMG V w' b (putF l p f) → w.grownBy w' (some b) → wpList Tryz.prog ops Q rest (a.put o.dst undef) w') : wpList Tryz.prog ops Q (o :: rest) a w := by
  refine wpList_mapUpdate_own w hgd m x v _ hop _ _ K_str hT elemV b _ _ hm hf.map (by unfold maxLen; omega) (S8 p) (V f) (.string p) hx hv (key_str p (by omega)) (.held (V f)) [] rfl ?_
  intro w' hown hg
  rw [datG_put] at hown
  refine h w' ⟨?_⟩ hg
  obtain ⟨es, clock, hb, F, hs, hD⟩ := hown
  refine ⟨es, clock, hb, F, ?_, hD⟩
  have : Maps.size (datG V (putF l p f)) = es.size := by rw [hD]; simp [Maps.size, length_sorted]
  rw [← this]
  simp [datG, Maps.size]
end

end Go.Proofs.YtdhgmpibjneplaaGreatDoor

/-! scan.entries, scan.paths, marref16.Paths: what they answer. Conditions: as each theorem states. -/
namespace Go.Proofs.YtdhgmpibjneplaaGreatDoor
open Go Go.RowKit Go.Sort
set_option linter.unusedVariables false
set_option linter.unusedSimpArgs false
set_option linter.unusedSectionVars false

/-- The slice holds slices that hold these rows. -/
structure IsTbs (w : World) (v : Value) (us : List Value) (ls : List (List Rw)) : Prop where
  row : Row w v us.length us
  len : us.length = ls.length
  each : ∀ (k : Nat) (u : Value) (l : List Rw), us[k]? = some u → ls[k]? = some l → IsRws w u l
theorem IsTbs.ext {w w' : World} {v : Value} {us : List Value} {ls : List (List Rw)} (h : IsTbs w v us ls) (hx : Ext w w') : IsTbs w' v us ls :=
  ⟨h.row.ext hx, h.len, fun k u l h1 h2 => (h.each k u l h1 h2).ext hx⟩
theorem pathsLs_len2 (ls : List (List Rw)) (k : Nat) : (pathsLs (ls.take k)).length ≤ (pathsLs ls).length := by
  unfold pathsLs
  have h : ls.flatMap (fun l => l.map (·.path)) = (ls.take k).flatMap (fun l => l.map (·.path)) ++ (ls.drop k).flatMap (fun l => l.map (·.path)) := by
    rw [← List.flatMap_append, List.take_append_drop]
  rw [h, List.length_append]
  omega
theorem map_take_snoc {l : List Rw} {j : Nat} {x : Rw} (h : l[j]? = some x) : (l.take (j + 1)).map (·.path) = (l.take j).map (·.path) ++ [x.path] := by rw [take_snocR h, List.map_append]; rfl

set_option maxRecDepth 100000 in
set_option maxHeartbeats 4000000 in
theorem spaths_any (v : Value) (us : List Value) (ls : List (List Rw)) (w : World) (hv : IsTbs w v us ls) (hl : (pathsLs ls).length ≤ 1000000) :
    Calls Tryz.prog 60 #[v] w fun e w' => (∃ v', e = .returned v' ∧ w'.ownsRow w.heap.size 9 1 v' (uniqT (pathsLs ls)).length ((uniqT (pathsLs ls)).map S8)) ∧ Ext w w' := by
  obtain ⟨hr, hul, hea⟩ := hv
  obtain ⟨a, c, rfl, l1, l2, l3, hg⟩ := hr
  rw [hul] at l1 l3 ⊢
  have HUL : Hid _ := hul
  have HEA : Hid _ := hea
  have HG : Hid _ := hg
  clear hul hea hg
  go_enter Tryz.func60, Tryz.ntmps60
  go_wp2_with fail
  go_loopw [3, 10] (fun v i wr => ∃ k : Nat, k ≤ ls.length ∧ i = .int .i64 k ∧ Hid (wr.ownsRow w.heap.size 9 1 v (pathsLs (ls.take k)).length ((pathsLs (ls.take k)).map S8)) ∧ Hid (Ext w wr)) (fun _ i _ => ls.length - (intOf i).toNat)
  case atStart => exact ⟨0, Nat.zero_le _, rfl, World.ownsRow_nil _ _ _ _, Ext.refl _⟩
  case round =>
  obtain ⟨k, hk, rfl, HOW, HX⟩ := hrel
  have hpl := pathsLs_len2 ls k
  by_cases hlt : k < ls.length
  case neg =>
    have hkk : k = ls.length := by omega
    subst hkk
    have hst : IsStrs wr u3 (pathsLs ls) := by
      have h9 := HOW.out
      rw [List.take_length] at h9
      exact Row.of_owns h9 (by omega)
    have HSZ : Hid _ := HX.out.size
    have hwu := wuniq_any hst hl
    have HWU : Hid _ := hwu
    obtain ⟨sa, sc, he, -⟩ := hst.get
    subst he
    clear hst hwu
    go_wp2_with fail
    go_at_call 70
    refine Calls.mono HWU.out ?_
    rintro e w2 ⟨⟨v', rfl, ho⟩, hx2⟩
    have HO : Hid _ := World.ownsRow.mono ho HSZ.out
    have HX2 : Hid (Ext w w2) := HX.out.trans hx2
    clear ho hx2
    go_wp2
    go_ret
    exact ⟨⟨_, rfl, HO.out⟩, HX2.out⟩
  obtain ⟨l, hll⟩ : ∃ l, ls[k]? = some l := ⟨_, List.getElem?_eq_getElem hlt⟩
  obtain ⟨u, huu⟩ : ∃ u, us[k]? = some u := ⟨_, List.getElem?_eq_getElem (by rw [HUL.out]; exact hlt)⟩
  obtain ⟨bb, oo, rfl, hc⟩ := HG.out (by intro h0; rw [h0] at huu; simp at huu)
  have y1 := HX.out.cell (hc k u huu)
  have hrw := HEA.out k u l huu hll
  obtain ⟨ra, rc, rfl, r1, r2, r3, hrg⟩ := hrw.cells
  have HRG : Hid _ := hrg
  have HSN : Hid _ := pathsLs_snoc hll
  have hpl2 : (pathsLs (ls.take k)).length + l.length ≤ 1000000 := by
    have := pathsLs_len2 ls (k + 1)
    rw [HSN.out, List.length_append, List.length_map] at this
    omega
  obtain ⟨P, hP⟩ : ∃ P, pathsLs (ls.take k) = P := ⟨_, rfl⟩
  rw [hP] at HOW HSN hpl hpl2
  have HOW0 : Hid (wr.ownsRow w.heap.size 9 1 u3 (P.length + 0) ((P ++ (l.take 0).map (·.path)).map S8)) := by
    have h9 := HOW.out
    unfold Hid
    rw [List.take_zero, List.map_nil, List.append_nil]
    exact h9
  clear hc hll huu hrw hrg hP HOW
  go_wp2_with fail
  go_loopw [3, 16] (fun v i wq => ∃ j : Nat, j ≤ l.length ∧ i = .int .i64 j ∧ Hid (wq.ownsRow w.heap.size 9 1 v (P.length + j) ((P ++ (l.take j).map (·.path)).map S8)) ∧ Hid (Ext w wq)) (fun _ i _ => l.length - (intOf i).toNat)
  case atStart => exact ⟨0, Nat.zero_le _, rfl, HOW0, HX⟩
  case round =>
  clear y1 HOW0 HX
  obtain ⟨j, hj, rfl, HOW, HX⟩ := hrel
  by_cases hjl : j < l.length
  case neg =>
    have hkk : j = l.length := by omega
    have HOX : Hid (wr.ownsRow w.heap.size 9 1 u3 (pathsLs (ls.take (k + 1))).length ((pathsLs (ls.take (k + 1))).map S8)) := by
      have h9 := HOW.out
      rw [hkk, List.take_length] at h9
      unfold Hid
      rw [HSN.out, List.length_append, List.length_map]
      exact h9
    clear hkk HOW
    go_wp2_with fail
    go_roundw
    case rel => exact ⟨k + 1, by omega, by go_num, HOX, HX⟩
    case measure => simp [intOf]; omega
  obtain ⟨x, hx⟩ : ∃ x, l[j]? = some x := ⟨_, List.getElem?_eq_getElem hjl⟩
  obtain ⟨rb, ro, rfl, c0, c1, c2⟩ := HRG.out j x hx
  have y0 := HX.out.cell c0
  have y1 := HX.out.cell c1
  have y2 := HX.out.cell c2
  have HJN : Hid _ := map_take_snoc hx
  have hlen : (P ++ (l.take j).map (·.path)).length = P.length + j := by rw [List.length_append, List.length_map, List.length_take]; omega
  have HLEN : Hid _ := hlen
  clear c0 c1 c2 hx hlen
  go_upto_region 8 with fail
  obtain ⟨w4, hw4⟩ : ∃ w4, w4 = wr.alloc (.cells #[S8 x.path, .int .i64 x.mode, S8 x.id] 62) := ⟨_, rfl⟩
  have hx4 : Ext wr w4 := by rw [hw4]; exact (Ext.refl _).alloc _
  have hb4 : w4.heap[wr.heap.size]? = some (.cells #[S8 x.path, .int .i64 x.mode, S8 x.id] 62 (0, 0)) := by rw [hw4]; exact alloc_at _ _
  rw [← hw4]
  obtain ⟨z0, z1, z2⟩ := cellsAt3 hb4
  have HX4 : Hid (Ext w w4) := HX.out.trans hx4
  have hown4 := owns_ext HOW.out hx4
  have hsz := HX4.out.size
  obtain ⟨gi, hgi⟩ : ∃ gi, wr.heap.size = gi := ⟨_, rfl⟩
  rw [hgi] at z0 ⊢
  clear hw4 hx4 hb4 hgi z1 z2 y0 y1 y2
  go_wp2_with (at_builtin; go_must (refine app_str rfl _ _ rfl w.heap.size _ (P.length + j) _ rfl (hown4.alloc _) w4.heap.size 1 1 [x.path] rfl rfl (alloc_at _ _) (by omega) (by simp; omega) ?_; intro v' w3 hown3 hg3))
  go_roundw
  case rel =>
    refine ⟨j + 1, by omega, by go_num, ?_, owns_ext_app (HX4.out.alloc _) (hown4.alloc _) hg3⟩
    unfold Hid
    rw [HJN.out, ← List.append_assoc]
    exact hown3
  case measure => simp [intOf]; omega

end Go.Proofs.YtdhgmpibjneplaaGreatDoor

/-! marref16.Paths, scan.entries: what they answer. Conditions: as each theorem states. -/
namespace Go.Proofs.YtdhgmpibjneplaaGreatDoor
open Go Go.RowKit Go.Sort
set_option linter.unusedVariables false
set_option linter.unusedSimpArgs false
set_option linter.unusedSectionVars false

set_option maxRecDepth 100000 in
set_option maxHeartbeats 4000000 in
theorem rpaths_any (v : Value) (us : List Value) (ls : List (List Rw)) (w : World) (hv : IsTbs w v us ls) (hl : (pathsLs ls).length ≤ 1000000) :
    Calls Tryz.prog 61 #[v] w fun e w' => (∃ v', e = .returned v' ∧ w'.ownsRow w.heap.size 9 1 v' (uniqT (pathsLs ls)).length ((uniqT (pathsLs ls)).map S8)) ∧ Ext w w' := by
  obtain ⟨hr, hul, hea⟩ := hv
  obtain ⟨a, c, rfl, l1, l2, l3, hg⟩ := hr
  rw [hul] at l1 l3 ⊢
  have HUL : Hid _ := hul
  have HEA : Hid _ := hea
  have HG : Hid _ := hg
  clear hul hea hg
  go_enter Tryz.func61, Tryz.ntmps61
  go_wp2_with fail
  go_loopw [3, 4] (fun v i wr => ∃ k : Nat, k ≤ ls.length ∧ i = .int .i64 k ∧ Hid (wr.ownsRow w.heap.size 9 1 v (pathsLs (ls.take k)).length ((pathsLs (ls.take k)).map S8)) ∧ Hid (Ext w wr)) (fun _ i _ => ls.length - (intOf i).toNat)
  case atStart => exact ⟨0, Nat.zero_le _, rfl, World.ownsRow_nil _ _ _ _, Ext.refl _⟩
  case round =>
  obtain ⟨k, hk, rfl, HOW, HX⟩ := hrel
  have hpl := pathsLs_len2 ls k
  by_cases hlt : k < ls.length
  case neg =>
    have hkk : k = ls.length := by omega
    subst hkk
    have hst : IsStrs wr u3 (pathsLs ls) := by
      have h9 := HOW.out
      rw [List.take_length] at h9
      exact Row.of_owns h9 (by omega)
    have HSZ : Hid _ := HX.out.size
    have hwu := runiq_any hst hl
    have HWU : Hid _ := hwu
    obtain ⟨sa, sc, he, -⟩ := hst.get
    subst he
    clear hst hwu
    go_wp2_with fail
    go_at_call 95
    refine Calls.mono HWU.out ?_
    rintro e w2 ⟨⟨v', rfl, ho⟩, hx2⟩
    have HO : Hid _ := World.ownsRow.mono ho HSZ.out
    have HX2 : Hid (Ext w w2) := HX.out.trans hx2
    clear ho hx2
    go_wp2
    go_ret
    exact ⟨⟨_, rfl, HO.out⟩, HX2.out⟩
  obtain ⟨l, hll⟩ : ∃ l, ls[k]? = some l := ⟨_, List.getElem?_eq_getElem hlt⟩
  obtain ⟨u, huu⟩ : ∃ u, us[k]? = some u := ⟨_, List.getElem?_eq_getElem (by rw [HUL.out]; exact hlt)⟩
  obtain ⟨bb, oo, rfl, hc⟩ := HG.out (by intro h0; rw [h0] at huu; simp at huu)
  have hcu := hc k u huu
  have hrw := HEA.out k u l huu hll
  obtain ⟨ra, rc, rfl, r1, r2, r3, hrg⟩ := hrw.cells
  have HCU : Hid _ := hcu
  have HRG : Hid _ := hrg
  have HSN : Hid _ := pathsLs_snoc hll
  have hpl2 : (pathsLs (ls.take k)).length + l.length ≤ 1000000 := by
    have := pathsLs_len2 ls (k + 1)
    rw [HSN.out, List.length_append, List.length_map] at this
    omega
  obtain ⟨P, hP⟩ : ∃ P, pathsLs (ls.take k) = P := ⟨_, rfl⟩
  rw [hP] at HOW HSN hpl hpl2
  have HOW0 : Hid (wr.ownsRow w.heap.size 9 1 u3 (P.length + 0) ((P ++ (l.take 0).map (·.path)).map S8)) := by
    have h9 := HOW.out
    unfold Hid
    rw [List.take_zero, List.map_nil, List.append_nil]
    exact h9
  clear hc hll huu hrw hrg hP HOW hcu
  go_wp2_with fail
  go_loopw [3, 5] (fun v i wq => ∃ j : Nat, j ≤ l.length ∧ i = .int .i64 j ∧ Hid (wq.ownsRow w.heap.size 9 1 v (P.length + j) ((P ++ (l.take j).map (·.path)).map S8)) ∧ Hid (Ext w wq)) (fun _ i _ => l.length - (intOf i).toNat)
  case atStart => exact ⟨0, Nat.zero_le _, rfl, HOW0, HX⟩
  case round =>
  clear HOW0 HX
  obtain ⟨j, hj, rfl, HOW, HX⟩ := hrel
  have y1 := HX.out.cell HCU.out
  by_cases hjl : j < l.length
  case neg =>
    have hkk : j = l.length := by omega
    have HOX : Hid (wr.ownsRow w.heap.size 9 1 u3 (pathsLs (ls.take (k + 1))).length ((pathsLs (ls.take (k + 1))).map S8)) := by
      have h9 := HOW.out
      rw [hkk, List.take_length] at h9
      unfold Hid
      rw [HSN.out, List.length_append, List.length_map]
      exact h9
    clear hkk HOW
    go_wp2_with fail
    go_roundw
    case rel => exact ⟨k + 1, by omega, by go_num, HOX, HX⟩
    case measure => simp [intOf]; omega
  obtain ⟨x, hx⟩ : ∃ x, l[j]? = some x := ⟨_, List.getElem?_eq_getElem hjl⟩
  obtain ⟨rb, ro, rfl, c0, c1, c2⟩ := HRG.out j x hx
  have y0 := HX.out.cell c0
  have HJN : Hid _ := map_take_snoc hx
  have hlen : (P ++ (l.take j).map (·.path)).length = P.length + j := by rw [List.length_append, List.length_map, List.length_take]; omega
  have HLEN : Hid _ := hlen
  have hsz := HX.out.size
  have hown4 := HOW.out
  clear c0 c1 c2 hx hlen
  go_wp2_with (at_builtin; go_must (refine app_str rfl _ _ rfl w.heap.size _ (P.length + j) _ rfl (hown4.alloc _) wr.heap.size 1 1 [x.path] rfl rfl (alloc_at _ _) (by omega) (by simp; omega) ?_; intro v' w3 hown3 hg3))
  go_roundw
  case rel =>
    refine ⟨j + 1, by omega, by go_num, ?_, owns_ext_app (HX.out.alloc _) (hown4.alloc _) hg3⟩
    unfold Hid
    rw [HJN.out, ← List.append_assoc]
    exact hown3
  case measure => simp [intOf]; omega

/-! ### Entries -/
def entFV (f : Fi) : Value := .agg #[.int .i64 f.mode, S8 f.data]
theorem zero_ent (w : World) : (zeroValue 54).run Tryz.prog w = .ok (.agg #[.int .i64 0, S8 []]) w := by kernel_rfl
theorem lookG_ent (l : List Rw) (p : B8) : lookG entFV (.agg #[.int .i64 0, S8 []]) (entF l) p = .agg #[.int .i64 (entG l p).1, S8 (entG l p).2] := by
  unfold lookG
  rw [entF_ent]
  cases look (entF l) p <;> rfl
theorem entStep_new {m : Files} {r : Rw} (h : (look m r.path).isSome = false) : entStep m r = putF m r.path ⟨r.mode, r.id, 0⟩ := by unfold entStep; rw [if_neg (by rw [h]; simp)]
theorem entStep_old {m : Files} {r : Rw} (h : (look m r.path).isSome = true) : entStep m r = m := by unfold entStep; rw [if_pos h]

set_option maxRecDepth 100000 in
set_option maxHeartbeats 4000000 in
theorem entries_any (v : Value) (l : List Rw) (w : World) (hv : IsRws w v l) (hl : l.length ≤ 1000000) (hs : ∀ r ∈ l, r.path.length ≤ 1000000) :
    Calls Tryz.prog 59 #[v] w fun e w' => (∃ g, e = .returned (.map (some g)) ∧ IsMG entFV w' g (entF l) ∧ w.heap.size ≤ g) ∧ Ext w w' := by
  obtain ⟨a, cap, rfl, l1, l2, l3, hg⟩ := hv.cells
  have HG : Hid _ := hg
  have HS : Hid _ := hs
  have hmm := @run_makeMap Tryz.prog
  clear hv hg hs
  go_enter Tryz.func59, Tryz.ntmps59
  go_upto_region 2 with fail
  obtain ⟨w1, hw1⟩ : ∃ w1, w1 = w.alloc (.map #[] 0) := ⟨_, rfl⟩
  have HX1 : Hid (Ext w w1) := by rw [hw1]; exact (Ext.refl _).alloc _
  have HM1 : Hid (IsMG entFV w1 w.heap.size []) := by rw [hw1]; exact mg_made _ _
  rw [← hw1]
  obtain ⟨g, hgz⟩ : ∃ g, w.heap.size = g := ⟨_, rfl⟩
  have HGZ : Hid _ := hgz
  rw [hgz] at HM1 ⊢
  clear hw1 hgz hmm
  go_wp2_with fail
  go_loopw [11] (fun i wr => ∃ k : Nat, k ≤ l.length ∧ i = .int .i64 k ∧ Hid (IsMG entFV wr g (entF (l.take k))) ∧ Hid (Ext w wr)) (fun i _ => l.length - (intOf i).toNat)
  case atStart => exact ⟨0, Nat.zero_le _, rfl, HM1, HX1⟩
  case round =>
  obtain ⟨k, hk, rfl, HM, HX⟩ := hrel
  by_cases hlt : k < l.length
  case neg =>
    have hkk : k = l.length := by omega
    subst hkk
    have HMX : Hid (IsMG entFV wr g (entF l)) := by have h9 := HM.out; rwa [List.take_length] at h9
    go_wp2
    go_ret
    exact ⟨⟨g, rfl, HMX.out, Nat.le_of_eq HGZ.out⟩, HX.out⟩
  obtain ⟨x, hx⟩ : ∃ x, l[k]? = some x := ⟨_, List.getElem?_eq_getElem hlt⟩
  obtain ⟨bb, oo, rfl, c0, c1, c2⟩ := HG.out k x hx
  have y0 := HX.out.cell c0
  have y1 := HX.out.cell c1
  have y2 := HX.out.cell c2
  have hxp := HS.out x (List.mem_of_getElem? hx)
  have HSN : Hid _ := entF_snoc hx
  have hel : (entF (l.take k)).length ≤ 1000000 := by have := entF_len (l.take k); rw [List.length_take] at this; omega
  obtain ⟨m, hm⟩ : ∃ m, entF (l.take k) = m := ⟨_, rfl⟩
  have HTK : Hid _ := hm
  rw [hm] at HM hel
  rw [hm] at HSN
  obtain ⟨path, mode, id⟩ := x
  dsimp only at y0 y1 y2 hxp
  clear c0 c1 c2 hx
  go_upto_region 5 with fail
  obtain ⟨w4, hw4⟩ : ∃ w4, w4 = wr.alloc (.cells #[S8 path, .int .i64 mode, S8 id] 62) := ⟨_, rfl⟩
  have hx4 : Ext wr w4 := by rw [hw4]; exact (Ext.refl _).alloc _
  have hb4 : w4.heap[wr.heap.size]? = some (.cells #[S8 path, .int .i64 mode, S8 id] 62 (0, 0)) := by rw [hw4]; exact alloc_at _ _
  rw [← hw4]
  have HX4 : Hid (Ext w w4) := HX.out.trans hx4
  have HM4 : Hid (IsMG entFV w4 g m) := HM.out.ext hx4
  have HB4 : Hid _ := hb4
  obtain ⟨z0, z1, z2⟩ := cellsAt3 hb4
  obtain ⟨hlk, -⟩ := HM4.out.look_run 112 54 _ Tryz.underlying112 (zero_ent w4) path hxp
  rw [← hm, lookG_ent, hm] at hlk
  obtain ⟨⟨em, ei⟩, hem⟩ : ∃ q, entG (l.take k) path = q := ⟨_, rfl⟩
  rw [hem] at hlk
  obtain ⟨bs, hbs⟩ : ∃ b, (look m path).isSome = b := ⟨_, rfl⟩
  rw [hbs] at hlk
  have HBS : Hid _ := hbs
  dsimp only at hlk
  obtain ⟨gi, hgi⟩ : ∃ gi, wr.heap.size = gi := ⟨_, rfl⟩
  have HGI : Hid _ := hgi
  rw [hgi] at z0 z1 z2 HB4 ⊢
  clear hw4 hx4 hb4 hgi y0 y1 y2 hm hem hbs
  go_upto_region 6 with fail
  obtain ⟨w5, hw5⟩ : ∃ w5, w5 = w4.alloc (.cells #[.int .i64 em, S8 ei] 54) := ⟨_, rfl⟩
  have hx5 : Ext w4 w5 := by rw [hw5]; exact (Ext.refl _).alloc _
  rw [← hw5]
  have HX5 : Hid (Ext w w5) := HX4.out.trans hx5
  have hm5 : IsMG entFV w5 g m := HM4.out.ext hx5
  obtain ⟨z0, z1, z2⟩ := cellsAt3 (hx5.row HB4.out)
  have hszg : w.heap.size ≤ g := Nat.le_of_eq HGZ.out
  have HM5 : Hid _ := hm5
  clear hw5 hx5 hlk hm5
  cases bs with
  | true =>
    have HMX : Hid (IsMG entFV w5 g (entF (l.take (k + 1)))) := by
      unfold Hid
      rw [HSN.out, entStep_old HBS.out]
      exact HM5.out
    clear z0 z1 z2
    go_wp2_with fail
    go_roundw
    case rel => exact ⟨k + 1, by omega, by go_num, HMX, HX5⟩
    case measure => simp [intOf]; omega
  | false =>
    go_wp2_with (refine set_mg 112 54 Tryz.underlying112 rfl _ _ _ rfl HM5.out (by omega) rfl path (by omega) rfl ⟨mode, id, 0⟩ rfl ?_; intro w6 hm6 hg6)
    have HMX : Hid (IsMG entFV w6 g (entF (l.take (k + 1)))) := by
      unfold Hid
      rw [HSN.out, entStep_new HBS.out]
      exact hm6
    have HX6 : Hid (Ext w w6) := Ext.but HX5.out hg6 hszg
    clear z0 z1 z2 hm6 hg6
    go_wp2_with fail
    go_roundw
    case rel => exact ⟨k + 1, by omega, by go_num, HMX, HX6⟩
    case measure => simp [intOf]; omega

end Go.Proofs.YtdhgmpibjneplaaGreatDoor

/-! scan.Status: what it answers. Conditions: as each theorem states. -/
namespace Go.Proofs.YtdhgmpibjneplaaGreatDoor
open Go Go.RowKit Go.Sort
set_option linter.unusedVariables false
set_option linter.unusedSimpArgs false
set_option linter.unusedSectionVars false

/-! ### What differs, in memory -/
def chC (c : Chg) : List Value := [S8 c.path, .int .i64 c.old.1, S8 c.old.2, .int .i64 c.new.1, S8 c.new.2]
def IsChs (w : World) (v : Value) (l : List Chg) : Prop := Row w v l.length (l.flatMap chC)
theorem IsChs.ext {w w' : World} {v : Value} {l : List Chg} (h : IsChs w v l) (hx : Ext w w') : IsChs w' v l := Row.ext h hx
theorem flat_ch : ∀ (l : List Chg) (k : Nat) (x : Chg), l[k]? = some x → (l.flatMap chC)[k * 5]? = some (S8 x.path) ∧ (l.flatMap chC)[k * 5 + 1]? = some (.int .i64 x.old.1) ∧ (l.flatMap chC)[k * 5 + 2]? = some (S8 x.old.2) ∧ (l.flatMap chC)[k * 5 + 3]? = some (.int .i64 x.new.1) ∧ (l.flatMap chC)[k * 5 + 4]? = some (S8 x.new.2)
  | [], k, x, h => by simp at h
  | y :: l, 0, x, h => by
    simp only [List.getElem?_cons_zero, Option.some.injEq] at h
    subst h
    exact ⟨rfl, rfl, rfl, rfl, rfl⟩
  | y :: l, k + 1, x, h => by
    have ih := flat_ch l k x (by simpa using h)
    have e : (y :: l).flatMap chC = S8 y.path :: .int .i64 y.old.1 :: S8 y.old.2 :: .int .i64 y.new.1 :: S8 y.new.2 :: l.flatMap chC := by rw [List.flatMap_cons]; rfl
    rw [e, show (k + 1) * 5 = k * 5 + 1 + 1 + 1 + 1 + 1 by omega]
    exact ih
theorem IsChs.get {w : World} {v : Value} {l : List Chg} (h : IsChs w v l) : ∃ a cap, v = .slice a l.length cap ∧ l.length ≤ cap ∧ l.length ≤ 140737488355328 ∧ cap ≤ 9223372036854775807 ∧
    ∀ (k : Nat) x, l[k]? = some x → ∃ b o, a = some ⟨b, o, none⟩ ∧ w.cell? ⟨b, o + k * 5, none⟩ = some (S8 x.path) ∧ w.cell? ⟨b, o + k * 5 + 1, none⟩ = some (.int .i64 x.old.1) ∧ w.cell? ⟨b, o + k * 5 + 1 + 1, none⟩ = some (S8 x.old.2) ∧ w.cell? ⟨b, o + k * 5 + 3, none⟩ = some (.int .i64 x.new.1) ∧ w.cell? ⟨b, o + k * 5 + 3 + 1, none⟩ = some (S8 x.new.2) := by
  obtain ⟨a, cap, rfl, h1, h2, h3, h4⟩ := h
  refine ⟨a, cap, rfl, h1, h3, h2, fun k x hk => ?_⟩
  obtain ⟨e0, e1, e2, e3, e4⟩ := flat_ch l k x hk
  obtain ⟨b, o, ha, hc⟩ := h4 (fun h0 => by rw [h0] at e0; simp at e0)
  exact ⟨b, o, ha, hc _ _ e0, by have := hc _ _ e1; rwa [← Nat.add_assoc] at this, by have := hc _ _ e2; rwa [← Nat.add_assoc] at this, by have := hc _ _ e3; rwa [← Nat.add_assoc] at this, by have := hc _ _ e4; rwa [← Nat.add_assoc] at this⟩

/-! ### Two entries held against one another -/
theorem neq_ent (a b : Int × B8) (w : World) : (binOp .neq 54 (.agg #[.int .i64 a.1, S8 a.2]) (.agg #[.int .i64 b.1, S8 b.2])).run Tryz.prog w = .ok (.bool (a != b)) w := by
  have hS : Tryz.prog.underlying 54 = some (.struct (Tryz.prog.fieldsOf 54)) := by kernel_rfl
  have hp : Tryz.prog.stoodInHeld 54 = false := by kernel_rfl
  rw [run_neq_struct, show (10000 : Nat) = 9999 + 1 from rfl, run_equalIn_agg w 9999 54 _ _ hS hp]
  simp only [Program.fieldsOf, Tryz.underlying54]
  go_simp
  obtain ⟨a1, a2⟩ := a
  obtain ⟨b1, b2⟩ := b
  have ha : (⟨a2.toArray⟩ : ByteArray).toList = a2 := Lib.toList_data _
  have hb : (⟨b2.toArray⟩ : ByteArray).toList = b2 := Lib.toList_data _
  by_cases h1 : a1 = b1 <;> by_cases h2 : a2 = b2 <;> simp [h1, h2, ha, hb]
theorem eql_ent (a b : Int × B8) (w : World) : (binOp .eql 54 (.agg #[.int .i64 a.1, S8 a.2]) (.agg #[.int .i64 b.1, S8 b.2])).run Tryz.prog w = .ok (.bool (a == b)) w := by
  have hS : Tryz.prog.underlying 54 = some (.struct (Tryz.prog.fieldsOf 54)) := by kernel_rfl
  have hp : Tryz.prog.stoodInHeld 54 = false := by kernel_rfl
  rw [run_eql_struct, show (10000 : Nat) = 9999 + 1 from rfl, run_equalIn_agg w 9999 54 _ _ hS hp]
  simp only [Program.fieldsOf, Tryz.underlying54]
  go_simp
  obtain ⟨a1, a2⟩ := a
  obtain ⟨b1, b2⟩ := b
  have ha : (⟨a2.toArray⟩ : ByteArray).toList = a2 := Lib.toList_data _
  have hb : (⟨b2.toArray⟩ : ByteArray).toList = b2 := Lib.toList_data _
  by_cases h1 : a1 = b1 <;> by_cases h2 : a2 = b2 <;> simp [h1, h2, ha, hb]
theorem info_chg : (Tryz.prog.info? 56).map (fun i => (i.zero, i.size, i.bytes)) = some (some (.agg #[S8 [], .int .i64 0, S8 [], .int .i64 0, S8 []]), 5, 64) := by kernel_rfl
section
variable {ops : Array Oper} {rest : List Oper} {o : Oper} {a : Act} {Q : Exit → Act → World → Prop} {w : World}
/-- append of a change that lies in a block known whole. -/
theorem app_chg (hgd : o.guard = none) (s x : Operand) (ho : o.op = .call { callee := .builtin .append, args := #[s, x], argTypes := #[49, 49] })
    (base : Nat) (v : Value) (n : Nat) (xs : List Value) (hs : a.eval s = v) (hown : w.ownsRow base 56 5 v n xs)
    (g c : Nat) (r : Chg) (hx : a.eval x = .slice (some ⟨g, 0, none⟩) 1 c) {fr : Nat × Nat} (hg : w.heap[g]? = some (.cells #[S8 r.path, .int .i64 r.old.1, S8 r.old.2, .int .i64 r.new.1, S8 r.new.2] 56 fr))
    (hb : n ≤ 10000000) (hbase : base ≤ w.heap.size)
    (h : ∀ v' w', w'.ownsRow base 56 5 v' (n + 1) (xs ++ chC r) → w.grownBy w' v.ownBlock → wpList Tryz.prog ops Q rest (a.put o.dst v') w') : wpList Tryz.prog ops Q (o :: rest) a w :=
  app_any _ _ _ 5 64 Tryz.underlying49 info_chg rfl (by omega) hgd s x ho base v n xs hs hown ⟨g, 0, none⟩ 1 c (chC r) hx rfl (by simpa [chC] using news_of_block hg) (fun u hu => by simp [chC] at hu; rcases hu with rfl | rfl | rfl | rfl | rfl <;> rfl) (by omega) (by omega) hbase
    (fun v' w' h1 h2 _ => h v' w' h1 h2)
end
set_option maxRecDepth 100000 in
set_option maxHeartbeats 4000000 in
theorem sstat_any (va vb : Value) (a b : List Rw) (w : World) (hva : IsRws w va a) (hvb : IsRws w vb b) (ha : a.length ≤ 1000 ∧ ∀ r ∈ a, r.path.length ≤ 1000) (hb : b.length ≤ 1000 ∧ ∀ r ∈ b, r.path.length ≤ 1000) :
    Calls Tryz.prog 20 #[va, vb] w fun e w' => (∃ v', e = .returned v' ∧ w'.ownsRow w.heap.size 56 5 v' (statM a b).length ((statM a b).flatMap chC)) ∧ Ext w w' := by
  have HVA : Hid (IsRws w va a) := hva
  have HVB : Hid (IsRws w vb b) := hvb
  have HA : Hid (a.length ≤ 1000 ∧ ∀ r ∈ a, r.path.length ≤ 1000) := ha
  have HB : Hid (b.length ≤ 1000 ∧ ∀ r ∈ b, r.path.length ≤ 1000) := hb
  obtain ⟨aa, ac, rfl, -⟩ := hva.cells
  obtain ⟨ba, bc, rfl, -⟩ := hvb.cells
  clear hva hvb ha hb
  go_enter Tryz.func20, Tryz.ntmps20
  go_wp2_with fail
  go_at_call 59
  refine (entries_any _ a w HVA.out (by have := HA.out.1; omega) (fun r hr => Nat.le_trans (HA.out.2 r hr) (by omega))).mono ?_
  rintro e w1 ⟨⟨g1, rfl, hm1, hz1⟩, hx1⟩
  have HM1 : Hid (IsMG entFV w1 g1 (entF a)) := hm1
  have HX1 : Hid (Ext w w1) := hx1
  clear hm1 hz1 hx1
  go_wp2_with fail
  go_at_call 59
  refine (entries_any _ b w1 (HVB.out.ext HX1.out) (by have := HB.out.1; omega) (fun r hr => Nat.le_trans (HB.out.2 r hr) (by omega))).mono ?_
  rintro e w2 ⟨⟨g2, rfl, hm2, hz2⟩, hx2⟩
  have HM2 : Hid (IsMG entFV w2 g2 (entF b)) := hm2
  have HM1 : Hid (IsMG entFV w2 g1 (entF a)) := HM1.out.ext hx2
  have HX2 : Hid (Ext w w2) := HX1.out.trans hx2
  clear hm2 hz2 hx2
  go_wp2_with fail
  obtain ⟨w3, hw3⟩ : ∃ w3, w3 = w2.alloc (.cells #[.slice aa a.length ac, .slice ba b.length bc] 41) := ⟨_, rfl⟩
  have hx3 : Ext w2 w3 := by rw [hw3]; exact (Ext.refl _).alloc _
  have hb3 : w3.heap[w2.heap.size]? = some (.cells #[.slice aa a.length ac, .slice ba b.length bc] 41 (0, 0)) := by rw [hw3]; exact alloc_at _ _
  rw [← hw3]
  have HX3 : Hid (Ext w w3) := HX2.out.trans hx3
  have htb : IsTbs w3 (.slice (some ⟨w2.heap.size, 0, none⟩) 2 2) [.slice aa a.length ac, .slice ba b.length bc] [a, b] := by
    refine ⟨Row.new hb3 (by omega) _ rfl, rfl, fun k u l hu hl => ?_⟩
    match k, hu, hl with
    | 0, hu, hl => cases hu; cases hl; exact HVA.out.ext HX3.out
    | 1, hu, hl => cases hu; cases hl; exact HVB.out.ext HX3.out
    | k + 2, hu, hl => simp at hu
  have HTB : Hid _ := htb
  have hpl : (pathsLs [a, b]).length ≤ 2000 := by
    have h1 := HA.out.1
    have h2 := HB.out.1
    show ([a, b].flatMap fun l => l.map (·.path)).length ≤ 2000
    simp
    omega
  have HM1 : Hid (IsMG entFV w3 g1 (entF a)) := HM1.out.ext hx3
  have HM2 : Hid (IsMG entFV w3 g2 (entF b)) := HM2.out.ext hx3
  clear hw3 hx3 hb3 htb
  go_at_call 60
  refine (spaths_any _ _ _ w3 HTB.out (by omega)).mono ?_
  rw [pathsLs2]
  have hpu : (pathsT a b).length ≤ 2000 := by rw [← pathsLs2]; exact Nat.le_trans (uniqT_len _) hpl
  have HPM : Hid (∀ p ∈ pathsT a b, p.length ≤ 1000) := fun p hp => by
    unfold pathsT at hp
    rw [uniqT_mem, List.mem_append, List.mem_map, List.mem_map] at hp
    rcases hp with ⟨r, hr, rfl⟩ | ⟨r, hr, rfl⟩
    · exact HA.out.2 r hr
    · exact HB.out.2 r hr
  have HST : Hid (statM a b = difL a b (pathsT a b)) := rfl
  obtain ⟨P, hP⟩ : ∃ P, pathsT a b = P := ⟨_, rfl⟩
  rw [hP] at hpu HPM HST ⊢
  rintro e w4 ⟨⟨vp, rfl, hvp⟩, hx4⟩
  have hsp : IsStrs w4 vp P := Row.of_owns hvp (by omega)
  obtain ⟨pa, pc, rfl, q1, q2, q3, hpg⟩ := hsp.get
  have HPG : Hid _ := hpg
  have HX4 : Hid (Ext w w4) := HX3.out.trans hx4
  have HM1 : Hid (IsMG entFV w4 g1 (entF a)) := HM1.out.ext hx4
  have HM2 : Hid (IsMG entFV w4 g2 (entF b)) := HM2.out.ext hx4
  have HLA : Hid (∀ p, lookG entFV (.agg #[.int .i64 0, S8 []]) (entF a) p = .agg #[.int .i64 (entG a p).1, S8 (entG a p).2]) := lookG_ent a
  have HLB : Hid (∀ p, lookG entFV (.agg #[.int .i64 0, S8 []]) (entF b) p = .agg #[.int .i64 (entG b p).1, S8 (entG b p).2]) := lookG_ent b
  clear hP hvp hsp hpg hx4 hpl HTB
  go_wp2_with fail
  go_loopw [7, 19] (fun v i wr => ∃ k : Nat, k ≤ P.length ∧ i = .int .i64 k ∧ Hid (wr.ownsRow w4.heap.size 56 5 v (difL a b (P.take k)).length ((difL a b (P.take k)).flatMap chC)) ∧ Hid (Ext w4 wr)) (fun _ i _ => P.length - (intOf i).toNat)
  case atStart => exact ⟨0, Nat.zero_le _, rfl, World.ownsRow_nil _ _ _ _, Ext.refl _⟩
  case round =>
  obtain ⟨k, hk, rfl, HOW, HX⟩ := hrel
  by_cases hlt : k < P.length
  case neg =>
    have hkk : k = P.length := by omega
    subst hkk
    have HO : Hid (wr.ownsRow w4.heap.size 56 5 u7 (statM a b).length ((statM a b).flatMap chC)) := by
      have h9 := HOW.out
      rw [List.take_length, ← HST.out] at h9
      exact h9
    have HO9 : Hid (wr.ownsRow w.heap.size 56 5 u7 (statM a b).length ((statM a b).flatMap chC)) := World.ownsRow.mono HO.out HX4.out.size
    go_wp2
    go_ret
    exact ⟨⟨_, rfl, HO9.out⟩, HX4.out.trans HX.out⟩
  obtain ⟨p, hp⟩ : ∃ p, P[k]? = some p := ⟨_, List.getElem?_eq_getElem hlt⟩
  obtain ⟨bb, oo, rfl, hc⟩ := HPG.out k hlt
  have y1 := HX.out.cell (hc k hlt)
  rw [show P.getD k [] = p by rw [List.getD_eq_getElem?_getD, hp]; rfl] at y1
  have hplen := HPM.out p (List.mem_of_getElem? hp)
  have hla := fun (w5 : World) (hx : Ext wr w5) => ((HM1.out.ext (HX.out.trans hx)).look_run 112 54 _ Tryz.underlying112 (zero_ent w5) p (by omega)).2
  have hlb := fun (w5 : World) (hx : Ext wr w5) => ((HM2.out.ext (HX.out.trans hx)).look_run 112 54 _ Tryz.underlying112 (zero_ent w5) p (by omega)).2
  rw [HLA.out] at hla
  rw [HLB.out] at hlb
  have HSN : Hid _ := difL_snoc (a := a) (b := b) hp
  have hdl := difL_len a b (P.take k)
  rw [List.length_take] at hdl
  obtain ⟨D, hD⟩ : ∃ D, difL a b (P.take k) = D := ⟨_, rfl⟩
  rw [hD] at HOW HSN hdl
  have hne := fun w => neq_ent (entG a p) (entG b p) w
  have HSS : Hid (statStep a b p = if (entG a p != entG b p) = true then [⟨p, entG a p, entG b p⟩] else []) := rfl
  obtain ⟨ea, hea⟩ : ∃ q, entG a p = q := ⟨_, rfl⟩
  obtain ⟨eb, heb⟩ : ∃ q, entG b p = q := ⟨_, rfl⟩
  rw [hea, heb] at hne HSS
  rw [hea] at hla
  rw [heb] at hlb
  obtain ⟨bq, hbq⟩ : ∃ c, (ea != eb) = c := ⟨_, rfl⟩
  rw [hbq] at hne HSS
  have l1 := hla wr (Ext.refl _)
  have l2 := hlb wr (Ext.refl _)
  have hsz := HX.out.size
  clear hc hp hD hea heb hbq hla hlb
  cases bq with
  | false =>
    have HOX : Hid (wr.ownsRow w4.heap.size 56 5 u7 (difL a b (P.take (k + 1))).length ((difL a b (P.take (k + 1))).flatMap chC)) := by
      unfold Hid
      rw [HSN.out, HSS.out, if_neg (by simp), List.append_nil]
      exact HOW.out
    go_wp2_with fail
    go_roundw
    case rel => exact ⟨k + 1, by omega, by go_num, HOX, HX⟩
    case measure => simp [intOf]; omega
  | true =>
    have hown := HOW.out
    go_wp2_with (at_builtin; go_must (refine app_chg rfl _ _ rfl w4.heap.size _ D.length _ rfl (hown.alloc _) wr.heap.size 1 ⟨p, ea, eb⟩ rfl (alloc_at _ _) (by omega) (by simp; omega) ?_; intro v' w3 hown3 hg3))
    go_roundw
    case rel =>
      refine ⟨k + 1, by omega, by go_num, ?_, owns_ext_app (HX.out.alloc _) (hown.alloc _) hg3⟩
      unfold Hid
      rw [HSN.out, HSS.out, if_pos rfl, List.length_append, List.flatMap_append]
      exact hown3
    case measure => simp [intOf]; omega

end Go.Proofs.YtdhgmpibjneplaaGreatDoor

/-! marref16.same, Status: what they answer. Conditions: as each theorem states. -/
namespace Go.Proofs.YtdhgmpibjneplaaGreatDoor
open Go Go.RowKit Go.Sort
set_option linter.unusedVariables false
set_option linter.unusedSimpArgs false
set_option linter.unusedSectionVars false

set_option maxRecDepth 100000 in
theorem same16_any (a b : Int × B8) (w : World) :
    Calls Tryz.prog 62 #[.agg #[.int .i64 a.1, S8 a.2], .agg #[.int .i64 b.1, S8 b.2]] w fun e w' => e = .returned (.bool (a == b)) ∧ Ext w w' := by
  obtain ⟨a1, a2⟩ := a
  obtain ⟨b1, b2⟩ := b
  have ha : (⟨a2.toArray⟩ : ByteArray).toList = a2 := Lib.toList_data _
  have hb : (⟨b2.toArray⟩ : ByteArray).toList = b2 := Lib.toList_data _
  dsimp only
  obtain ⟨wa, hwa⟩ : ∃ wa, wa = (w.alloc (.cells #[.int .i64 a1, S8 a2] 54)).alloc (.cells #[.int .i64 b1, S8 b2] 54) := ⟨_, rfl⟩
  have hxa : Ext w wa := by rw [hwa]; exact ((Ext.refl _).alloc _).alloc _
  by_cases h1 : a1 = b1
  · have hq1 : (a1 == b1) = true := by simpa using h1
    obtain ⟨q, hq⟩ : ∃ q, (a2 == b2) = q := ⟨_, rfl⟩
    have HR : Hid (((a1, a2) == (b1, b2)) = q) := by
      unfold Hid
      rw [← hq, h1]
      show ((b1 == b1) && (a2 == b2)) = _
      simp
    clear h1
    go_enter Tryz.func62, Tryz.ntmps62
    go_wp2
    go_ret
    exact ⟨ret_b HR.out.symm, ((Ext.refl _).alloc _).alloc _⟩
  · have hq1 : (a1 == b1) = false := by simpa using h1
    have HR : Hid (((a1, a2) == (b1, b2)) = false) := by
      unfold Hid
      show ((a1 == b1) && (a2 == b2)) = _
      rw [hq1]; rfl
    clear h1
    go_enter Tryz.func62, Tryz.ntmps62
    go_wp2
    go_ret
    exact ⟨ret_b HR.out.symm, ((Ext.refl _).alloc _).alloc _⟩

theorem rel_store_rowR {c : Prop} [Decidable c] {ev : Operand → Value} {R : Value → World → Prop} {o : Oper} {w : World} (ty : TypeId) (x y : Operand) {g : Nat} {cells old : Array Value} {t : TypeId} (hc : c) (ho : o.op = .store ty x y) (hx : ev x = .pointer (some ⟨g, 0, none⟩)) (hy : ev y = .agg cells)
    (hg : w.heap[g]? = some (.cells old t (0, 0))) (hi : (Tryz.prog.info? ty).map (·.size) = some cells.size) (hold : old.size = cells.size) (h1 : cells.all (·.oneCell') = true) (h : R undef (w.setRow g cells)) :
    if c then relUpon Tryz.prog R ((execOp ev o).run Tryz.prog w) else R undef w := by
  rw [if_pos hc]
  unfold execOp
  simp only [ho, hx, hy, Instr.storeAt, Instr.sureAddr, Sem.run_bind, Sem.run_pure, Result.andThen_ok, run_storeVar_row w g t ty old cells hg hi hold h1]
  exact h
theorem cellsE2 {w : World} {g : Nat} {v0 v1 : Value} {t : TypeId} {fr : Nat × Nat} (h : w.heap[g]? = some (.cells #[v0, v1] t fr)) : w.cell? ⟨g, 0, none⟩ = some v0 ∧ w.cell? ⟨g, 1, none⟩ = some v1 :=
  ⟨(cell_of_row _ _ 0 _ _ _ h).trans rfl, (cell_of_row _ _ 1 _ _ _ h).trans rfl⟩
/-- What holds while two entries are laid in variables. -/
structure SJ (w0 : World) (e1 e2 : Array Value) (z12 z13 z14 z15 : Option Value) (w : World) : Prop where
  ext : Ext w0 w
  o14 : z14 ≠ none → z12 ≠ none
  o15 : z15 ≠ none → z13 ≠ none
  f12 : ∀ v, z12 = some v → ∃ g, v = .pointer (some ⟨g, 0, none⟩) ∧ w0.heap.size ≤ g ∧ w.heap[g]? = some (.cells (if z14 = none then #[.int .i64 0, S8 []] else e1) 54 (0, 0))
  f13 : ∀ v, z13 = some v → ∃ g, v = .pointer (some ⟨g, 0, none⟩) ∧ w0.heap.size ≤ g ∧ w.heap[g]? = some (.cells (if z15 = none then #[.int .i64 0, S8 []] else e2) 54 (0, 0))
  ne : ∀ g h, z12 = some (.pointer (some ⟨g, 0, none⟩)) → z13 = some (.pointer (some ⟨h, 0, none⟩)) → g ≠ h
section
variable {w0 w w' : World} {e1 e2 : Array Value} {z12 z13 z14 z15 : Option Value}
theorem SJ.start (hx : Ext w0 w) : SJ w0 e1 e2 none none none none w := ⟨hx, fun h => absurd rfl h, fun h => absurd rfl h, fun v hv => (by cases hv), fun v hv => (by cases hv), fun g h hg => (by cases hg)⟩
theorem SJ.more (h : SJ w0 e1 e2 z12 z13 z14 z15 w) (hx : Ext w w') : SJ w0 e1 e2 z12 z13 z14 z15 w' :=
  ⟨h.ext.trans hx, h.o14, h.o15, fun v hv => by obtain ⟨g, a, b, c⟩ := h.f12 v hv; exact ⟨g, a, b, hx.row c⟩, fun v hv => by obtain ⟨g, a, b, c⟩ := h.f13 v hv; exact ⟨g, a, b, hx.row c⟩, h.ne⟩
theorem SJ.set12 (h : SJ w0 e1 e2 z12 z13 z14 z15 w) (hz : z12 = none) : SJ w0 e1 e2 (some (.pointer (some ⟨w.heap.size, 0, none⟩))) z13 z14 z15 (w.alloc (.cells #[.int .i64 0, S8 []] 54)) := by
  have k := h.more ((Ext.refl w).alloc (.cells #[.int .i64 0, S8 []] 54))
  have h14 : z14 = none := by
    cases hq : z14 with
    | none => rfl
    | some v => exact absurd hz (h.o14 (by rw [hq]; simp))
  refine ⟨k.ext, fun _ => by simp, k.o15, fun v hv => by cases hv; exact ⟨_, rfl, h.ext.size, by rw [if_pos h14]; exact alloc_at _ _⟩, k.f13, fun g h9 hg hh => ?_⟩
  cases hg
  obtain ⟨g2, a, b, c⟩ := h.f13 _ hh
  cases a
  have := (Array.getElem?_eq_some_iff.1 c).1
  omega
theorem SJ.set13 (h : SJ w0 e1 e2 z12 z13 z14 z15 w) (hz : z13 = none) : SJ w0 e1 e2 z12 (some (.pointer (some ⟨w.heap.size, 0, none⟩))) z14 z15 (w.alloc (.cells #[.int .i64 0, S8 []] 54)) := by
  have k := h.more ((Ext.refl w).alloc (.cells #[.int .i64 0, S8 []] 54))
  have h15 : z15 = none := by
    cases hq : z15 with
    | none => rfl
    | some v => exact absurd hz (h.o15 (by rw [hq]; simp))
  refine ⟨k.ext, k.o14, fun _ => by simp, k.f12, fun v hv => by cases hv; exact ⟨_, rfl, h.ext.size, by rw [if_pos h15]; exact alloc_at _ _⟩, fun g h9 hg hh => ?_⟩
  cases hh
  obtain ⟨g2, a, b, c⟩ := h.f12 _ hg
  cases a
  have := (Array.getElem?_eq_some_iff.1 c).1
  omega
theorem SJ.set14 {v : Value} (h : SJ w0 e1 e2 z12 z13 z14 z15 w) (hz12 : z12 = some v) (hz14 : z14 = none) : ∃ g, v = .pointer (some ⟨g, 0, none⟩) ∧ w.heap[g]? = some (.cells #[.int .i64 0, S8 []] 54 (0, 0)) ∧ ∀ u, SJ w0 e1 e2 z12 z13 (some u) z15 (w.setRow g e1) := by
  obtain ⟨g, rfl, hb, hc⟩ := h.f12 _ hz12
  rw [if_pos hz14] at hc
  have hgr := setRow_grown w g e1
  refine ⟨g, rfl, hc, fun u => ⟨Ext.but h.ext hgr hb, fun _ => by rw [hz12]; simp, h.o15, fun v hv => ?_, fun v hv => ?_, h.ne⟩⟩
  · rw [hz12] at hv
    cases hv
    exact ⟨g, rfl, hb, by rw [if_neg (by simp)]; exact setRow_heap _ _ _ _ _ _ hc⟩
  · obtain ⟨g2, a, b, c⟩ := h.f13 v hv
    subst a
    exact ⟨g2, rfl, b, but_row hgr c (fun e => h.ne g g2 hz12 hv e.symm)⟩
theorem SJ.set15 {v : Value} (h : SJ w0 e1 e2 z12 z13 z14 z15 w) (hz13 : z13 = some v) (hz15 : z15 = none) : ∃ g, v = .pointer (some ⟨g, 0, none⟩) ∧ w.heap[g]? = some (.cells #[.int .i64 0, S8 []] 54 (0, 0)) ∧ ∀ u, SJ w0 e1 e2 z12 z13 z14 (some u) (w.setRow g e2) := by
  obtain ⟨g, rfl, hb, hc⟩ := h.f13 _ hz13
  rw [if_pos hz15] at hc
  have hgr := setRow_grown w g e2
  refine ⟨g, rfl, hc, fun u => ⟨Ext.but h.ext hgr hb, h.o14, fun _ => by rw [hz13]; simp, fun v hv => ?_, fun v hv => ?_, h.ne⟩⟩
  · obtain ⟨g2, a, b, c⟩ := h.f12 v hv
    subst a
    exact ⟨g2, rfl, b, but_row hgr c (fun e => h.ne g2 g hv hz13 e)⟩
  · rw [hz13] at hv
    cases hv
    exact ⟨g, rfl, hb, by rw [if_neg (by simp)]; exact setRow_heap _ _ _ _ _ _ hc⟩
end
theorem info_chr : (Tryz.prog.info? 57).map (fun i => (i.zero, i.size, i.bytes)) = some (some (.agg #[S8 [], .int .i64 0, S8 [], .int .i64 0, S8 []]), 5, 64) := by kernel_rfl
section
variable {ops : Array Oper} {rest : List Oper} {o : Oper} {a : Act} {Q : Exit → Act → World → Prop} {w : World}
theorem app_chr (hgd : o.guard = none) (s x : Operand) (ho : o.op = .call { callee := .builtin .append, args := #[s, x], argTypes := #[51, 51] })
    (base : Nat) (v : Value) (n : Nat) (xs : List Value) (hs : a.eval s = v) (hown : w.ownsRow base 57 5 v n xs)
    (g c : Nat) (r : Chg) (hx : a.eval x = .slice (some ⟨g, 0, none⟩) 1 c) {fr : Nat × Nat} (hg : w.heap[g]? = some (.cells #[S8 r.path, .int .i64 r.old.1, S8 r.old.2, .int .i64 r.new.1, S8 r.new.2] 57 fr))
    (hb : n ≤ 10000000) (hbase : base ≤ w.heap.size)
    (h : ∀ v' w', w'.ownsRow base 57 5 v' (n + 1) (xs ++ chC r) → w.grownBy w' v.ownBlock → wpList Tryz.prog ops Q rest (a.put o.dst v') w') : wpList Tryz.prog ops Q (o :: rest) a w :=
  app_any _ _ _ 5 64 Tryz.underlying51 info_chr rfl (by omega) hgd s x ho base v n xs hs hown ⟨g, 0, none⟩ 1 c (chC r) hx rfl (by simpa [chC] using news_of_block hg) (fun u hu => by simp [chC] at hu; rcases hu with rfl | rfl | rfl | rfl | rfl <;> rfl) (by omega) (by omega) hbase
    (fun v' w' h1 h2 _ => h v' w' h1 h2)
end

set_option maxRecDepth 100000 in
set_option maxHeartbeats 4000000 in
theorem rstat_any (va vb : Value) (a b : List Rw) (w : World) (hva : IsRws w va a) (hvb : IsRws w vb b) (ha : a.length ≤ 1000 ∧ ∀ r ∈ a, r.path.length ≤ 1000) (hb : b.length ≤ 1000 ∧ ∀ r ∈ b, r.path.length ≤ 1000) :
    Calls Tryz.prog 21 #[va, vb] w fun e w' => (∃ v', e = .returned v' ∧ w'.ownsRow w.heap.size 57 5 v' (statM a b).length ((statM a b).flatMap chC)) ∧ Ext w w' := by
  have HVA : Hid (IsRws w va a) := hva
  have HVB : Hid (IsRws w vb b) := hvb
  have HA : Hid (a.length ≤ 1000 ∧ ∀ r ∈ a, r.path.length ≤ 1000) := ha
  have HB : Hid (b.length ≤ 1000 ∧ ∀ r ∈ b, r.path.length ≤ 1000) := hb
  obtain ⟨aa, ac, rfl, -⟩ := hva.cells
  obtain ⟨ba, bc, rfl, -⟩ := hvb.cells
  clear hva hvb ha hb
  go_enter Tryz.func21, Tryz.ntmps21
  go_wp2_with fail
  obtain ⟨w3, hw3⟩ : ∃ w3, w3 = w.alloc (.cells #[.slice aa a.length ac, .slice ba b.length bc] 41) := ⟨_, rfl⟩
  have hx3 : Ext w w3 := by rw [hw3]; exact (Ext.refl _).alloc _
  have hb3 : w3.heap[w.heap.size]? = some (.cells #[.slice aa a.length ac, .slice ba b.length bc] 41 (0, 0)) := by rw [hw3]; exact alloc_at _ _
  rw [← hw3]
  have HX3 : Hid (Ext w w3) := hx3
  have htb : IsTbs w3 (.slice (some ⟨w.heap.size, 0, none⟩) 2 2) [.slice aa a.length ac, .slice ba b.length bc] [a, b] := by
    refine ⟨Row.new hb3 (by omega) _ rfl, rfl, fun k u l hu hl => ?_⟩
    match k, hu, hl with
    | 0, hu, hl => cases hu; cases hl; exact HVA.out.ext HX3.out
    | 1, hu, hl => cases hu; cases hl; exact HVB.out.ext HX3.out
    | k + 2, hu, hl => simp at hu
  have HTB : Hid _ := htb
  have hpl : (pathsLs [a, b]).length ≤ 2000 := by
    have h1 := HA.out.1
    have h2 := HB.out.1
    show ([a, b].flatMap fun l => l.map (·.path)).length ≤ 2000
    simp
    omega
  clear hw3 hx3 hb3 htb
  go_at_call 61
  refine (rpaths_any _ _ _ w3 HTB.out (by omega)).mono ?_
  rw [pathsLs2]
  have hpu : (pathsT a b).length ≤ 2000 := by rw [← pathsLs2]; exact Nat.le_trans (uniqT_len _) hpl
  have HST : Hid (statM a b = difL a b (pathsT a b)) := rfl
  obtain ⟨P, hP⟩ : ∃ P, pathsT a b = P := ⟨_, rfl⟩
  rw [hP] at hpu HST ⊢
  rintro e w4 ⟨⟨vp, rfl, hvp⟩, hx4⟩
  have hsp : IsStrs w4 vp P := Row.of_owns hvp (by omega)
  obtain ⟨pa, pc, rfl, q1, q2, q3, hpg⟩ := hsp.get
  have HPG : Hid _ := hpg
  have HX4 : Hid (Ext w w4) := HX3.out.trans hx4
  clear hP hvp hsp hpg hx4 hpl HTB
  go_wp2_with fail
  go_loopw [6, 7] (fun v i wr => ∃ k : Nat, k ≤ P.length ∧ i = .int .i64 k ∧ Hid (wr.ownsRow w4.heap.size 57 5 v (difL a b (P.take k)).length ((difL a b (P.take k)).flatMap chC)) ∧ Hid (Ext w4 wr)) (fun _ i _ => P.length - (intOf i).toNat)
  case atStart => exact ⟨0, Nat.zero_le _, rfl, World.ownsRow_nil _ _ _ _, Ext.refl _⟩
  case round =>
  obtain ⟨k, hk, rfl, HOW, HX⟩ := hrel
  by_cases hlt : k < P.length
  case neg =>
    have hkk : k = P.length := by omega
    subst hkk
    have HO : Hid (wr.ownsRow w4.heap.size 57 5 u6 (statM a b).length ((statM a b).flatMap chC)) := by
      have h9 := HOW.out
      rw [List.take_length, ← HST.out] at h9
      exact h9
    have HO9 : Hid (wr.ownsRow w.heap.size 57 5 u6 (statM a b).length ((statM a b).flatMap chC)) := World.ownsRow.mono HO.out HX4.out.size
    go_wp2
    go_ret
    exact ⟨⟨_, rfl, HO9.out⟩, HX4.out.trans HX.out⟩
  obtain ⟨p, hp⟩ : ∃ p, P[k]? = some p := ⟨_, List.getElem?_eq_getElem hlt⟩
  obtain ⟨bb, oo, rfl, hc⟩ := HPG.out k hlt
  have y1 := HX.out.cell (hc k hlt)
  rw [show P.getD k [] = p by rw [List.getD_eq_getElem?_getD, hp]; rfl] at y1
  have HXW : Hid (Ext w wr) := HX4.out.trans HX.out
  have HSN : Hid _ := difL_snoc (a := a) (b := b) hp
  have hdl := difL_len a b (P.take k)
  rw [List.length_take] at hdl
  obtain ⟨D, hD⟩ : ∃ D, difL a b (P.take k) = D := ⟨_, rfl⟩
  rw [hD] at HOW HSN hdl
  have HSS : Hid (statStep a b p = if (entG a p != entG b p) = true then [⟨p, entG a p, entG b p⟩] else []) := rfl
  obtain ⟨⟨am, ai⟩, hea⟩ : ∃ q, entG a p = q := ⟨_, rfl⟩
  obtain ⟨⟨bm, bi⟩, heb⟩ : ∃ q, entG b p = q := ⟨_, rfl⟩
  have HEA : Hid _ := hea
  have HEB : Hid _ := heb
  rw [hea, heb] at HSS
  have HY1 : Hid _ := y1
  clear hc hp hD hea heb
  go_upto_region 6 with fail
  apply wp_region_inv 16 (fun z w' => SJ wr #[.int .i64 am, S8 ai] #[.int .i64 bm, S8 bi] (z 12) (z 13) (z 14) (z 15) w') [false, false, false, false, false, false, false, false, false, false, false, false, true, true, true, true] [_, _, _, _, S8 p, .agg #[.int .i64 am, S8 ai], _, _, _, _, S8 p, .agg #[.int .i64 bm, S8 bi], undef, undef, undef, undef] [none, none, none, none, none, none, none, none, none, none, none, none, none, none, none, none] [[], [], [], [1, 2], [3], [0, 4], [], [], [], [7, 8], [9], [6, 10], [], [], [5, 12], [11, 13]] (by kernel_rfl) (by kernel_rfl) rfl
  · exact SJ.start ⟨rfl, rfl, rfl, Nat.le_refl _, fun _ _ => rfl⟩
  · simp (maxSteps := 1000000) only [oblI, stepI, knowsI, getP, mixP, List.getD_cons_zero, List.getD_cons_succ, Bool.false_eq_true, if_false, if_true, and_true, true_and, forall_const, Nat.zero_add, Nat.reduceAdd, List.take_succ_cons, List.take_zero, fillFrom, Act.put, List.setIfInBounds_toArray, List.set_cons_zero, List.set_cons_succ]
    refine ⟨?_, ?_, ?_, ?_, ?_, ?_, ?_, ?_, ?_, ?_, ?_, ?_, ?_, ?_, ?_, ?_⟩
    · intro xs z wq hj R hR
      have f1 := hj.ext.cell HY1.out
      go_simp
      exact hR _ _ hj rfl
    · intro xs z wq hj R hR
      have f1 := hj.ext.cell HY1.out
      go_simp
      exact hR _ _ hj rfl
    · intro xs z wq hj R hR
      have f1 := hj.ext.cell HY1.out
      go_simp
      exact hR _ _ hj rfl
    · intro xs z wq hj hk R hR
      obtain ⟨hk0, hk1⟩ := hk
      have f1 := hj.ext.cell HY1.out
      go_simp
      exact hR _ _ hj rfl
    · intro xs z wq hj hk R hR
      have f1 := hj.ext.cell HY1.out
      go_simp
      exact hR _ _ hj rfl
    · intro xs z wq hj hk R hR
      obtain ⟨hk0, hk1⟩ := hk
      go_simp
      exact (rget_any _ a p _ (HVA.out.ext (HXW.out.trans hj.ext))).mono (by rw [HEA.out]; rintro e' w8 ⟨rfl, hx8⟩; exact ⟨_, rfl, hR _ _ (hj.more hx8) rfl⟩)
    · intro xs z wq hj R hR
      have f1 := hj.ext.cell HY1.out
      go_simp
      exact hR _ _ hj rfl
    · intro xs z wq hj R hR
      have f1 := hj.ext.cell HY1.out
      go_simp
      exact hR _ _ hj rfl
    · intro xs z wq hj R hR
      have f1 := hj.ext.cell HY1.out
      go_simp
      exact hR _ _ hj rfl
    · intro xs z wq hj hk R hR
      obtain ⟨hk0, hk1⟩ := hk
      have f1 := hj.ext.cell HY1.out
      go_simp
      exact hR _ _ hj rfl
    · intro xs z wq hj hk R hR
      have f1 := hj.ext.cell HY1.out
      go_simp
      exact hR _ _ hj rfl
    · intro xs z wq hj hk R hR
      obtain ⟨hk0, hk1⟩ := hk
      go_simp
      exact (rget_any _ b p _ (HVB.out.ext (HXW.out.trans hj.ext))).mono (by rw [HEB.out]; rintro e' w8 ⟨rfl, hx8⟩; exact ⟨_, rfl, hR _ _ (hj.more hx8) rfl⟩)
    · intro xs z wq hj hz R hR
      go_simp
      exact hR _ _ (hj.set12 hz)
    · intro xs z wq hj hz R hR
      go_simp
      exact hR _ _ (hj.set13 hz)
    · intro xs z wq hj hz hk R hR
      obtain ⟨hk0, hk1⟩ := hk
      obtain ⟨g, hg, hcell, hj'⟩ := hj.set14 hk1 hz
      apply rel_store_rowR 54 (.tmp 8) (.tmp 25) (g := g) (cells := #[.int .i64 am, S8 ai]) (old := #[.int .i64 0, S8 []]) (t := 54)
      · rfl
      · rfl
      · exact hg
      · exact hk0
      · exact hcell
      · exact size_ent
      · rfl
      · simp [Value.oneCell']
      · exact hR _ _ (hj' _)
    · intro xs z wq hj hz hk R hR
      obtain ⟨hk0, hk1⟩ := hk
      obtain ⟨g, hg, hcell, hj'⟩ := hj.set15 hk1 hz
      apply rel_store_rowR 54 (.tmp 9) (.tmp 31) (g := g) (cells := #[.int .i64 bm, S8 bi]) (old := #[.int .i64 0, S8 []]) (t := 54)
      · rfl
      · rfl
      · exact hg
      · exact hk0
      · exact hcell
      · exact size_ent
      · rfl
      · simp [Value.oneCell']
      · exact hR _ _ (hj' _)
  intro xs w5 hj5 hk
  simp only [zAll, List.getD_cons_zero, List.getD_cons_succ, Bool.false_eq_true, if_false, if_true] at hj5
  simp only [heldI, Nat.zero_add, Nat.reduceAdd, and_true] at hk
  obtain ⟨q0, q1, q2, q3, q4, q5, q6, q7, q8, q9, q10, q11⟩ := hk
  simp (maxSteps := 1000000) only [List.drop_succ_cons, List.drop_zero, Nat.zero_add, Nat.reduceAdd, List.take_succ_cons, List.take_zero, fillFrom, Act.put, List.setIfInBounds_toArray, List.set_cons_zero, List.set_cons_succ, q0, q1, q2, q3, q4, q5, q6, q7, q8, q9, q10, q11]
  clear q0 q1 q2 q3 q4 q5 q6 q7 q8 q9 q10 q11
  generalize xs 12 = x12 at *
  generalize xs 13 = x13 at *
  generalize xs 14 = x14 at *
  generalize xs 15 = x15 at *
  obtain ⟨g8, e8, h8b, h8⟩ := hj5.f12 _ rfl
  obtain ⟨g9, e9, h9b, h9⟩ := hj5.f13 _ rfl
  subst e8 e9
  rw [if_neg (by simp)] at h8 h9
  have HX5 : Hid (Ext wr w5) := hj5.ext
  have H8 : Hid _ := h8
  have H9 : Hid _ := h9
  have y5 := hj5.ext.cell HY1.out
  have HY5 : Hid _ := y5
  obtain ⟨z0, z1⟩ := cellsE2 h8
  obtain ⟨v0, v1⟩ := cellsE2 h9
  obtain ⟨bq, hbq⟩ : ∃ c, ((am, ai) == (bm, bi)) = c := ⟨_, rfl⟩
  have HSS2 : Hid (statStep a b p = if (!bq) = true then [⟨p, (am, ai), (bm, bi)⟩] else []) := by
    unfold Hid
    rw [HSS.out]
    show (if (!((am, ai) == (bm, bi))) = true then _ else _) = _
    rw [hbq]
  have HBQ : Hid _ := hbq
  clear hj5 h8 h9 y5 y1 h8b h9b hbq HSS
  go_wp2_with fail
  go_at_call 62
  refine (same16_any (am, ai) (bm, bi) w5).mono ?_
  rw [HBQ.out]
  rintro e w6 ⟨rfl, hx6⟩
  have HX6 : Hid (Ext wr w6) := HX5.out.trans hx6
  have h8 := hx6.row H8.out
  have h9 := hx6.row H9.out
  have y6 := hx6.cell HY5.out
  clear z0 z1 v0 v1 hx6
  cases bq with
  | true =>
    have HOX : Hid (w6.ownsRow w4.heap.size 57 5 u6 (difL a b (P.take (k + 1))).length ((difL a b (P.take (k + 1))).flatMap chC)) := by
      unfold Hid
      rw [HSN.out, HSS2.out, if_neg (by simp), List.append_nil]
      exact owns_ext HOW.out HX6.out
    have HXX : Hid (Ext w4 w6) := HX.out.trans HX6.out
    clear h8 h9 y6
    go_wp2_with fail
    go_roundw
    case rel => exact ⟨k + 1, by omega, by go_num, HOX, HXX⟩
    case measure => simp [intOf]; omega
  | false =>
    have H86 : Hid _ := h8
    have H96 : Hid _ := h9
    clear h8 h9
    go_upto_region 8 with fail
    apply wp_region_mix 9 [_, _, _, _, S8 p, .agg #[.int .i64 am, S8 ai], .agg #[.int .i64 bm, S8 bi], .agg #[S8 p, .int .i64 am, S8 ai, .int .i64 bm, S8 bi], undef] [none, none, none, none, none, none, none, none, some (fun u w' => ∃ b7, u = .slice (some ⟨b7, 0, none⟩) 1 1 ∧ w'.heap[b7]? = some (.cells #[S8 p, .int .i64 am, S8 ai, .int .i64 bm, S8 bi] 57 (0, 0)))] [[], [], [], [1, 2], [3], [], [], [4, 5, 6], [7]] (by kernel_rfl) (by kernel_rfl) (by simp [mixV])
    · refine ⟨?_, trivial⟩
      · exact fun _ _ _ he ⟨b7, h1, h2⟩ => ⟨b7, h1, he.row h2⟩
    · simp (maxSteps := 1000000) only [List.take_succ_cons, List.take_zero, oblFrom, stepObl, fillFrom, Act.put, List.setIfInBounds_toArray, List.set_cons_zero, List.set_cons_succ, knows, getV, mixV, List.getD_cons_zero, List.getD_cons_succ, and_true, true_and, forall_const]
      refine ⟨?_, ?_, ?_, ?_, ?_, ?_, ?_, ?_, ?_⟩
      · intro xs wq hq R hR
        have f1 := hq.cell y6; obtain ⟨f2, f3⟩ := cellsE2 (hq.row H86.out); obtain ⟨f4, f5⟩ := cellsE2 (hq.row H96.out)
        go_simp
        exact hR _ _ (Ext.refl _) rfl
      · intro xs wq hq R hR
        have f1 := hq.cell y6; obtain ⟨f2, f3⟩ := cellsE2 (hq.row H86.out); obtain ⟨f4, f5⟩ := cellsE2 (hq.row H96.out)
        go_simp
        exact hR _ _ (Ext.refl _) rfl
      · intro xs wq hq R hR
        have f1 := hq.cell y6; obtain ⟨f2, f3⟩ := cellsE2 (hq.row H86.out); obtain ⟨f4, f5⟩ := cellsE2 (hq.row H96.out)
        go_simp
        exact hR _ _ (Ext.refl _) rfl
      · intro xs wq hq hk R hR
        obtain ⟨hk0, hk1⟩ := hk
        have f1 := hq.cell y6; obtain ⟨f2, f3⟩ := cellsE2 (hq.row H86.out); obtain ⟨f4, f5⟩ := cellsE2 (hq.row H96.out)
        go_simp
        exact hR _ _ (Ext.refl _) rfl
      · intro xs wq hq hk R hR
        have f1 := hq.cell y6; obtain ⟨f2, f3⟩ := cellsE2 (hq.row H86.out); obtain ⟨f4, f5⟩ := cellsE2 (hq.row H96.out)
        go_simp
        exact hR _ _ (Ext.refl _) rfl
      · intro xs wq hq R hR
        have f1 := hq.cell y6; obtain ⟨f2, f3⟩ := cellsE2 (hq.row H86.out); obtain ⟨f4, f5⟩ := cellsE2 (hq.row H96.out)
        go_simp
        exact hR _ _ (Ext.refl _) rfl
      · intro xs wq hq R hR
        have f1 := hq.cell y6; obtain ⟨f2, f3⟩ := cellsE2 (hq.row H86.out); obtain ⟨f4, f5⟩ := cellsE2 (hq.row H96.out)
        go_simp
        exact hR _ _ (Ext.refl _) rfl
      · intro xs wq hq hk R hR
        obtain ⟨hk0, hk1, hk2⟩ := hk
        have f1 := hq.cell y6; obtain ⟨f2, f3⟩ := cellsE2 (hq.row H86.out); obtain ⟨f4, f5⟩ := cellsE2 (hq.row H96.out)
        go_simp
        exact hR _ _ (Ext.refl _) rfl
      · intro xs wq hq hk R hR
        go_simp
        exact hR _ _ ((Ext.refl _).alloc _) ⟨_, rfl, alloc_at _ _⟩
    intro xs w7 hx7 hk
    simp only [heldV, Nat.zero_add, Nat.reduceAdd, and_true] at hk
    obtain ⟨q0, q1, q2, q3, q4, q5, q6, q7, q8⟩ := hk
    simp (maxSteps := 1000000) only [List.take_succ_cons, List.take_zero, List.drop_succ_cons, List.drop_zero, fillFrom, Act.put, List.setIfInBounds_toArray, List.set_cons_zero, List.set_cons_succ, Nat.zero_add, Nat.reduceAdd, q0, q1, q2, q3, q4, q5, q6, q7]
    clear q0 q1 q2 q3 q4 q5 q6 q7
    generalize xs 8 = x8 at *
    obtain ⟨b7, rfl, hc7⟩ := q8
    have HX7 : Hid (Ext wr w7) := HX6.out.trans hx7
    have hown7 := owns_ext HOW.out HX7.out
    have HXX : Hid (Ext w4 w7) := HX.out.trans HX7.out
    have hsz := HXX.out.size
    clear hx7 y6
    go_wp2_with (at_builtin; go_must (refine app_chr rfl _ _ rfl w4.heap.size _ D.length _ rfl hown7 b7 1 ⟨p, (am, ai), (bm, bi)⟩ rfl hc7 (by omega) (by omega) ?_; intro v' w8 hown8 hg8))
    go_roundw
    case rel =>
      refine ⟨k + 1, by omega, by go_num, ?_, owns_ext_app HXX.out hown7 hg8⟩
      unfold Hid
      rw [HSN.out, HSS2.out, if_pos (by rfl), List.length_append, List.flatMap_append]
      exact hown8
    case measure => simp [intOf]; omega

end Go.Proofs.YtdhgmpibjneplaaGreatDoor

/-! What marlaw13.ScanTrue says, in plain Lean: users write and remove, a scan tells just what stands there. Conditions: as each theorem states. -/
namespace Go.Proofs.YtdhgmpibjneplaaGreatDoor
open Go Go.RowKit

/-- What holds between the deeds: a file system, an index. -/
structure Tru (m : Fs) (ix : Files) : Prop where
  ca : Ca m
  ix : ∀ p k, look ix p = some k → k.time ≤ m.time ∧ ∀ f, look m.now (dirW ++ p) = some f → f.time = k.time → k.data = hashB f.data
  tw : ∀ p f, look m.now (dirW ++ p) = some f → f.time ≤ m.time
/-- Rows tell what stands there. -/
structure Told (m : Fs) (pats : List B8) (rows : List Rw) : Prop where
  eq : rows = (takenL pats ((pathsL m.now).filter (isUnder wP))).map (rowOf m.now)
  has : ∀ r ∈ rows, HasF m.now r.id ∧ ∃ d, r.id = hashB d
theorem Tru.new {m : Fs} {ix : Files} (h : Tru m ix) : Tru m [] := ⟨h.ca, (fun p k hk => by cases hk), h.tw⟩
end Go.Proofs.YtdhgmpibjneplaaGreatDoor

/-! cell: NewLazy, ID, NewCounter, Add. Conditions: one goroutine; at most 10000000 bytes. -/
namespace Go.Proofs.YtdhgmpibjneplaaGreatDoor
open Go Go.RowKit
set_option linter.unusedVariables false
set_option linter.unusedSimpArgs false
set_option linter.unusedSectionVars false

/-- A lazy hash's cells: its Once, the bytes, the hash, how often. -/
def lzCells (d m s : Int) (vb : Value) (id : B8) (n : Int) : Array Value := #[.int .u32 d, .int .i32 m, .int .u32 s, vb, S8 id, .int .i64 n]
theorem lz_cell {w : World} {g j : Nat} {d m s n : Int} {vb v : Value} {id : B8} (hg : w.heap[g]? = some (.cells (lzCells d m s vb id n) 215 (0, 0))) (hj : (lzCells d m s vb id n)[j]? = some v) : w.cell? ⟨g, j, none⟩ = some v :=
  (cell_of_row _ _ j _ _ _ hg).trans hj
theorem lz_frz {w : World} {g j : Nat} {cs : Array Value} {t : TypeId} (hg : w.heap[g]? = some (.cells cs t (0, 0))) : w.frozen? ⟨g, j, none⟩ = false := by simp [World.frozen?, hg]
theorem lz_put0 {w : World} {g : Nat} {d m s n x : Int} {vb : Value} {id : B8} (hg : w.heap[g]? = some (.cells (lzCells d m s vb id n) 215 (0, 0))) : (w.setCell ⟨g, 0, none⟩ (.int .u32 x)).heap[g]? = some (.cells (lzCells x m s vb id n) 215 (0, 0)) := by
  rw [heap_setCell_same w g 0 _ _ _ hg]; simp [lzCells]
theorem lz_put1 {w : World} {g : Nat} {d m s n x : Int} {vb : Value} {id : B8} (hg : w.heap[g]? = some (.cells (lzCells d m s vb id n) 215 (0, 0))) : (w.setCell ⟨g, 1, none⟩ (.int .i32 x)).heap[g]? = some (.cells (lzCells d x s vb id n) 215 (0, 0)) := by
  rw [heap_setCell_same w g 1 _ _ _ hg]; simp [lzCells]
theorem lz_put5 {w : World} {g : Nat} {d m s n x : Int} {vb : Value} {id : B8} (hg : w.heap[g]? = some (.cells (lzCells d m s vb id n) 215 (0, 0))) : (w.setCell ⟨g, 5, none⟩ (.int .i64 x)).heap[g]? = some (.cells (lzCells d m s vb id x) 215 (0, 0)) := by
  rw [heap_setCell_same w g 5 _ _ _ hg]; simp [lzCells]
theorem lz_fr {w : World} {g j : Nat} {v : Value} {cs : Array Value} (hg : w.heap[g]? = some (.cells cs 215 (0, 0))) (hu : ¬ IsU8 w g) {O : Nat → Prop} {w0 : World} (h : Fr O w0 w) (hb : O g) : Fr O w0 (w.setCell ⟨g, j, none⟩ v) :=
  h.step (setCell_grown w g j v) (fun k hk => by cases hk; exact .inl hb) (by rintro k hk; cases hk; exact hu)

set_option maxRecDepth 100000 in
set_option maxHeartbeats 2000000 in
/-- The hash is worked out. -/
theorem body_lz (g bx : Nat) (d m s n : Int) (vb : Value) (b : B8) (fr : Nat × Nat) (w : World) (hE : EnvS w) (hb : IsBytes w vb b) (hl : b.length ≤ 10000000) (hn0 : 0 ≤ n) (hn1 : n ≤ 1000000000)
    (hg : w.heap[g]? = some (.cells (lzCells d m s vb [] n) 215 (0, 0))) (hx : w.heap[bx]? = some (.cells #[.pointer (some ⟨g, 0, none⟩)] 169 fr)) (hgx : g ≠ bx) :
    Calls Tryz.prog 157 #[.pointer (some ⟨bx, 0, none⟩)] w fun e w' => e = .returned (.tuple #[]) ∧ w'.heap[g]? = some (.cells (lzCells d m s vb (shaM b) (n + 1)) 215 (0, 0)) ∧ Fr (fun k => k = g) w w' := by
  have hu : ∀ {w9 : World} {cs : Array Value}, w9.heap[g]? = some (.cells cs 215 (0, 0)) → ¬ IsU8 w9 g := fun h => cells_u8 h (by kernel_rfl)
  have HE : Hid (EnvS w) := hE
  have HB : Hid (IsBytes w vb b) := hb
  have HG : Hid _ := hg
  have HX : Hid _ := hx
  have c3 := lz_cell (j := 3) hg rfl
  have x0 : w.cell? ⟨bx, 0, none⟩ = some (.pointer (some ⟨g, 0, none⟩)) := (cell_of_row _ _ 0 _ _ _ hx).trans rfl
  obtain ⟨va, vc, rfl, -⟩ := id hb
  clear hE hb hg hx
  go_enter Tryz.func157, Tryz.ntmps157
  go_upto_region 0 with fail
  apply wp_region_mix 8 [_, _, _, _, _, S8 (shaM b), _, _] [none, none, none, none, none, none, none, none] [[], [], [1], [2], [3], [4], [0], [6]] (by kernel_rfl) (by kernel_rfl) (by simp [mixV])
  · trivial
  · simp (maxSteps := 1000000) only [List.take_succ_cons, List.take_zero, oblFrom, stepObl, fillFrom, Act.put, List.setIfInBounds_toArray, List.set_cons_zero, List.set_cons_succ, knows, getV, mixV, List.getD_cons_zero, List.getD_cons_succ, and_true, true_and, forall_const]
    refine ⟨?_, ?_, ?_, ?_, ?_, ?_, ?_, ?_⟩
    · intro xs wq hq R hR
      have f1 := hq.cell c3; have f2 := hq.cell x0
      go_simp
      exact hR _ _ (Ext.refl _) rfl
    · intro xs wq hq R hR
      have f1 := hq.cell c3; have f2 := hq.cell x0
      go_simp
      exact hR _ _ (Ext.refl _) rfl
    · intro xs wq hq hk R hR
      have f1 := hq.cell c3; have f2 := hq.cell x0
      go_simp
      exact hR _ _ (Ext.refl _) rfl
    · intro xs wq hq hk R hR
      have f1 := hq.cell c3; have f2 := hq.cell x0
      go_simp
      exact hR _ _ (Ext.refl _) rfl
    · intro xs wq hq hk R hR
      have f1 := hq.cell c3; have f2 := hq.cell x0
      go_simp
      exact hR _ _ (Ext.refl _) rfl
    · intro xs wq hq hk R hR
      go_simp
      exact (id_sha _ b _ (EnvS.ext HE.out hq) (IsBytes.ext HB.out hq) hl).mono (by rintro e' w4 ⟨rfl, h4⟩; exact ⟨_, rfl, hR _ _ h4 rfl⟩)
    · intro xs wq hq hk R hR
      have f1 := hq.cell c3; have f2 := hq.cell x0
      go_simp
      exact hR _ _ (Ext.refl _) rfl
    · intro xs wq hq hk R hR
      have f1 := hq.cell c3; have f2 := hq.cell x0
      go_simp
      exact hR _ _ (Ext.refl _) rfl
  intro xs w2 hx2 hk
  simp only [heldV, Nat.zero_add, Nat.reduceAdd, and_true] at hk
  obtain ⟨q0, q1, q2, q3, q4, q5, q6, q7⟩ := hk
  simp (maxSteps := 1000000) only [List.take_succ_cons, List.take_zero, List.drop_succ_cons, List.drop_zero, fillFrom, Act.put, List.setIfInBounds_toArray, List.set_cons_zero, List.set_cons_succ, Nat.zero_add, Nat.reduceAdd, q0, q1, q2, q3, q4, q5, q6, q7]
  clear q0 q1 q2 q3 q4 q5 q6 q7
  have hg2 := Ext.row hx2 HG.out
  have HX2 : Hid (Ext w w2) := hx2
  have hxr := Ext.row hx2 HX.out
  refine store_field rfl 9 (.tmp 8) (.tmp 6) rfl g 4 rfl (S8 (shaM b)) rfl rfl 215 (lzCells d m s (.slice va b.length vc) [] n) hg2 (Nat.le_of_ble_eq_true rfl) (by kernel_rfl) (lzCells d m s (.slice va b.length vc) (shaM b) n) (by simp [lzCells]) ?_
  intro w3 hg3 hgr3
  have hxr3 := but_row hgr3 hxr (fun e => hgx e.symm)
  have x3 : w3.cell? ⟨bx, 0, none⟩ = some (.pointer (some ⟨g, 0, none⟩)) := (cell_of_row _ _ 0 _ _ _ hxr3).trans rfl
  have HG3 : Hid _ := hg3
  have HF3 : Hid (Fr (fun k => k = g) w w3) := (Fr.of_ext HX2.out).step hgr3 (fun k hk => by cases hk; exact .inl rfl) (by rintro k hk; cases hk; exact hu hg2)
  clear hx2 hg2 hxr hxr3 hgr3 hg3 c3 x0
  go_wp2_with fail
  go_at_call 124
  refine (add_any (lz_cell HG3.out rfl) (lz_frz HG3.out) hn0 hn1).mono ?_
  rintro e w4 ⟨rfl, rfl⟩
  go_wp2
  go_end0
  exact ⟨rfl, lz_put5 HG3.out, lz_fr HG3.out (hu HG3.out) HF3.out rfl⟩

set_option maxRecDepth 100000 in
set_option maxHeartbeats 2000000 in
theorem slow_lz (g bx : Nat) (s n : Int) (vb : Value) (b : B8) (fr : Nat × Nat) (w : World) (hE : EnvS w) (hb : IsBytes w vb b) (ht : TypB w vb) (hl : b.length ≤ 10000000) (hn0 : 0 ≤ n) (hn1 : n ≤ 1000000000) (h2 : 3 ≤ g)
    (hg : w.heap[g]? = some (.cells (lzCells 0 0 s vb [] n) 215 (0, 0))) (hx : w.heap[bx]? = some (.cells #[.pointer (some ⟨g, 0, none⟩)] 169 fr)) (hgx : g ≠ bx) :
    Calls Tryz.prog 205 #[.pointer (some ⟨g, 0, none⟩), .func (.func 157) #[] #[.pointer (some ⟨bx, 0, none⟩)]] w fun e w' => e = .returned (.tuple #[]) ∧ w'.heap[g]? = some (.cells (lzCells 1 0 s vb (shaM b) (n + 1)) 215 (0, 0)) ∧ Fr (fun k => k = g) w w' := by
  have hu : ∀ {w9 : World} {cs : Array Value}, w9.heap[g]? = some (.cells cs 215 (0, 0)) → ¬ IsU8 w9 g := fun h => cells_u8 h (by kernel_rfl)
  have hg1 := lz_put1 (x := 1) hg
  have hf1 : Fr (fun k => k = g) w (w.setCell ⟨g, 1, none⟩ (.int .i32 1)) := lz_fr hg (hu hg) (Fr.refl _ w) rfl
  have hE1 : EnvS (w.setCell ⟨g, 1, none⟩ (.int .i32 1)) := hE.fr hf1 (fun k hk => by subst hk; exact h2)
  have hb1 : IsBytes (w.setCell ⟨g, 1, none⟩ (.int .i32 1)) vb b := Row.keepB hb ht hf1.keep
  have hx1 : (w.setCell ⟨g, 1, none⟩ (.int .i32 1)).heap[bx]? = some (.cells #[.pointer (some ⟨g, 0, none⟩)] 169 fr) := hf1.row hx (fun e => hgx e.symm)
  have hnot : ∀ (x : Bool) (w : World), (Op.unary .not (.bool x)).run Tryz.prog w = .ok (.bool (!x)) w := fun _ _ => rfl
  have HG1 : Hid _ := hg1
  have HF1 : Hid _ := hf1
  have HG : Hid _ := hg
  have HE1 : Hid (EnvS (w.setCell ⟨g, 1, none⟩ (.int .i32 1))) := hE1
  have HB1 : Hid (IsBytes (w.setCell ⟨g, 1, none⟩ (.int .i32 1)) vb b) := hb1
  have HX1 : Hid _ := hx1
  clear hg1 hf1 hE hE1 hg hb hb1 hx hx1 ht
  go_enter_defers Tryz.func205, Tryz.ntmps205
  go_wp2_with (first | (go_at_call 227; go_must (refine (lock_free ⟨g, 1, none⟩ w (lz_cell HG.out rfl) (lz_frz HG.out)).mono ?_; rintro e w' ⟨rfl, rfl⟩)) | (go_at_call 204; go_must (refine (loadB_any ⟨g, 0, none⟩ 0 false _ (lz_cell HG1.out rfl) rfl).mono ?_; rintro e w' ⟨rfl, rfl⟩)) | (go_at_call 157; go_must (refine (body_lz g bx 0 1 s n vb b fr _ HE1.out HB1.out hl hn0 hn1 HG1.out HX1.out hgx).mono ?_; rintro e w2 ⟨rfl, hg2, hf2⟩)))
  have hg2d : w2.drew.heap[g]? = some (.cells (lzCells 0 1 s vb (shaM b) (n + 1)) 215 (0, 0)) := hg2
  have hg3 := lz_put0 (x := 1) hg2d
  have hg4 := lz_put1 (x := 0) hg3
  have hf4 : Fr (fun k => k = g) w (((w2.drew.setCell ⟨g, 0, none⟩ (.int .u32 1))).setCell ⟨g, 1, none⟩ (.int .i32 0)) := lz_fr hg3 (hu hg3) (lz_fr hg2d (hu hg2d) ((HF1.out.trans (hf2.mono (fun k hk => .inl hk))).ext (Ext.refl _).drew) rfl) rfl
  refine leaves_cons (f := 229) (args := #[.pointer (some ⟨g, 0, none⟩), .bool true]) (by simp) (by simp [go_sem]) ?_
  refine (storeB_deferred ⟨g, 0, none⟩ (.int .u32 0) .returning w2 (lz_cell hg2 rfl) (lz_frz hg2)).mono ?_
  rintro e u' w'' ⟨rfl, rfl, rfl⟩
  refine leaves_cons (f := 228) (args := #[.pointer (some ⟨g, 1, none⟩)]) (by simp [Go.settle]) (by simp [go_sem]) ?_
  refine (unlock_deferred ⟨g, 1, none⟩ _ _ (lz_cell hg3 rfl) (lz_frz hg3)).mono ?_
  rintro e u' w'' ⟨rfl, rfl, rfl⟩
  simp [Leaves, Go.settle, results, Tryz.results205]
  exact ⟨hg4, hf4⟩

set_option maxRecDepth 100000 in
set_option maxHeartbeats 2000000 in
theorem do_lz (g bx : Nat) (s n : Int) (vb : Value) (b : B8) (fr : Nat × Nat) (w : World) (hE : EnvS w) (hb : IsBytes w vb b) (ht : TypB w vb) (hl : b.length ≤ 10000000) (hn0 : 0 ≤ n) (hn1 : n ≤ 1000000000) (h2 : 3 ≤ g)
    (hg : w.heap[g]? = some (.cells (lzCells 0 0 s vb [] n) 215 (0, 0))) (hx : w.heap[bx]? = some (.cells #[.pointer (some ⟨g, 0, none⟩)] 169 fr)) (hgx : g ≠ bx) :
    Calls Tryz.prog 156 #[.pointer (some ⟨g, 0, none⟩), .func (.func 157) #[] #[.pointer (some ⟨bx, 0, none⟩)]] w fun e w' => e = .returned (.tuple #[]) ∧ w'.heap[g]? = some (.cells (lzCells 1 0 s vb (shaM b) (n + 1)) 215 (0, 0)) ∧ Fr (fun k => k = g) w w' := by
  have hnot : ∀ (x : Bool) (w : World), (Op.unary .not (.bool x)).run Tryz.prog w = .ok (.bool (!x)) w := fun _ _ => rfl
  have HG : Hid _ := hg
  have HE : Hid (EnvS w) := hE
  have HB : Hid (IsBytes w vb b) := hb
  have HT : Hid (TypB w vb) := ht
  have HX : Hid _ := hx
  clear hg hE hb hx ht
  go_enter Tryz.func156, Tryz.ntmps156
  go_wp2_with (first | (go_at_call 204; go_must (refine (loadB_any ⟨g, 0, none⟩ 0 false _ (lz_cell HG.out rfl) rfl).mono ?_; rintro e w' ⟨rfl, rfl⟩)) | (go_at_call 205; go_must (refine (slow_lz g bx s n vb b fr _ HE.out HB.out HT.out hl hn0 hn1 h2 HG.out HX.out hgx).mono ?_; rintro e w2 ⟨rfl, hg2, hf2⟩)))
  go_end0
  exact ⟨rfl, hg2, hf2⟩

/-- A lazy hash of the call's own, made and asked at once. -/
def LzNew (w : World) (b : B8) (v : Value) (w' : World) : Prop := ∃ (g : Nat) (vb : Value), v = .pointer (some ⟨g, 0, none⟩) ∧ w'.heap[g]? = some (.cells (lzCells 0 0 0 vb [] 0) 215 (0, 0)) ∧ IsBytes w' vb b ∧ TypB w' vb ∧ w.heap.size ≤ g
set_option maxRecDepth 100000 in
theorem newLazy_any (v : Value) (b : B8) (w : World) (hv : IsBytes w v b) (hl : b.length ≤ 10000000) :
    Calls Tryz.prog 117 #[v] w fun e w' => (∃ u, e = .returned u ∧ LzNew w b u w') ∧ Ext w w' := by
  have HV : Hid (IsBytes w v b) := hv
  clear hv
  go_enter Tryz.func117, Tryz.ntmps117
  go_wp2_with fail
  go_at_call 55
  refine (clone_any v b w HV.out (by omega)).mono ?_
  rintro e w1 ⟨⟨vb, rfl, hd⟩, hx⟩
  have hdb := hd.bytes
  obtain ⟨va, vc, rfl, -⟩ := hdb
  have HD : Hid (IsData _ w1 (.slice va b.length vc) b) := hd
  have HX : Hid (Ext w w1) := hx
  clear hd hx
  go_wp2
  go_ret
  have hx2 : Ext w1 (w1.alloc (.cells (lzCells 0 0 0 (.slice va b.length vc) [] 0) 215)) := (Ext.refl _).alloc _
  have hd2 := IsData.ext HD.out hx2
  exact ⟨⟨_, rfl, w1.heap.size, .slice va b.length vc, rfl, alloc_at _ _, hd2.bytes, hd2.typed, HX.out.size⟩, HX.out.trans hx2⟩

set_option maxRecDepth 100000 in
set_option maxHeartbeats 1000000 in
theorem lazyID_any (w0 w : World) (b : B8) (v : Value) (hE : EnvS w) (h2 : 3 ≤ w0.heap.size) (hx : Ext w0 w) (hn : LzNew w0 b v w) (hl : b.length ≤ 10000000) :
    Calls Tryz.prog 118 #[v] w fun e w' => e = .returned (S8 (shaM b)) ∧ Ext w0 w' := by
  obtain ⟨g, vb, rfl, hg, hb, ht, hge⟩ := hn
  have HE : Hid (EnvS w) := hE
  have HG : Hid _ := hg
  have HB : Hid (IsBytes w vb b) := hb
  have HT : Hid (TypB w vb) := ht
  have HX : Hid (Ext w0 w) := hx
  have hglt : g < w.heap.size := (Array.getElem?_eq_some_iff.1 hg).1
  clear hE hg hb ht hx
  go_enter Tryz.func118, Tryz.ntmps118
  go_wp2_with fail
  go_at_call 156
  obtain ⟨bx, hbx⟩ : ∃ bx, w.heap.size = bx := ⟨_, rfl⟩
  obtain ⟨wa, hwa⟩ : ∃ wa, w.alloc (.cells #[.pointer (some ⟨g, 0, none⟩)] 169) = wa := ⟨_, rfl⟩
  have hxa : Ext w wa := by rw [← hwa]; exact (Ext.refl _).alloc _
  have hxb : wa.heap[bx]? = some (.cells #[.pointer (some ⟨g, 0, none⟩)] 169 (0, 0)) := by rw [← hwa, ← hbx]; exact alloc_at _ _
  have hgx : g ≠ bx := by omega
  rw [hbx, hwa]
  have HXB : Hid _ := hxb
  have HXA : Hid (Ext w wa) := hxa
  clear hwa hbx hxa hxb
  refine (do_lz g bx 0 0 vb b (0, 0) wa (HE.out.ext HXA.out) (IsBytes.ext HB.out HXA.out) (HT.out.keep (KeepB.of_ext HXA.out)) hl (by omega) (by omega) (by omega) (Ext.row HXA.out HG.out) HXB.out hgx).mono ?_
  rintro e w2 ⟨rfl, hg2, hf2⟩
  have HX2 : Hid (Ext w0 w2) := Ext.of_fr (HX.out.trans HXA.out) hf2 (fun k hk => by subst hk; exact hge)
  have x0 : w2.cell? ⟨bx, 0, none⟩ = some (.pointer (some ⟨g, 0, none⟩)) := (cell_of_row _ _ 0 _ _ _ (hf2.row HXB.out (fun e => hgx e.symm))).trans rfl
  have c4 := lz_cell (j := 4) hg2 rfl
  clear hg2 hf2
  go_wp2
  go_ret
  exact ⟨rfl, HX2.out⟩

/-! ### Counters -/
theorem newCounter_any (w : World) : Calls Tryz.prog 37 #[] w fun e w' => e = .returned (.pointer (some ⟨w.heap.size, 0, none⟩)) ∧ w'.heap[w.heap.size]? = some (.cells #[.int .i64 0] 128 (0, 0)) ∧ Ext w w' := by
  go_enter Tryz.func37, Tryz.ntmps37
  go_wp2
  go_ret
  exact ⟨rfl, alloc_at _ _, (Ext.refl _).alloc _⟩
theorem add0_run {w : World} {g : Nat} {c : Int} (hc : w.cell? ⟨g, 0, none⟩ = some (.int .i64 c)) (hz : w.frozen? ⟨g, 0, none⟩ = false) (h0 : 0 ≤ c) (h1 : c ≤ 1000000000) :
    (callFunc 160 #[.pointer (some ⟨g, 0, none⟩), .int .i64 1]).run Tryz.prog w = .ok (.value (.int .i64 (c + 1))) (w.setCell ⟨g, 0, none⟩ (.int .i64 (c + 1))) :=
  run_call_add (P := Tryz.prog) Tryz.func160 (by kernel_rfl) (by kernel_rfl) (by kernel_rfl) .i64 (by kernel_rfl) (y := 1) (s := c + 1) hc hz (by
    have := IntWalk.i64_in (c + 1) (by omega)
    simp [go_sem, this])
set_option maxRecDepth 100000 in
theorem add0_any {w : World} {g : Nat} {c : Int} (hc : w.cell? ⟨g, 0, none⟩ = some (.int .i64 c)) (hz : w.frozen? ⟨g, 0, none⟩ = false) (h0 : 0 ≤ c) (h1 : c ≤ 1000000000) :
    Calls Tryz.prog 124 #[.pointer (some ⟨g, 0, none⟩), .int .i64 1] w fun e w' => e = .returned (.int .i64 (c + 1)) ∧ w' = w.setCell ⟨g, 0, none⟩ (.int .i64 (c + 1)) := by
  have hl := add0_run hc hz h0 h1
  go_enter Tryz.func124, Tryz.ntmps124
  go_wp2
  go_ret
  exact ⟨rfl, rfl⟩
set_option maxRecDepth 100000 in
theorem counterAdd_any {w : World} {g : Nat} {c : Int} (hg : w.heap[g]? = some (.cells #[.int .i64 c] 128 (0, 0))) (h0 : 0 ≤ c) (h1 : c ≤ 1000000000) :
    Calls Tryz.prog 82 #[.pointer (some ⟨g, 0, none⟩), .int .i64 1] w fun e w' => e = .returned (.int .i64 (c + 1)) ∧ w'.heap[g]? = some (.cells #[.int .i64 (c + 1)] 128 (0, 0)) ∧ w.grownBy w' (some g) := by
  have hc : w.cell? ⟨g, 0, none⟩ = some (.int .i64 c) := (cell_of_row _ _ 0 _ _ _ hg).trans rfl
  have hz : w.frozen? ⟨g, 0, none⟩ = false := by simp [World.frozen?, hg]
  have HG : Hid _ := hg
  have hws : IntKind.i64.wrap (c + 1) = c + 1 := IntWalk.i64_in _ (by omega)
  clear hg
  go_enter Tryz.func82, Tryz.ntmps82
  go_wp2_with fail
  go_at_call 124
  refine (add0_any hc hz h0 h1).mono ?_
  rintro e w2 ⟨rfl, rfl⟩
  go_wp2
  go_ret
  exact ⟨rfl, by rw [heap_setCell_same w g 0 _ _ _ HG.out]; simp, setCell_grown w g 0 _⟩

end Go.Proofs.YtdhgmpibjneplaaGreatDoor

/-! A file system of the call's own. Conditions: as each theorem states. -/
namespace Go.Proofs.YtdhgmpibjneplaaGreatDoor
open Go Go.RowKit
set_option linter.unusedVariables false
set_option linter.unusedSimpArgs false
set_option linter.unusedSectionVars false

theorem env_ltR {w0 : World} (hE : Env w0) : 0 < w0.heap.size := by
  obtain ⟨m, hm⟩ := hE
  exact World.block_lt_of_cell? _ _ hm
/-- A file system of the call's own. -/
structure One (w0 : World) (S O : Nat → Prop) (w : World) (f : Value) (m : Fs) : Prop where
  ext : Ext w0 w
  fs : IsFs S O (fun k => k < w.heap.size) w f m
  lo : ∀ k, O k → w0.heap.size ≤ k ∧ k < w.heap.size
  loS : ∀ k, S k → w0.heap.size ≤ k ∧ k < w.heap.size
  disS : ∀ k, S k → ¬ O k
section
variable {w0 w w' : World} {S O : Nat → Prop} {f : Value} {m m' : Fs} {n : Nat}
theorem One.noG (h : One w0 S O w f m) (hE : Env w0) : NoG O := fun k hk e => by have := h.lo k hk; have := env_ltR hE; omega
theorem One.fin (h : One w0 S O w f m) (hE : Env w0) (hg : Good n m) (hn : n ≤ 80000) : FsIn S O (fun k => k < w.heap.size) w f m := by
  have ht := hg.time
  have hc := hg.calls
  exact ⟨hE.ext h.ext, h.fs, hg.ok, hg.plan, by omega, by omega, h.noG hE, fun k hk => ⟨h.disS k hk, (h.loS k hk).2⟩, fun k hk => (h.lo k hk).2, hg.room0, hg.room1⟩
theorem One.more (h : One w0 S O w f m) (hx : Ext w w') : One w0 S O w' f m := by
  have hs := hx.size
  exact ⟨h.ext.trans hx, (h.fs.ext hx).mono (fun _ h => h) (fun k hk => Nat.lt_of_lt_of_le hk hs), fun k hk => by have := h.lo k hk; omega, fun k hk => by have := h.loS k hk; omega, h.disS⟩
theorem One.post (h : One w0 S O w f m) (hp : FsPost S O (fun k => k < w.heap.size) w f m' w') : One w0 S (Nw O w w') w' f m' := by
  have hs := hp.fr.size
  have hs0 := h.ext.size
  refine ⟨Ext.of_fr h.ext hp.fr (fun k hk => (h.lo k hk).1), hp.fs.mono (fun _ h => h) (fun k hk => by rcases hk with hk | hk <;> omega), fun k hk => ?_, fun k hk => by have := h.loS k hk; omega, fun k hk ho => ?_⟩
  · rcases hk with hk | hk
    · have := h.lo k hk; omega
    · exact ⟨by omega, hk.2⟩
  · rcases ho with ho | ho
    · exact h.disS k hk ho
    · have := h.loS k hk; omega
end
theorem One.new {w w' : World} {p : Value} {room : Int} (h : IsFs (fun _ => False) (Nu w w') (fun _ => False) w' p (newM room)) (hx : Ext w w') : One w (fun _ => False) (Nu w w') w' p (newM room) :=
  ⟨hx, h.mono (fun _ h => h) (fun _ h => h.elim), fun k hk => hk, fun k hk => hk.elim, fun k hk => hk.elim⟩
theorem good_new {room : Int} (h0 : 0 ≤ room) (h1 : room ≤ 1073741824) : Good 0 (newM room) :=
  ⟨(new_ok room).1, (new_ok room).2, Nat.zero_le _, Nat.le_refl _, Nat.le_refl _, h0, h1⟩


theorem one_byte {w : World} {g : Nat} {x : UInt8} {fr : Nat × Nat} (h : w.heap[g]? = some (.cells #[.int .u8 (x.toNat : Int)] 5 fr)) : IsBytes w (.slice (some ⟨g, 0, none⟩) 1 1) [x] := Row.new h (by decide) _ rfl
theorem list_short {m : Fs} {dir : B8} (h : OkM m) (hp : PlanOk m) : ∀ s ∈ (listM m dir).2.1, s.length ≤ 200 := by
  have hok := (call_left h hp).1.ok
  have hall : ∀ s ∈ pathsL (callM m).1.now, s.length ≤ 200 := fun s hs => by
    obtain ⟨e, he, rfl⟩ := List.mem_map.1 hs
    exact path_short (hok.dnow e he).1
  unfold listM
  intro s hs
  split at hs
  · cases hs
  · split at hs
    · exact hall s hs
    · split at hs
      · cases hs
      · exact hall s (List.mem_filter.1 hs).1
theorem env_lt' {w0 : World} (hE : Env w0) : 0 < w0.heap.size := by
  obtain ⟨m, hm⟩ := hE.maxl
  exact World.block_lt_of_cell? _ _ hm
theorem FsPost.fin {S O R : Nat → Prop} {w w' : World} {p : Value} {m m' : Fs} (h : FsIn S O R w p m) (hp : FsPost S O R w p m' w') {n : Nat} (hg : Good n m') (hn : n ≤ 80000) : FsIn S (Nw O w w') (Nw R w w') w' p m' := by
  have hs := hp.fr.size
  exact ⟨h.env.fr hp.fr h.noG, hp.fs, hg.ok, hg.plan, by have := hg.time; omega, by have := hg.calls; omega,
    fun k hk e => by
      rcases hk with hk | hk
      · exact h.noG k hk e
      · have := env_lt' h.env; omega,
    fun k hk => ⟨fun ho => by
      rcases ho with ho | ho
      · exact (h.apart k hk).1 ho
      · have := (h.apart k hk).2; omega, by have := (h.apart k hk).2; omega⟩,
    fun k hk => by
      rcases hk with hk | hk
      · have := h.low k hk; omega
      · exact hk.2, hg.room0, hg.room1⟩

end Go.Proofs.YtdhgmpibjneplaaGreatDoor

/-! names.Under; a block of the call's own is written. Conditions: as each theorem states. -/
namespace Go.Proofs.YtdhgmpibjneplaaGreatDoor
open Go Go.RowKit
set_option linter.unusedVariables false
set_option linter.unusedSimpArgs false
set_option linter.unusedSectionVars false

def underB (d s : B8) : Bool := pathB d && (pathB s && isUnder d s)
variable [Inhabited BaseW]
/-- A block of the call's own that lies apart is written. -/
theorem One.grown {w0 w w' : World} {S O : Nat → Prop} {f : Value} {m : Fs} {b : Nat} (h : One w0 S O w f m) (hg : w.grownBy w' (some b)) (hb : w0.heap.size ≤ b) (hO : ¬ O b) (hS : ¬ S b) (hu : ¬ IsU8 w b) : One w0 S O w' f m := by
  have hs := hg.size
  have hne : ∀ k, k ≠ b → k < w.heap.size → w'.heap[k]? = w.heap[k]? := fun k hk hlt => hg.block k hlt (fun e => hk (Option.some.inj e))
  refine ⟨Ext.of_fr h.ext (Fr.of_grown (O := fun k => k = b) hg rfl hu) (fun k hk => by omega), (h.fs.stay (fun k hk hlt => hne k (fun e => hO (e ▸ hk)) hlt) (fun k hk hlt => hne k (fun e => hS (e ▸ hk)) hlt) (grown_keepR hg hu)).mono (fun _ h => h) (fun k hk => by omega), fun k hk => by have := h.lo k hk; omega, fun k hk => by have := h.loS k hk; omega, h.disS⟩
end Go.Proofs.YtdhgmpibjneplaaGreatDoor
