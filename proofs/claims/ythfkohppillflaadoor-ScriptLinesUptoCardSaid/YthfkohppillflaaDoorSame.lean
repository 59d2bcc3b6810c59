/- marref.Bytes, Ints: lists held against one another. Conditions: none. -/
import Derived.Test.YthfkohppillflaaDoorRloop
namespace Go.Proofs.YthfkohppillflaaDoor
open Go Go.RowKit

set_option maxRecDepth 100000 in
set_option maxHeartbeats 400000 in
theorem bytes_any (v v' : Value) (l l' : B8) (w : World) (hv : IsBytes w v l) (hv' : IsBytes w v' l') :
    Calls Tryd.prog 18 #[v, v'] w fun e w' => e = .returned (.bool (l == l')) ∧ Ext w w' := by
  have c1 := conv_bytes hv
  have c2 := conv_bytes hv'
  have hd : (⟨l.toArray⟩ : ByteArray).toList = l := Lib.toList_data _
  have hd' : (⟨l'.toArray⟩ : ByteArray).toList = l' := Lib.toList_data _
  obtain ⟨a, cap, rfl, -⟩ := hv.get
  obtain ⟨a', cap', rfl, -⟩ := hv'.get
  clear hv hv'
  go_enter Tryd.func18, Tryd.ntmps18
  go_wp2
  go_ret
  exact ⟨rfl, Ext.refl _⟩

set_option maxRecDepth 100000 in
set_option maxHeartbeats 400000 in
theorem ints_any (v v' : Value) (l : List Int) (w : World) (hv : IsInts w v l) (hv' : IsInts w v' l) :
    Calls Tryd.prog 41 #[v, v'] w fun e w' => e = .returned (.bool true) ∧ Ext w w' := by
  obtain ⟨a, cap, rfl, h1, h2, h3, h4⟩ := hv.get
  obtain ⟨a', cap', rfl, -, -, -, h4'⟩ := hv'.get
  have H4 : Hid _ := h4
  have H4' : Hid _ := h4'
  clear h4 h4' hv hv'
  go_enter Tryd.func41, Tryd.ntmps41
  go_wp2
  go_loopw [5] (fun i wr => ∃ k : Nat, k ≤ l.length ∧ i = .int .i64 k ∧ Ext w wr) (fun i _ => l.length - (intOf i).toNat)
  case atStart => exact ⟨0, Nat.zero_le _, rfl, Ext.refl _⟩
  case round =>
    obtain ⟨k, hk, rfl, hx⟩ := hrel
    by_cases hlt : k < l.length
    · obtain ⟨b, o, rfl, hc⟩ := H4.out k hlt
      obtain ⟨b', o', rfl, hc'⟩ := H4'.out k hlt
      obtain ⟨n, hn⟩ : ∃ n, l.getD k 0 = n := ⟨_, rfl⟩
      have c1 := hx.cell (hc k hlt)
      have c2 := hx.cell (hc' k hlt)
      rw [hn] at c1 c2
      clear hc hc' hn
      go_wp2
      apply wp_region_mix 9 [_, _, _, _, _, _, _, _, _] [none, none, none, none, none, none, none, none, none] [[], [], [0, 1], [2], [], [], [4, 5], [6], [3, 7]] (by kernel_rfl) (by kernel_rfl) (by simp [mixV])
      · trivial
      · simp (maxSteps := 1000000) only [List.take_succ_cons, List.take_zero, oblFrom, stepObl, fillFrom, Act.put, List.setIfInBounds_toArray, List.set_cons_zero, List.set_cons_succ, knows, getV, mixV, List.getD_cons_zero, List.getD_cons_succ, and_true, true_and, forall_const]
        refine ⟨?_, ?_, ?_, ?_, ?_, ?_, ?_, ?_, ?_⟩
        · intro xs wq hq R hR
          have f1 := hq.cell c1; have f2 := hq.cell c2
          go_simp
          exact hR _ _ (Ext.refl _) rfl
        · intro xs wq hq R hR
          have f1 := hq.cell c1; have f2 := hq.cell c2
          go_simp
          exact hR _ _ (Ext.refl _) rfl
        · intro xs wq hq hk R hR
          obtain ⟨hk0, hk1⟩ := hk
          have f1 := hq.cell c1; have f2 := hq.cell c2
          go_simp
          exact hR _ _ (Ext.refl _) rfl
        · intro xs wq hq hk R hR
          have f1 := hq.cell c1; have f2 := hq.cell c2
          go_simp
          exact hR _ _ (Ext.refl _) rfl
        · intro xs wq hq R hR
          have f1 := hq.cell c1; have f2 := hq.cell c2
          go_simp
          exact hR _ _ (Ext.refl _) rfl
        · intro xs wq hq R hR
          have f1 := hq.cell c1; have f2 := hq.cell c2
          go_simp
          exact hR _ _ (Ext.refl _) rfl
        · intro xs wq hq hk R hR
          obtain ⟨hk0, hk1⟩ := hk
          have f1 := hq.cell c1; have f2 := hq.cell c2
          go_simp
          exact hR _ _ (Ext.refl _) rfl
        · intro xs wq hq hk R hR
          have f1 := hq.cell c1; have f2 := hq.cell c2
          go_simp
          exact hR _ _ (Ext.refl _) rfl
        · intro xs wq hq hk R hR
          obtain ⟨hk0, hk1⟩ := hk
          have f1 := hq.cell c1; have f2 := hq.cell c2
          go_simp
          exact hR _ _ (Ext.refl _) rfl
      intro xs w2 hx2 hk
      simp only [heldV, Nat.zero_add, Nat.reduceAdd, and_true] at hk
      obtain ⟨q0, q1, q2, q3, q4, q5, q6, q7, q8⟩ := hk
      simp (maxSteps := 1000000) only [List.take_succ_cons, List.take_zero, List.drop_succ_cons, List.drop_zero, fillFrom, Act.put, List.setIfInBounds_toArray, List.set_cons_zero, List.set_cons_succ, Nat.zero_add, Nat.reduceAdd, q0, q1, q2, q3, q4, q5, q6, q7, q8]
      clear q0 q1 q2 q3 q4 q5 q6 q7 q8
      refine wpList_nil ?_
      go_wp2
      go_roundw
      case rel => exact ⟨k + 1, by omega, by go_num, hx.trans hx2⟩
      case measure => simp [intOf]; omega
    · have hkk : k = l.length := by omega
      subst hkk
      go_wp2
      go_ret
      exact ⟨rfl, hx⟩

end Go.Proofs.YthfkohppillflaaDoor
