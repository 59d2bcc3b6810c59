/- marref1.Hex: bytes as hexadecimal digits. Conditions: at most 3000000 bytes. -/
import Derived.Test.YthfkohppillflaaDoorRsmall
namespace Go.Proofs.YthfkohppillflaaDoor
open Go Go.RowKit

set_option maxRecDepth 100000 in
set_option maxHeartbeats 400000 in
theorem rhex_any (v : Value) (l : B8) (w : World) (hv : IsBytes w v l) (hl : l.length ≤ 3000000) :
    Calls Tryd.prog 39 #[v] w fun e w' => e = .returned (S8 (hexL l)) ∧ Ext w w' := by
  obtain ⟨a, cap, rfl, h1, h2, h3, h4⟩ := hv.get
  have H4 : Hid _ := h4
  clear h4 hv
  go_enter Tryd.func39, Tryd.ntmps39
  go_wp2
  go_loopw [4, 5] (fun v i wr => ∃ k : Nat, k ≤ l.length ∧ i = .int .i64 k ∧ wr.ownsRow w.heap.size 5 1 v (2 * k) ((hexL (l.take k)).map fun x => .int .u8 x.toNat) ∧ Ext w wr) (fun _ i _ => l.length - (intOf i).toNat)
  case atStart => exact ⟨0, Nat.zero_le _, rfl, World.ownsRow_nil _ _ _ _, Ext.refl _⟩
  case round =>
    obtain ⟨k, hk, rfl, hown, hx⟩ := hrel
    by_cases hlt : k < l.length
    · obtain ⟨b, o, rfl, hc⟩ := H4.out k hlt
      have hck := hx.cell (hc k hlt)
      clear hc
      generalize hy : l.getD k 0 = y at hck
      have HY : Hid _ := hy
      clear hy
      have hy256 : y.toNat < 256 := y.toNat_lt
      have ha : bits BinOp.and IntKind.u8 (y.toNat : Int) 15 = ((y.toNat % 16 : Nat) : Int) := and15 _ hy256
      have HA : Hid _ := ha
      clear ha
      go_wp2
      apply wp_region_mix 16 [_, _, _, _, _, .int .u8 y.toNat, _, .int .u8 (hexs.getD (y.toNat / 16) 0).toNat, _, _, _, _, .int .u8 y.toNat, _, .int .u8 (hexs.getD (y.toNat % 16) 0).toNat, undef] [none, none, none, none, none, none, none, none, none, none, none, none, none, none, none, some (fun u w' => ∃ g, u = .slice (some ⟨g, 0, none⟩) 2 2 ∧ wr.heap.size ≤ g ∧ w'.heap[g]? = some (.cells #[.int .u8 (hexs.getD (y.toNat / 16) 0).toNat, .int .u8 (hexs.getD (y.toNat % 16) 0).toNat] 5 (0, 0)))] [[], [], [], [], [2, 3], [4], [5], [1, 6], [], [], [], [9, 10], [11], [12], [8, 13], [7, 14]] (by kernel_rfl) (by kernel_rfl) (by simp [mixV])
      · refine ⟨?_, trivial⟩
        · exact fun u w w' he ⟨g, h1, h2, h3⟩ => ⟨g, h1, h2, (he.block g (Array.getElem?_eq_some_iff.1 h3).1).trans h3⟩
      · simp (maxSteps := 1000000) only [List.take_succ_cons, List.take_zero, oblFrom, stepObl, fillFrom, Act.put, List.setIfInBounds_toArray, List.set_cons_zero, List.set_cons_succ, knows, getV, mixV, List.getD_cons_zero, List.getD_cons_succ, and_true, true_and, forall_const]
        refine ⟨?_, ?_, ?_, ?_, ?_, ?_, ?_, ?_, ?_, ?_, ?_, ?_, ?_, ?_, ?_, ?_⟩
        · intro xs wq hq R hR
          have hckq := hq.cell hck
          go_simp
          exact hR _ _ (Ext.refl _) rfl
        · intro xs wq hq R hR
          have hckq := hq.cell hck
          go_simp
          exact hR _ _ (Ext.refl _) rfl
        · intro xs wq hq R hR
          have hckq := hq.cell hck
          go_simp
          exact hR _ _ (Ext.refl _) rfl
        · intro xs wq hq R hR
          have hckq := hq.cell hck
          go_simp
          exact hR _ _ (Ext.refl _) rfl
        · intro xs wq hq hk R hR
          obtain ⟨hk0, hk1⟩ := hk
          have hckq := hq.cell hck
          go_simp
          exact hR _ _ (Ext.refl _) rfl
        · intro xs wq hq hk R hR
          have hckq := hq.cell hck
          go_simp
          exact hR _ _ (Ext.refl _) rfl
        · intro xs wq hq hk R hR
          have hckq := hq.cell hck
          go_simp
          exact hR _ _ (Ext.refl _) rfl
        · intro xs wq hq hk R hR
          obtain ⟨hk0, hk1⟩ := hk
          go_simp
          rw [dif_pos ⟨by omega, by omega⟩]
          exact hR _ _ (Ext.refl _) (hex_hi y (by omega))
        · intro xs wq hq R hR
          have hckq := hq.cell hck
          go_simp
          exact hR _ _ (Ext.refl _) rfl
        · intro xs wq hq R hR
          have hckq := hq.cell hck
          go_simp
          exact hR _ _ (Ext.refl _) rfl
        · intro xs wq hq R hR
          have hckq := hq.cell hck
          go_simp
          exact hR _ _ (Ext.refl _) rfl
        · intro xs wq hq hk R hR
          obtain ⟨hk0, hk1⟩ := hk
          have hckq := hq.cell hck
          go_simp
          exact hR _ _ (Ext.refl _) rfl
        · intro xs wq hq hk R hR
          have hckq := hq.cell hck
          go_simp
          exact hR _ _ (Ext.refl _) rfl
        · intro xs wq hq hk R hR
          have hckq := hq.cell hck
          go_simp
          exact hR _ _ (Ext.refl _) rfl
        · intro xs wq hq hk R hR
          obtain ⟨hk0, hk1⟩ := hk
          go_simp
          rw [HA.out, dif_pos ⟨by omega, by omega⟩]
          exact hR _ _ (Ext.refl _) (hex_lo y (by omega))
        · intro xs wq hq hk R hR
          obtain ⟨hk0, hk1⟩ := hk
          go_simp
          exact hR _ _ ((Ext.refl _).alloc _) ⟨_, rfl, hq.size, alloc_at _ _⟩
      intro xs w2 hx2 hk
      simp only [heldV, Nat.zero_add, Nat.reduceAdd, and_true] at hk
      obtain ⟨q0, q1, q2, q3, q4, q5, q6, q7, q8, q9, q10, q11, q12, q13, q14, q15⟩ := hk
      simp (maxSteps := 1000000) only [List.take_succ_cons, List.take_zero, List.drop_succ_cons, List.drop_zero, fillFrom, Act.put, List.setIfInBounds_toArray, List.set_cons_zero, List.set_cons_succ, Nat.zero_add, Nat.reduceAdd, q0, q1, q2, q3, q4, q5, q6, q7, q8, q9, q10, q11, q12, q13, q14]
      clear q0 q1 q2 q3 q4 q5 q6 q7 q8 q9 q10 q11 q12 q13 q14
      generalize xs 15 = x15 at *
      obtain ⟨g, rfl, hg1, hg2⟩ := q15
      have hown2 := owns_ext hown hx2
      have hlen := hexL_length (l.take k)
      go_wp2_with (at_builtin; refine app_u8 rfl _ _ rfl w.heap.size _ (2 * k) _ rfl hown2 g 2 2 [hexs.getD (y.toNat / 16) 0, hexs.getD (y.toNat % 16) 0] rfl rfl hg2 (by omega) (by have := (hx.trans hx2).size; exact this) ?_; intro v' w3 hown3 hg3)
      go_roundw
      case rel => exact ⟨k + 1, by omega, by go_num, by rw [hexL_snoc hlt HY.out]; exact hown3, owns_ext_app (hx.trans hx2) hown2 hg3⟩
      case measure => simp [intOf]; omega
    · have hkk : k = l.length := by omega
      subst hkk
      rw [List.take_length] at hown
      have hlen := hexL_length l
      have hcv := conv_bytes (l := hexL l) (by unfold IsBytes; rw [hlen]; exact Row.of_owns hown (by omega))
      clear hlen
      go_wp2
      go_ret
      exact ⟨rfl, hx⟩

end Go.Proofs.YthfkohppillflaaDoor
