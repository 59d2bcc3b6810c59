/- marlaw26.ScriptBytes: true at any bytes. Conditions: the library's variables. -/
import Derived.Test.YthfkohppillflaaDoorFirst
namespace Go.Proofs.YthfkohppillflaaDoor
open Go Go.RowKit

set_option maxRecDepth 100000 in
set_option maxHeartbeats 4000000 in
theorem scriptBytes_any (v : Value) (l : B8) (w : World) (hE : Env w) (hv : IsBytes w v l) :
    Calls Tryd.prog 5 #[v] w fun e w' => e = .returned (.bool true) ∧ Ext w w' := by
  have HE : Hid _ := hE
  have HV : Hid _ := hv
  obtain ⟨a, cap, rfl, h1, h2, h3, -⟩ := hv.get
  clear hE hv
  by_cases hbig : 6000 < l.length
  · have hbi : (6000 : Int) < (l.length : Int) := by omega
    go_enter Tryd.func5, Tryd.ntmps5
    go_wp2_with fail
    go_at_call 7
    refine (first_any _ HE.out).mono ?_
    rintro e w2 ⟨rfl, hx2⟩
    go_wp2_with fail
    go_at_call 7
    refine (first_any _ (HE.out.ext hx2)).mono ?_
    rintro e w3 ⟨rfl, hx3⟩
    go_wp2
    go_ret
    exact ⟨rfl, hx2.trans hx3⟩
  · have hbi : ¬ (6000 : Int) < (l.length : Int) := by omega
    have hl : l.length ≤ 6000 := by omega
    have hN : (actsL l).length ≤ 500 := by rw [actsL_length]; unfold actsN; omega
    have HL : Hid _ := hl
    clear hbig
    go_enter Tryd.func5, Tryd.ntmps5
    go_wp2_with fail
    go_at_call 7
    refine (first_any _ HE.out).mono ?_
    rintro e w2 ⟨rfl, hx2⟩
    go_wp2_with (first
      | (go_at_call 15; go_must (refine (copy_any _ l _ (IsBytes.ext HV.out hx2) (by have := HL.out; omega)).mono ?_; rintro e w3 ⟨⟨v3, rfl, hb3⟩, hx3⟩; have hx03 := hx2.trans hx3; obtain ⟨c1, c2, rfl, -⟩ := id hb3; have HB3 : Hid _ := hb3; clear hb3))
      | (go_at_call 16; go_must (refine (acts_any _ l _ HB3.out (by have := HL.out; omega)).mono ?_; rintro e w4 ⟨⟨v4, rfl, ha4⟩, hx4⟩; have hx04 := hx03.trans hx4; obtain ⟨d1, d2, rfl, -⟩ := ha4.get; have HA4 : Hid _ := ha4; clear ha4))
      | (go_at_call 17; go_must (refine (racts_any _ l _ (IsBytes.ext HV.out hx04) (by have := HL.out; omega)).mono ?_; rintro e w5 ⟨⟨v5, rfl, ha5⟩, hx5⟩; have hx05 := hx04.trans hx5; obtain ⟨e1, e2, rfl, -⟩ := ha5.get; have HA5 : Hid _ := ha5; clear ha5))
      | (go_at_call 18; go_must (refine (bytes_any _ _ _ _ _ (IsBytes.ext HB3.out (hx4.trans hx5)) (IsBytes.ext HV.out hx05)).mono ?_; rw [beq_self_eq_true]; rintro e w6 ⟨rfl, hx6⟩)))
    have hx06 := hx05.trans hx6
    obtain ⟨g1, g2, he1, -, -, -, h4⟩ := (IsActs.ext HA4.out (hx5.trans hx6)).get
    obtain ⟨g3, g4, he2, -, -, -, h5⟩ := (IsActs.ext HA5.out hx6).get
    simp only [Value.slice.injEq] at he1 he2
    obtain ⟨rfl, -, rfl⟩ := he1
    obtain ⟨rfl, -, rfl⟩ := he2
    have H4 : Hid _ := h4
    have H5 : Hid _ := h5
    clear h4 h5
    generalize hX : actsL l = xs0 at *
    go_loopw [6] (fun i wr => ∃ k : Nat, k ≤ xs0.length ∧ i = .int .i64 k ∧ Ext w6 wr) (fun i _ => xs0.length - (intOf i).toNat)
    case atStart => exact ⟨0, Nat.zero_le _, rfl, Ext.refl _⟩
    case round =>
      obtain ⟨k, hk, rfl, hx⟩ := hrel
      by_cases hlt : k < xs0.length
      · have he : xs0[k]? = some xs0[k] := List.getElem?_eq_getElem hlt
        obtain ⟨b, o, vd, vf, ve, rfl, hac, c0, c1, c2, c3, c4, c5, c6, c7⟩ := H4.out k _ he
        obtain ⟨b', o', vd', vf', ve', rfl, hac', d0, d1, d2, d3, d4, d5, d6, d7⟩ := H5.out k _ he
        generalize xs0[k] = X at *
        have HAC : Hid _ := (hac.ext hx).ac
        have HAC' : Hid _ := (hac'.ext hx).ac
        obtain ⟨_, _, _, heq, ⟨⟨s1, s2, rfl, -⟩, -⟩, ⟨⟨s3, s4, rfl, -⟩, -⟩, ⟨s5, ⟨s6, s7, rfl, -⟩, -⟩⟩ := hac
        obtain ⟨_, _, _, heq', ⟨⟨t1, t2, rfl, -⟩, -⟩, ⟨⟨t3, t4, rfl, -⟩, -⟩, ⟨t5, ⟨t6, t7, rfl, -⟩, -⟩⟩ := hac'
        simp only [List.cons.injEq, true_and, and_true] at heq heq'
        obtain ⟨rfl, rfl, rfl⟩ := heq
        obtain ⟨rfl, rfl, rfl⟩ := heq'
        clear he
        replace c0 := hx.cell c0
        replace c1 := hx.cell c1
        replace c2 := hx.cell c2
        replace c3 := hx.cell c3
        replace c4 := hx.cell c4
        replace c5 := hx.cell c5
        replace c6 := hx.cell c6
        replace c7 := hx.cell c7
        replace d0 := hx.cell d0
        replace d1 := hx.cell d1
        replace d2 := hx.cell d2
        replace d3 := hx.cell d3
        replace d4 := hx.cell d4
        replace d5 := hx.cell d5
        replace d6 := hx.cell d6
        replace d7 := hx.cell d7
        go_wp2
        apply wp_region_mix 10 [_, _, _, .agg (acCells X.kind X.a X.b X.n X.path (.slice s1 X.data.length s2) (.slice s3 X.fates.length s4) (.slice s6 X.events.length s7)), _, _, _, .agg (acCells X.kind X.a X.b X.n X.path (.slice t1 X.data.length t2) (.slice t3 X.fates.length t4) (.slice t6 X.events.length t7)), .bool true, _] [none, none, none, none, none, none, none, none, none, none] [[], [], [0, 1], [2], [], [], [4, 5], [6], [3, 7], [8]] (by kernel_rfl) (by kernel_rfl) (by simp [mixV])
        · trivial
        · simp (maxSteps := 1000000) only [List.take_succ_cons, List.take_zero, oblFrom, stepObl, fillFrom, Act.put, List.setIfInBounds_toArray, List.set_cons_zero, List.set_cons_succ, knows, getV, mixV, List.getD_cons_zero, List.getD_cons_succ, and_true, true_and, forall_const]
          refine ⟨?_, ?_, ?_, ?_, ?_, ?_, ?_, ?_, ?_, ?_⟩
          · intro xs wq hq R hR
            have f0q := hq.cell c0; have f1q := hq.cell c1; have f2q := hq.cell c2; have f3q := hq.cell c3; have f4q := hq.cell c4; have f5q := hq.cell c5; have f6q := hq.cell c6; have f7q := hq.cell c7; have g0q := hq.cell d0; have g1q := hq.cell d1; have g2q := hq.cell d2; have g3q := hq.cell d3; have g4q := hq.cell d4; have g5q := hq.cell d5; have g6q := hq.cell d6; have g7q := hq.cell d7
            go_simp
            exact hR _ _ (Ext.refl _) rfl
          · intro xs wq hq R hR
            have f0q := hq.cell c0; have f1q := hq.cell c1; have f2q := hq.cell c2; have f3q := hq.cell c3; have f4q := hq.cell c4; have f5q := hq.cell c5; have f6q := hq.cell c6; have f7q := hq.cell c7; have g0q := hq.cell d0; have g1q := hq.cell d1; have g2q := hq.cell d2; have g3q := hq.cell d3; have g4q := hq.cell d4; have g5q := hq.cell d5; have g6q := hq.cell d6; have g7q := hq.cell d7
            go_simp
            exact hR _ _ (Ext.refl _) rfl
          · intro xs wq hq hk R hR
            obtain ⟨hk0, hk1⟩ := hk
            have f0q := hq.cell c0; have f1q := hq.cell c1; have f2q := hq.cell c2; have f3q := hq.cell c3; have f4q := hq.cell c4; have f5q := hq.cell c5; have f6q := hq.cell c6; have f7q := hq.cell c7; have g0q := hq.cell d0; have g1q := hq.cell d1; have g2q := hq.cell d2; have g3q := hq.cell d3; have g4q := hq.cell d4; have g5q := hq.cell d5; have g6q := hq.cell d6; have g7q := hq.cell d7
            go_simp
            exact hR _ _ (Ext.refl _) rfl
          · intro xs wq hq hk R hR
            have f0q := hq.cell c0; have f1q := hq.cell c1; have f2q := hq.cell c2; have f3q := hq.cell c3; have f4q := hq.cell c4; have f5q := hq.cell c5; have f6q := hq.cell c6; have f7q := hq.cell c7; have g0q := hq.cell d0; have g1q := hq.cell d1; have g2q := hq.cell d2; have g3q := hq.cell d3; have g4q := hq.cell d4; have g5q := hq.cell d5; have g6q := hq.cell d6; have g7q := hq.cell d7
            go_simp
            exact hR _ _ (Ext.refl _) rfl
          · intro xs wq hq R hR
            have f0q := hq.cell c0; have f1q := hq.cell c1; have f2q := hq.cell c2; have f3q := hq.cell c3; have f4q := hq.cell c4; have f5q := hq.cell c5; have f6q := hq.cell c6; have f7q := hq.cell c7; have g0q := hq.cell d0; have g1q := hq.cell d1; have g2q := hq.cell d2; have g3q := hq.cell d3; have g4q := hq.cell d4; have g5q := hq.cell d5; have g6q := hq.cell d6; have g7q := hq.cell d7
            go_simp
            exact hR _ _ (Ext.refl _) rfl
          · intro xs wq hq R hR
            have f0q := hq.cell c0; have f1q := hq.cell c1; have f2q := hq.cell c2; have f3q := hq.cell c3; have f4q := hq.cell c4; have f5q := hq.cell c5; have f6q := hq.cell c6; have f7q := hq.cell c7; have g0q := hq.cell d0; have g1q := hq.cell d1; have g2q := hq.cell d2; have g3q := hq.cell d3; have g4q := hq.cell d4; have g5q := hq.cell d5; have g6q := hq.cell d6; have g7q := hq.cell d7
            go_simp
            exact hR _ _ (Ext.refl _) rfl
          · intro xs wq hq hk R hR
            obtain ⟨hk0, hk1⟩ := hk
            have f0q := hq.cell c0; have f1q := hq.cell c1; have f2q := hq.cell c2; have f3q := hq.cell c3; have f4q := hq.cell c4; have f5q := hq.cell c5; have f6q := hq.cell c6; have f7q := hq.cell c7; have g0q := hq.cell d0; have g1q := hq.cell d1; have g2q := hq.cell d2; have g3q := hq.cell d3; have g4q := hq.cell d4; have g5q := hq.cell d5; have g6q := hq.cell d6; have g7q := hq.cell d7
            go_simp
            exact hR _ _ (Ext.refl _) rfl
          · intro xs wq hq hk R hR
            have f0q := hq.cell c0; have f1q := hq.cell c1; have f2q := hq.cell c2; have f3q := hq.cell c3; have f4q := hq.cell c4; have f5q := hq.cell c5; have f6q := hq.cell c6; have f7q := hq.cell c7; have g0q := hq.cell d0; have g1q := hq.cell d1; have g2q := hq.cell d2; have g3q := hq.cell d3; have g4q := hq.cell d4; have g5q := hq.cell d5; have g6q := hq.cell d6; have g7q := hq.cell d7
            go_simp
            exact hR _ _ (Ext.refl _) rfl
          · intro xs wq hq hk R hR
            obtain ⟨hk0, hk1⟩ := hk
            go_simp
            exact (same_any _ _ X _ (IsAc.ext HAC.out hq) (IsAc.ext HAC'.out hq)).mono (by rintro e' w8 ⟨rfl, h2⟩; exact ⟨_, rfl, hR _ _ h2 rfl⟩)
          · intro xs wq hq hk R hR
            have f0q := hq.cell c0; have f1q := hq.cell c1; have f2q := hq.cell c2; have f3q := hq.cell c3; have f4q := hq.cell c4; have f5q := hq.cell c5; have f6q := hq.cell c6; have f7q := hq.cell c7; have g0q := hq.cell d0; have g1q := hq.cell d1; have g2q := hq.cell d2; have g3q := hq.cell d3; have g4q := hq.cell d4; have g5q := hq.cell d5; have g6q := hq.cell d6; have g7q := hq.cell d7
            go_simp
            exact hR _ _ (Ext.refl _) rfl
        intro xs w7 hx7 hk
        simp only [heldV, Nat.zero_add, Nat.reduceAdd, and_true] at hk
        obtain ⟨q0, q1, q2, q3, q4, q5, q6, q7, q8, q9⟩ := hk
        simp (maxSteps := 1000000) only [List.take_succ_cons, List.take_zero, List.drop_succ_cons, List.drop_zero, fillFrom, Act.put, List.setIfInBounds_toArray, List.set_cons_zero, List.set_cons_succ, Nat.zero_add, Nat.reduceAdd, q0, q1, q2, q3, q4, q5, q6, q7, q8, q9]
        clear q0 q1 q2 q3 q4 q5 q6 q7 q8 q9
        refine wpList_nil ?_
        go_wp2
        go_roundw
        case rel => exact ⟨k + 1, by omega, by go_num, hx.trans hx7⟩
        case measure => simp [intOf]; omega
      · have hkk : k = xs0.length := by omega
        subst hkk
        go_wp2_with fail
        go_at_call 7
        refine (first_any _ (HE.out.ext (hx06.trans hx))).mono ?_
        rintro e w7 ⟨rfl, hx7⟩
        go_wp2
        go_ret
        exact ⟨rfl, hx06.trans (hx.trans hx7)⟩

end Go.Proofs.YthfkohppillflaaDoor
