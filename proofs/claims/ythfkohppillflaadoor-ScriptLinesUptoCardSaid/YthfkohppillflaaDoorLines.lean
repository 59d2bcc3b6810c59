/- marlaw26.ScriptLines: true at any act and any text. Conditions: the library's variables; data of an event of at most 1048576 bytes. -/
import Derived.Test.YthfkohppillflaaDoorBack
import Derived.Test.YthfkohppillflaaDoorRprintB
import Derived.Test.YthfkohppillflaaDoorRparse
namespace Go.Proofs.YthfkohppillflaaDoor
open Go Go.RowKit

theorem few_paths {x : Ac} (h : fewAc x = true) : x.path.length ≤ 1000000 ∧ ∀ e ∈ x.events, e.path.length ≤ 1000000 := by
  unfold fewAc fewEv at h
  simp only [Bool.and_eq_true, decide_eq_true_eq, List.all_eq_true] at h
  obtain ⟨h1, h2, h3, h4, h5, h6⟩ := h
  exact ⟨by omega, fun e he => by have := h5 e he; omega⟩

set_option maxRecDepth 100000 in
set_option maxHeartbeats 4000000 in
theorem scriptLines_no (cs : List Value) (x : Ac) (s : B8) (w : World) (hE : Env w) (hx : IsAc w cs x) (h : fewAc x = false ∨ 6000 < s.length) :
    Calls Tryd.prog 3 #[.agg cs.toArray, S8 s] w fun e w' => e = .returned (.bool true) ∧ Ext w w' := by
  have HE : Hid _ := hE
  have HXA : Hid _ := hx
  obtain ⟨vd, vf, ve, rfl, hd, hf, he⟩ := hx
  obtain ⟨a1, n1, rfl, -⟩ := id hd
  obtain ⟨a2, n2, rfl, -⟩ := id hf
  obtain ⟨q1, ⟨a3, n3, rfl, -⟩, -⟩ := id he
  obtain ⟨w1, hw1⟩ : ∃ w1, w1 = w.alloc (.cells (acCells x.kind x.a x.b x.n x.path (.slice a1 x.data.length n1) (.slice a2 x.fates.length n2) (.slice a3 x.events.length n3)) 26) := ⟨_, rfl⟩
  have hx1 : Ext w w1 := by rw [hw1]; exact (Ext.refl _).alloc _
  have hg1 : w1.heap[w.heap.size]? = some (.cells (acCells x.kind x.a x.b x.n x.path (.slice a1 x.data.length n1) (.slice a2 x.fates.length n2) (.slice a3 x.events.length n3)) 26 (0, 0)) := by rw [hw1]; exact alloc_at _ _
  have HW1 : Hid _ := hw1
  have HX1 : Hid _ := hx1
  clear hw1 hE hd hf he
  by_cases hfw : fewAc x = true
  · have hs6 : (6000 : Int) < (s.length : Int) := by
      rcases h with h | h
      · rw [hfw] at h; cases h
      · omega
    have HFW : Hid _ := hfw
    clear h hfw
    go_enter Tryd.func3, Tryd.ntmps3
    go_wp2_with fail
    rw [show w.alloc (.cells #[.int .i64 x.kind, .int .i64 x.a, .int .i64 x.b, .int .i64 x.n, S8 x.path, .slice a1 x.data.length n1, .slice a2 x.fates.length n2, .slice a3 x.events.length n3] 26) = w1 from HW1.out.symm]
    go_at_call 7
    refine (first_any _ (HE.out.ext hx1)).mono ?_
    rintro e w2 ⟨rfl, hx2⟩
    have hg2 := hx2.row hg1
    have hx02 := Ext.trans hx1 hx2
    go_wp2_with (first
      | (refine wpList_load_row rfl 26 (.tmp 2) rfl w.heap.size rfl 26 _ (0, 0) _ hg2 Tryd.underlying26 rfl sizeAc ?_)
      | (go_at_call 8; go_must (refine (few_any _ x _ (IsAc.ext HXA.out hx02)).mono ?_; rw [HFW.out]; rintro e w3 ⟨rfl, hx3⟩; have hx03 := Ext.trans hx02 hx3))
      | (go_at_call 7; go_must (refine (first_any _ (HE.out.ext hx03)).mono ?_; rintro e w4 ⟨rfl, hx4⟩)))
    go_ret
    exact ⟨rfl, Ext.trans hx03 hx4⟩
  · have HFW : Hid (fewAc x = false) := by unfold Hid; simpa using hfw
    clear h hfw
    go_enter Tryd.func3, Tryd.ntmps3
    go_wp2_with fail
    rw [show w.alloc (.cells #[.int .i64 x.kind, .int .i64 x.a, .int .i64 x.b, .int .i64 x.n, S8 x.path, .slice a1 x.data.length n1, .slice a2 x.fates.length n2, .slice a3 x.events.length n3] 26) = w1 from HW1.out.symm]
    go_at_call 7
    refine (first_any _ (HE.out.ext hx1)).mono ?_
    rintro e w2 ⟨rfl, hx2⟩
    have hg2 := hx2.row hg1
    have hx02 := Ext.trans hx1 hx2
    go_wp2_with (first
      | (refine wpList_load_row rfl 26 (.tmp 2) rfl w.heap.size rfl 26 _ (0, 0) _ hg2 Tryd.underlying26 rfl sizeAc ?_)
      | (go_at_call 8; go_must (refine (few_any _ x _ (IsAc.ext HXA.out hx02)).mono ?_; rw [HFW.out]; rintro e w3 ⟨rfl, hx3⟩; have hx03 := Ext.trans hx02 hx3))
      | (go_at_call 7; go_must (refine (first_any _ (HE.out.ext hx03)).mono ?_; rintro e w4 ⟨rfl, hx4⟩)))
    go_ret
    exact ⟨rfl, Ext.trans hx03 hx4⟩

set_option maxRecDepth 100000 in
set_option maxHeartbeats 8000000 in
theorem scriptLines_yes (cs : List Value) (x : Ac) (s : B8) (w : World) (hE : Env w) (hx : IsAc w cs x) (hok : x.ok) (hd6 : ∀ e ∈ x.events, e.data.length ≤ 1048576) (hfew : fewAc x = true) (hs6 : s.length ≤ 6000) :
    Calls Tryd.prog 3 #[.agg cs.toArray, S8 s] w fun e w' => e = .returned (.bool true) ∧ Ext w w' := by
  have HE : Hid _ := hE
  have HXA : Hid _ := hx
  have HOK : Hid _ := hok
  obtain ⟨hsm, hf200, he60⟩ := few_small hok hfew hd6
  have HSM : Hid _ := hsm
  have HPT : Hid (x.path.length ≤ 1000000 ∧ ∀ e ∈ x.events, e.path.length ≤ 1000000) := few_paths hfew
  have HLEN : Hid _ := few_len hok hfew hd6
  have HFW : Hid _ := hfew
  obtain ⟨vd, vf, ve, rfl, hd, hf, he⟩ := hx
  have HF : Hid _ := hf
  obtain ⟨a1, n1, rfl, -⟩ := id hd
  obtain ⟨a2, n2, rfl, -⟩ := id hf
  obtain ⟨a3, n3, rfl, -, hel, -, m4⟩ := he.get
  have M4 : Hid _ := m4
  obtain ⟨w1, hw1⟩ : ∃ w1, w1 = w.alloc (.cells (acCells x.kind x.a x.b x.n x.path (.slice a1 x.data.length n1) (.slice a2 x.fates.length n2) (.slice a3 x.events.length n3)) 26) := ⟨_, rfl⟩
  have hx1 : Ext w w1 := by rw [hw1]; exact (Ext.refl _).alloc _
  have hg1 : w1.heap[w.heap.size]? = some (.cells (acCells x.kind x.a x.b x.n x.path (.slice a1 x.data.length n1) (.slice a2 x.fates.length n2) (.slice a3 x.events.length n3)) 26 (0, 0)) := by rw [hw1]; exact alloc_at _ _
  have hw1s : w1.heap.size = w.heap.size + 1 := by rw [hw1]; simp
  have HW1 : Hid _ := hw1
  have hsi : ¬ (6000 : Int) < (s.length : Int) := by omega
  have HPS : Hid ((parseL s).1.small) := parse_small (by omega)
  have HSL : Hid (s.length ≤ 3000000) := by unfold Hid; omega
  clear hw1 hE hd hf he m4 hok hsm hfew hd6 hs6
  go_enter Tryd.func3, Tryd.ntmps3
  go_wp2_with fail
  rw [show w.alloc (.cells #[.int .i64 x.kind, .int .i64 x.a, .int .i64 x.b, .int .i64 x.n, S8 x.path, .slice a1 x.data.length n1, .slice a2 x.fates.length n2, .slice a3 x.events.length n3] 26) = w1 from HW1.out.symm]
  go_at_call 7
  refine (first_any _ (HE.out.ext hx1)).mono ?_
  rintro e w2 ⟨rfl, hx2⟩
  have hg2 := hx2.row hg1
  have hx02 := Ext.trans hx1 hx2
  go_wp2_with (first
    | (refine wpList_load_row rfl 26 (.tmp 2) rfl w.heap.size rfl 26 _ (0, 0) _ hg2 Tryd.underlying26 rfl sizeAc ?_)
    | (go_at_call 8; go_must (refine (few_any _ x _ (IsAc.ext HXA.out hx02)).mono ?_; rw [HFW.out]; rintro e w3 ⟨rfl, hx3⟩; have hx03 := Ext.trans hx02 hx3)))
  go_at_call 9
  refine (parse_any s _ (HE.out.ext hx03) HSL.out).mono ?_
  rintro e w4 ⟨⟨cs', rfl, hac⟩, hx4⟩
  have hg4 := hx4.row (hx3.row hg2)
  have hx04 := Ext.trans hx03 hx4
  have HAC : Hid _ := hac
  generalize hEE : (parseL s).2 = EE at *
  generalize hY : (parseL s).1 = Y at *
  obtain ⟨vd', vf', ve', rfl, ⟨⟨p1, p2, rfl, -⟩, -⟩, ⟨⟨p3, p4, rfl, -⟩, -⟩, ⟨p5, ⟨p6, p7, rfl, -⟩, -⟩⟩ := hac
  have HEE : Hid _ := hEE
  have HY : Hid _ := hY
  have hxa := Ext.alloc (Ext.refl w4) (.cells (acCells Y.kind Y.a Y.b Y.n Y.path (.slice p1 Y.data.length p2) (.slice p3 Y.fates.length p4) (.slice p6 Y.events.length p7)) 26)
  have hgy := alloc_at w4 (.cells (acCells Y.kind Y.a Y.b Y.n Y.path (.slice p1 Y.data.length p2) (.slice p3 Y.fates.length p4) (.slice p6 Y.events.length p7)) 26)
  have hg5 := Ext.row hxa hg4
  have hx05 := Ext.trans hx04 hxa
  clear hEE hY hx1 hx2 hx3 hx4 hg1 hg2 hg4 hw1s hx02 hx03
  go_wp2_with fail
  go_at_call 10
  refine (rparse_any s _ (by omega)).mono ?_
  rw [HEE.out, HY.out]
  rintro e w6 ⟨⟨cs9, rfl, hac9⟩, hx6⟩
  have HAC9 : Hid _ := hac9
  obtain ⟨vd9, vf9, ve9, rfl, ⟨r1, r2, rfl, -⟩, ⟨r3, r4, rfl, -⟩, ⟨r5, ⟨r6, r7, rfl, -⟩, -⟩⟩ := hac9
  have hxb := Ext.alloc (Ext.refl w6) (.cells (acCells Y.kind Y.a Y.b Y.n Y.path (.slice r1 Y.data.length r2) (.slice r3 Y.fates.length r4) (.slice r6 Y.events.length r7)) 34)
  have hx56 := Ext.trans hx6 hxb
  have hx0b := Ext.trans hx05 hx56
  obtain ⟨c0, c1, c2, c3, c4, c5, c6, c7⟩ := cellsAt8 (Ext.row hx56 hg5)
  obtain ⟨d0, d1, d2, d3, d4, d5, d6, d7⟩ := cellsAt8 (Ext.row hx56 hgy)
  obtain ⟨y0, y1, y2, y3, y4, y5, y6, y7⟩ := cellsAt8 (alloc_at w6 (.cells (acCells Y.kind Y.a Y.b Y.n Y.path (.slice r1 Y.data.length r2) (.slice r3 Y.fates.length r4) (.slice r6 Y.events.length r7)) 34))
  obtain ⟨pl, hpl⟩ : ∃ pl, printL x = pl := ⟨_, rfl⟩
  have HPL : Hid _ := hpl
  have hdp : (⟨pl.toArray⟩ : ByteArray).toList = pl := Lib.toList_data _
  clear hpl hg5 hgy
  go_wp2
  apply wp_region_mix 19 [.bool true, _, .agg (acCells x.kind x.a x.b x.n x.path (.slice a1 x.data.length n1) (.slice a2 x.fates.length n2) (.slice a3 x.events.length n3)), S8 pl, .agg (acCells x.kind x.a x.b x.n x.path (.slice a1 x.data.length n1) (.slice a2 x.fates.length n2) (.slice a3 x.events.length n3)), undef, S8 pl, _, _, _, .agg (acCells Y.kind Y.a Y.b Y.n Y.path (.slice p1 Y.data.length p2) (.slice p3 Y.fates.length p4) (.slice p6 Y.events.length p7)), .agg (acCells Y.kind Y.a Y.b Y.n Y.path (.slice r1 Y.data.length r2) (.slice r3 Y.fates.length r4) (.slice r6 Y.events.length r7)), .bool true, _, _, _, _, _, _] [none, none, none, none, none, some (fun u w' => ∃ cs, u = .agg cs.toArray ∧ IsAc w' cs x), none, none, none, none, none, none, none, none, none, none, none, none, none] [[], [0], [1], [1, 2], [1], [1, 4], [1, 5], [1, 3, 6], [1, 7], [8], [9], [9], [9, 10, 11], [9, 12], [13], [14], [14], [14, 15, 16], [14, 17]] (by kernel_rfl) (by kernel_rfl) (by simp [mixV])
  · refine ⟨?_, trivial⟩
    · exact fun _ _ _ he ⟨cs, h1, h2⟩ => ⟨cs, h1, h2.ext he⟩
  · simp (maxSteps := 1000000) only [List.take_succ_cons, List.take_zero, oblFrom, stepObl, fillFrom, Act.put, List.setIfInBounds_toArray, List.set_cons_zero, List.set_cons_succ, knows, getV, mixV, List.getD_cons_zero, List.getD_cons_succ, and_true, true_and, forall_const]
    refine ⟨?_, ?_, ?_, ?_, ?_, ?_, ?_, ?_, ?_, ?_, ?_, ?_, ?_, ?_, ?_, ?_, ?_, ?_, ?_⟩
    · intro xs wq hq R hR
      go_simp
      exact (first_any _ (Env.ext HE.out (Ext.trans hx0b hq))).mono (by rintro e' w8 ⟨rfl, h2⟩; exact ⟨_, rfl, hR _ _ h2 rfl⟩)
    · intro xs wq hq hk R hR
      have f0q := hq.cell c0; have f1q := hq.cell c1; have f2q := hq.cell c2; have f3q := hq.cell c3; have f4q := hq.cell c4; have f5q := hq.cell c5; have f6q := hq.cell c6; have f7q := hq.cell c7; have g0q := hq.cell d0; have g1q := hq.cell d1; have g2q := hq.cell d2; have g3q := hq.cell d3; have g4q := hq.cell d4; have g5q := hq.cell d5; have g6q := hq.cell d6; have g7q := hq.cell d7; have h0q := hq.cell y0; have h1q := hq.cell y1; have h2q := hq.cell y2; have h3q := hq.cell y3; have h4q := hq.cell y4; have h5q := hq.cell y5; have h6q := hq.cell y6; have h7q := hq.cell y7
      go_simp
      exact hR _ _ (Ext.refl _) rfl
    · intro xs wq hq hk R hR
      have f0q := hq.cell c0; have f1q := hq.cell c1; have f2q := hq.cell c2; have f3q := hq.cell c3; have f4q := hq.cell c4; have f5q := hq.cell c5; have f6q := hq.cell c6; have f7q := hq.cell c7; have g0q := hq.cell d0; have g1q := hq.cell d1; have g2q := hq.cell d2; have g3q := hq.cell d3; have g4q := hq.cell d4; have g5q := hq.cell d5; have g6q := hq.cell d6; have g7q := hq.cell d7; have h0q := hq.cell y0; have h1q := hq.cell y1; have h2q := hq.cell y2; have h3q := hq.cell y3; have h4q := hq.cell y4; have h5q := hq.cell y5; have h6q := hq.cell y6; have h7q := hq.cell y7
      go_simp
      exact hR _ _ (Ext.refl _) rfl
    · intro xs wq hq hk R hR
      obtain ⟨hk0, hk1⟩ := hk
      go_simp
      exact (print_any x _ _ (Env.ext HE.out (Ext.trans hx0b hq)) (IsAc.ext HXA.out (Ext.trans hx0b hq)) HSM.out).mono (by rw [HPL.out]; rintro e' w8 ⟨rfl, h2⟩; exact ⟨_, rfl, hR _ _ h2 rfl⟩)
    · intro xs wq hq hk R hR
      have f0q := hq.cell c0; have f1q := hq.cell c1; have f2q := hq.cell c2; have f3q := hq.cell c3; have f4q := hq.cell c4; have f5q := hq.cell c5; have f6q := hq.cell c6; have f7q := hq.cell c7; have g0q := hq.cell d0; have g1q := hq.cell d1; have g2q := hq.cell d2; have g3q := hq.cell d3; have g4q := hq.cell d4; have g5q := hq.cell d5; have g6q := hq.cell d6; have g7q := hq.cell d7; have h0q := hq.cell y0; have h1q := hq.cell y1; have h2q := hq.cell y2; have h3q := hq.cell y3; have h4q := hq.cell y4; have h5q := hq.cell y5; have h6q := hq.cell y6; have h7q := hq.cell y7
      go_simp
      exact hR _ _ (Ext.refl _) rfl
    · intro xs wq hq hk R hR
      obtain ⟨hk0, hk1⟩ := hk
      go_simp
      exact (plainAct_any _ x _ (IsAc.ext HXA.out (Ext.trans hx0b hq)) (by have := HSM.out.ne; omega)).mono (by rintro e' w8 ⟨⟨cs, rfl, h3⟩, h2⟩; exact ⟨_, rfl, hR _ _ h2 ⟨cs, rfl, h3⟩⟩)
    · intro xs wq hq hk R hR
      obtain ⟨hk0, hk1⟩ := hk
      obtain ⟨cs, hcs, hac5⟩ := hk1
      go_simp
      exact (rprint_any x cs _ hac5 HSM.out HPT.out.1 HPT.out.2).mono (by rw [HPL.out]; rintro e' w8 ⟨rfl, h2⟩; exact ⟨_, rfl, hR _ _ h2 rfl⟩)
    · intro xs wq hq hk R hR
      obtain ⟨hk0, hk1, hk2⟩ := hk
      have f0q := hq.cell c0; have f1q := hq.cell c1; have f2q := hq.cell c2; have f3q := hq.cell c3; have f4q := hq.cell c4; have f5q := hq.cell c5; have f6q := hq.cell c6; have f7q := hq.cell c7; have g0q := hq.cell d0; have g1q := hq.cell d1; have g2q := hq.cell d2; have g3q := hq.cell d3; have g4q := hq.cell d4; have g5q := hq.cell d5; have g6q := hq.cell d6; have g7q := hq.cell d7; have h0q := hq.cell y0; have h1q := hq.cell y1; have h2q := hq.cell y2; have h3q := hq.cell y3; have h4q := hq.cell y4; have h5q := hq.cell y5; have h6q := hq.cell y6; have h7q := hq.cell y7
      go_simp
      exact hR _ _ (Ext.refl _) rfl
    · intro xs wq hq hk R hR
      obtain ⟨hk0, hk1⟩ := hk
      have f0q := hq.cell c0; have f1q := hq.cell c1; have f2q := hq.cell c2; have f3q := hq.cell c3; have f4q := hq.cell c4; have f5q := hq.cell c5; have f6q := hq.cell c6; have f7q := hq.cell c7; have g0q := hq.cell d0; have g1q := hq.cell d1; have g2q := hq.cell d2; have g3q := hq.cell d3; have g4q := hq.cell d4; have g5q := hq.cell d5; have g6q := hq.cell d6; have g7q := hq.cell d7; have h0q := hq.cell y0; have h1q := hq.cell y1; have h2q := hq.cell y2; have h3q := hq.cell y3; have h4q := hq.cell y4; have h5q := hq.cell y5; have h6q := hq.cell y6; have h7q := hq.cell y7
      go_simp
      exact hR _ _ (Ext.refl _) rfl
    · intro xs wq hq hk R hR
      have f0q := hq.cell c0; have f1q := hq.cell c1; have f2q := hq.cell c2; have f3q := hq.cell c3; have f4q := hq.cell c4; have f5q := hq.cell c5; have f6q := hq.cell c6; have f7q := hq.cell c7; have g0q := hq.cell d0; have g1q := hq.cell d1; have g2q := hq.cell d2; have g3q := hq.cell d3; have g4q := hq.cell d4; have g5q := hq.cell d5; have g6q := hq.cell d6; have g7q := hq.cell d7; have h0q := hq.cell y0; have h1q := hq.cell y1; have h2q := hq.cell y2; have h3q := hq.cell y3; have h4q := hq.cell y4; have h5q := hq.cell y5; have h6q := hq.cell y6; have h7q := hq.cell y7
      go_simp
      exact hR _ _ (Ext.refl _) rfl
    · intro xs wq hq hk R hR
      have f0q := hq.cell c0; have f1q := hq.cell c1; have f2q := hq.cell c2; have f3q := hq.cell c3; have f4q := hq.cell c4; have f5q := hq.cell c5; have f6q := hq.cell c6; have f7q := hq.cell c7; have g0q := hq.cell d0; have g1q := hq.cell d1; have g2q := hq.cell d2; have g3q := hq.cell d3; have g4q := hq.cell d4; have g5q := hq.cell d5; have g6q := hq.cell d6; have g7q := hq.cell d7; have h0q := hq.cell y0; have h1q := hq.cell y1; have h2q := hq.cell y2; have h3q := hq.cell y3; have h4q := hq.cell y4; have h5q := hq.cell y5; have h6q := hq.cell y6; have h7q := hq.cell y7
      go_simp
      exact hR _ _ (Ext.refl _) rfl
    · intro xs wq hq hk R hR
      have f0q := hq.cell c0; have f1q := hq.cell c1; have f2q := hq.cell c2; have f3q := hq.cell c3; have f4q := hq.cell c4; have f5q := hq.cell c5; have f6q := hq.cell c6; have f7q := hq.cell c7; have g0q := hq.cell d0; have g1q := hq.cell d1; have g2q := hq.cell d2; have g3q := hq.cell d3; have g4q := hq.cell d4; have g5q := hq.cell d5; have g6q := hq.cell d6; have g7q := hq.cell d7; have h0q := hq.cell y0; have h1q := hq.cell y1; have h2q := hq.cell y2; have h3q := hq.cell y3; have h4q := hq.cell y4; have h5q := hq.cell y5; have h6q := hq.cell y6; have h7q := hq.cell y7
      go_simp
      exact hR _ _ (Ext.refl _) rfl
    · intro xs wq hq hk R hR
      obtain ⟨hk0, hk1, hk2⟩ := hk
      go_simp
      exact (same_any _ _ Y _ (IsAc.ext (IsAcT.ac HAC.out) (Ext.trans (Ext.trans hxa hx56) hq)) (IsAc.ext HAC9.out (Ext.trans hxb hq))).mono (by rintro e' w8 ⟨rfl, h2⟩; exact ⟨_, rfl, hR _ _ h2 rfl⟩)
    · intro xs wq hq hk R hR
      obtain ⟨hk0, hk1⟩ := hk
      have f0q := hq.cell c0; have f1q := hq.cell c1; have f2q := hq.cell c2; have f3q := hq.cell c3; have f4q := hq.cell c4; have f5q := hq.cell c5; have f6q := hq.cell c6; have f7q := hq.cell c7; have g0q := hq.cell d0; have g1q := hq.cell d1; have g2q := hq.cell d2; have g3q := hq.cell d3; have g4q := hq.cell d4; have g5q := hq.cell d5; have g6q := hq.cell d6; have g7q := hq.cell d7; have h0q := hq.cell y0; have h1q := hq.cell y1; have h2q := hq.cell y2; have h3q := hq.cell y3; have h4q := hq.cell y4; have h5q := hq.cell y5; have h6q := hq.cell y6; have h7q := hq.cell y7
      go_simp
      exact hR _ _ (Ext.refl _) rfl
    · intro xs wq hq hk R hR
      have f0q := hq.cell c0; have f1q := hq.cell c1; have f2q := hq.cell c2; have f3q := hq.cell c3; have f4q := hq.cell c4; have f5q := hq.cell c5; have f6q := hq.cell c6; have f7q := hq.cell c7; have g0q := hq.cell d0; have g1q := hq.cell d1; have g2q := hq.cell d2; have g3q := hq.cell d3; have g4q := hq.cell d4; have g5q := hq.cell d5; have g6q := hq.cell d6; have g7q := hq.cell d7; have h0q := hq.cell y0; have h1q := hq.cell y1; have h2q := hq.cell y2; have h3q := hq.cell y3; have h4q := hq.cell y4; have h5q := hq.cell y5; have h6q := hq.cell y6; have h7q := hq.cell y7
      go_simp
      exact hR _ _ (Ext.refl _) rfl
    · intro xs wq hq hk R hR
      have f0q := hq.cell c0; have f1q := hq.cell c1; have f2q := hq.cell c2; have f3q := hq.cell c3; have f4q := hq.cell c4; have f5q := hq.cell c5; have f6q := hq.cell c6; have f7q := hq.cell c7; have g0q := hq.cell d0; have g1q := hq.cell d1; have g2q := hq.cell d2; have g3q := hq.cell d3; have g4q := hq.cell d4; have g5q := hq.cell d5; have g6q := hq.cell d6; have g7q := hq.cell d7; have h0q := hq.cell y0; have h1q := hq.cell y1; have h2q := hq.cell y2; have h3q := hq.cell y3; have h4q := hq.cell y4; have h5q := hq.cell y5; have h6q := hq.cell y6; have h7q := hq.cell y7
      go_simp
      exact hR _ _ (Ext.refl _) rfl
    · intro xs wq hq hk R hR
      have f0q := hq.cell c0; have f1q := hq.cell c1; have f2q := hq.cell c2; have f3q := hq.cell c3; have f4q := hq.cell c4; have f5q := hq.cell c5; have f6q := hq.cell c6; have f7q := hq.cell c7; have g0q := hq.cell d0; have g1q := hq.cell d1; have g2q := hq.cell d2; have g3q := hq.cell d3; have g4q := hq.cell d4; have g5q := hq.cell d5; have g6q := hq.cell d6; have g7q := hq.cell d7; have h0q := hq.cell y0; have h1q := hq.cell y1; have h2q := hq.cell y2; have h3q := hq.cell y3; have h4q := hq.cell y4; have h5q := hq.cell y5; have h6q := hq.cell y6; have h7q := hq.cell y7
      go_simp
      exact hR _ _ (Ext.refl _) rfl
    · intro xs wq hq hk R hR
      obtain ⟨hk0, hk1, hk2⟩ := hk
      have f0q := hq.cell c0; have f1q := hq.cell c1; have f2q := hq.cell c2; have f3q := hq.cell c3; have f4q := hq.cell c4; have f5q := hq.cell c5; have f6q := hq.cell c6; have f7q := hq.cell c7; have g0q := hq.cell d0; have g1q := hq.cell d1; have g2q := hq.cell d2; have g3q := hq.cell d3; have g4q := hq.cell d4; have g5q := hq.cell d5; have g6q := hq.cell d6; have g7q := hq.cell d7; have h0q := hq.cell y0; have h1q := hq.cell y1; have h2q := hq.cell y2; have h3q := hq.cell y3; have h4q := hq.cell y4; have h5q := hq.cell y5; have h6q := hq.cell y6; have h7q := hq.cell y7
      go_simp
      exact hR _ _ (Ext.refl _) rfl
    · intro xs wq hq hk R hR
      obtain ⟨hk0, hk1⟩ := hk
      have f0q := hq.cell c0; have f1q := hq.cell c1; have f2q := hq.cell c2; have f3q := hq.cell c3; have f4q := hq.cell c4; have f5q := hq.cell c5; have f6q := hq.cell c6; have f7q := hq.cell c7; have g0q := hq.cell d0; have g1q := hq.cell d1; have g2q := hq.cell d2; have g3q := hq.cell d3; have g4q := hq.cell d4; have g5q := hq.cell d5; have g6q := hq.cell d6; have g7q := hq.cell d7; have h0q := hq.cell y0; have h1q := hq.cell y1; have h2q := hq.cell y2; have h3q := hq.cell y3; have h4q := hq.cell y4; have h5q := hq.cell y5; have h6q := hq.cell y6; have h7q := hq.cell y7
      go_simp
      exact hR _ _ (Ext.refl _) rfl
  intro xs wz hz hk
  simp only [heldV, Nat.zero_add, Nat.reduceAdd, and_true] at hk
  obtain ⟨q0, q1, q2, q3, q4, q5, q6, q7, q8, q9, q10, q11, q12, q13, q14, q15, q16, q17, q18⟩ := hk
  simp (maxSteps := 1000000) only [List.take_succ_cons, List.take_zero, List.drop_succ_cons, List.drop_zero, fillFrom, Act.put, List.setIfInBounds_toArray, List.set_cons_zero, List.set_cons_succ, Nat.zero_add, Nat.reduceAdd, q0, q1, q2, q3, q4, q6, q7, q8, q9, q10, q11, q12, q13, q14, q15, q16, q17, q18]
  clear q0 q1 q2 q3 q4 q6 q7 q8 q9 q10 q11 q12 q13 q14 q15 q16 q17 q18
  generalize xs 5 = x5 at *
  go_wp2
  go_ret
  exact ⟨rfl, Ext.trans hx0b hz⟩

theorem scriptLines_any (cs : List Value) (x : Ac) (s : B8) (w : World) (hE : Env w) (hx : IsAc w cs x) (hok : x.ok) (hd6 : ∀ e ∈ x.events, e.data.length ≤ 1048576) :
    Calls Tryd.prog 3 #[.agg cs.toArray, S8 s] w fun e w' => e = .returned (.bool true) ∧ Ext w w' := by
  by_cases hf : fewAc x = true
  · by_cases hs : 6000 < s.length
    · exact scriptLines_no cs x s w hE hx (.inr hs)
    · exact scriptLines_yes cs x s w hE hx hok hd6 hf (by omega)
  · exact scriptLines_no cs x s w hE hx (.inl (by simpa using hf))

end Go.Proofs.YthfkohppillflaaDoor
