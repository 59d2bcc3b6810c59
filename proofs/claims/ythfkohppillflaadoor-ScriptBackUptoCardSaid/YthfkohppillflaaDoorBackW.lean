/- marlaw26.ScriptBack: true at any act and any text. Conditions: the library's variables; data of an event of at most 1048576 bytes. -/
import Derived.Test.YthfkohppillflaaDoorBack
namespace Go.Proofs.YthfkohppillflaaDoor
open Go Go.RowKit

set_option maxRecDepth 100000 in
set_option maxHeartbeats 4000000 in
theorem scriptBack_no (cs : List Value) (x : Ac) (s : B8) (w : World) (hE : Env w) (hx : IsAc w cs x) (h : fewAc x = false ∨ 6000 < s.length) :
    Calls Tryd.prog 4 #[.agg cs.toArray, S8 s] w fun e w' => e = .returned (.bool true) ∧ Ext w w' := by
  have HE : Hid _ := hE
  have HXA : Hid _ := hx
  obtain ⟨vd, vf, ve, rfl, hd, hf, he⟩ := hx
  obtain ⟨a1, n1, rfl, -⟩ := id hd
  obtain ⟨a2, n2, rfl, -⟩ := id hf
  obtain ⟨q1, ⟨a3, n3, rfl, -⟩, -⟩ := id he
  obtain ⟨w1, hw1⟩ : ∃ w1, w1 = w.alloc (.cells (acCells x.kind x.a x.b x.n x.path (.slice a1 x.data.length n1) (.slice a2 x.fates.length n2) (.slice a3 x.events.length n3)) 26) := ⟨_, rfl⟩
  have hx1 : Ext w w1 := by rw [hw1]; exact (Ext.refl _).alloc _
  have hg1 : w1.heap[w.heap.size]? = some (.cells (acCells x.kind x.a x.b x.n x.path (.slice a1 x.data.length n1) (.slice a2 x.fates.length n2) (.slice a3 x.events.length n3)) 26 (0, 0)) := by rw [hw1]; exact alloc_at _ _
  have HW1 : Hid _ := hw1
  have HX1 : Hid _ := hx1
  clear hw1 hE hd hf he
  by_cases hfw : fewAc x = true
  · have hs6 : (6000 : Int) < (s.length : Int) := by
      rcases h with h | h
      · rw [hfw] at h; cases h
      · omega
    have HFW : Hid _ := hfw
    clear h hfw
    go_enter Tryd.func4, Tryd.ntmps4
    go_wp2_with fail
    rw [show w.alloc (.cells #[.int .i64 x.kind, .int .i64 x.a, .int .i64 x.b, .int .i64 x.n, S8 x.path, .slice a1 x.data.length n1, .slice a2 x.fates.length n2, .slice a3 x.events.length n3] 26) = w1 from HW1.out.symm]
    go_at_call 7
    refine (first_any _ (HE.out.ext hx1)).mono ?_
    rintro e w2 ⟨rfl, hx2⟩
    have hg2 := hx2.row hg1
    have hx02 := Ext.trans hx1 hx2
    go_wp2_with (first
      | (refine wpList_load_row rfl 26 (.tmp 2) rfl w.heap.size rfl 26 _ (0, 0) _ hg2 Tryd.underlying26 rfl sizeAc ?_)
      | (go_at_call 8; go_must (refine (few_any _ x _ (IsAc.ext HXA.out hx02)).mono ?_; rw [HFW.out]; rintro e w3 ⟨rfl, hx3⟩; have hx03 := Ext.trans hx02 hx3))
      | (go_at_call 7; go_must (refine (first_any _ (HE.out.ext hx03)).mono ?_; rintro e w4 ⟨rfl, hx4⟩)))
    go_ret
    exact ⟨rfl, Ext.trans hx03 hx4⟩
  · have HFW : Hid (fewAc x = false) := by unfold Hid; simpa using hfw
    clear h hfw
    go_enter Tryd.func4, Tryd.ntmps4
    go_wp2_with fail
    rw [show w.alloc (.cells #[.int .i64 x.kind, .int .i64 x.a, .int .i64 x.b, .int .i64 x.n, S8 x.path, .slice a1 x.data.length n1, .slice a2 x.fates.length n2, .slice a3 x.events.length n3] 26) = w1 from HW1.out.symm]
    go_at_call 7
    refine (first_any _ (HE.out.ext hx1)).mono ?_
    rintro e w2 ⟨rfl, hx2⟩
    have hg2 := hx2.row hg1
    have hx02 := Ext.trans hx1 hx2
    go_wp2_with (first
      | (refine wpList_load_row rfl 26 (.tmp 2) rfl w.heap.size rfl 26 _ (0, 0) _ hg2 Tryd.underlying26 rfl sizeAc ?_)
      | (go_at_call 8; go_must (refine (few_any _ x _ (IsAc.ext HXA.out hx02)).mono ?_; rw [HFW.out]; rintro e w3 ⟨rfl, hx3⟩; have hx03 := Ext.trans hx02 hx3))
      | (go_at_call 7; go_must (refine (first_any _ (HE.out.ext hx03)).mono ?_; rintro e w4 ⟨rfl, hx4⟩)))
    go_ret
    exact ⟨rfl, Ext.trans hx03 hx4⟩

set_option maxRecDepth 100000 in
set_option maxHeartbeats 8000000 in
theorem scriptBack_yes (cs : List Value) (x : Ac) (s : B8) (w : World) (hE : Env w) (hx : IsAc w cs x) (hok : x.ok) (hd6 : ∀ e ∈ x.events, e.data.length ≤ 1048576) (hnil : ∀ n c, cs[6]? = some (.slice none n c) → c = 0) (hfew : fewAc x = true) (hs6 : s.length ≤ 6000) :
    Calls Tryd.prog 4 #[.agg cs.toArray, S8 s] w fun e w' => e = .returned (.bool true) ∧ Ext w w' := by
  have HE : Hid _ := hE
  have HXA : Hid _ := hx
  have HOK : Hid _ := hok
  obtain ⟨hsm, hf200, he60⟩ := few_small hok hfew hd6
  have HSM : Hid _ := hsm
  have HLEN : Hid _ := few_len hok hfew hd6
  have HFW : Hid _ := hfew
  obtain ⟨vd, vf, ve, rfl, hd, hf, he⟩ := hx
  have HF : Hid _ := hf
  have HNIL : Hid _ := hnil
  obtain ⟨a1, n1, rfl, -⟩ := id hd
  obtain ⟨a2, n2, rfl, -⟩ := id hf
  obtain ⟨a3, n3, rfl, -, hel, -, m4⟩ := he.get
  have M4 : Hid _ := m4
  obtain ⟨w1, hw1⟩ : ∃ w1, w1 = w.alloc (.cells (acCells x.kind x.a x.b x.n x.path (.slice a1 x.data.length n1) (.slice a2 x.fates.length n2) (.slice a3 x.events.length n3)) 26) := ⟨_, rfl⟩
  have hx1 : Ext w w1 := by rw [hw1]; exact (Ext.refl _).alloc _
  have hg1 : w1.heap[w.heap.size]? = some (.cells (acCells x.kind x.a x.b x.n x.path (.slice a1 x.data.length n1) (.slice a2 x.fates.length n2) (.slice a3 x.events.length n3)) 26 (0, 0)) := by rw [hw1]; exact alloc_at _ _
  have hw1s : w1.heap.size = w.heap.size + 1 := by rw [hw1]; simp
  have HW1 : Hid _ := hw1
  have hsi : ¬ (6000 : Int) < (s.length : Int) := by omega
  have HPS : Hid ((parseL s).1.small) := parse_small (by omega)
  have HSL : Hid (s.length ≤ 3000000) := by unfold Hid; omega
  have HPY : Hid _ := @parse_says s
  clear hw1 hE hd hf he m4 hnil hok hsm hfew hd6 hs6
  go_enter Tryd.func4, Tryd.ntmps4
  go_wp2_with fail
  rw [show w.alloc (.cells #[.int .i64 x.kind, .int .i64 x.a, .int .i64 x.b, .int .i64 x.n, S8 x.path, .slice a1 x.data.length n1, .slice a2 x.fates.length n2, .slice a3 x.events.length n3] 26) = w1 from HW1.out.symm]
  go_at_call 7
  refine (first_any _ (HE.out.ext hx1)).mono ?_
  rintro e w2 ⟨rfl, hx2⟩
  have hg2 := hx2.row hg1
  have hx02 := Ext.trans hx1 hx2
  go_wp2_with (first
    | (refine wpList_load_row rfl 26 (.tmp 2) rfl w.heap.size rfl 26 _ (0, 0) _ hg2 Tryd.underlying26 rfl sizeAc ?_)
    | (go_at_call 8; go_must (refine (few_any _ x _ (IsAc.ext HXA.out hx02)).mono ?_; rw [HFW.out]; rintro e w3 ⟨rfl, hx3⟩; have hx03 := Ext.trans hx02 hx3)))
  go_at_call 9
  refine (parse_any s _ (HE.out.ext hx03) HSL.out).mono ?_
  rintro e w4 ⟨⟨cs', rfl, hac⟩, hx4⟩
  have hg4 := hx4.row (hx3.row hg2)
  have hx04 := Ext.trans hx03 hx4
  have HAC : Hid _ := hac
  have HYS : Hid _ := HPS.out
  generalize hEE : (parseL s).2 = EE at *
  generalize hY : (parseL s).1 = Y at *
  obtain ⟨vd', vf', ve', rfl, ⟨⟨p1, p2, rfl, -⟩, -⟩, ⟨⟨p3, p4, rfl, -⟩, -⟩, ⟨p5, ⟨p6, p7, rfl, -⟩, -⟩⟩ := hac
  have HPP : Hid ((EE == (0 : Int)) = true → printL Y = s) := fun h => HPY.out (by simpa using h)
  have hx45 : Ext w4 (w4.alloc (.cells (acCells Y.kind Y.a Y.b Y.n Y.path (.slice p1 Y.data.length p2) (.slice p3 Y.fates.length p4) (.slice p6 Y.events.length p7)) 26)) := (Ext.refl _).alloc _
  have hx05 := Ext.trans hx04 hx45
  have hg5 := hx45.row hg4
  have hgy := alloc_at w4 (.cells (acCells Y.kind Y.a Y.b Y.n Y.path (.slice p1 Y.data.length p2) (.slice p3 Y.fates.length p4) (.slice p6 Y.events.length p7)) 26)
  have HX45 : Hid _ := hx45
  have HX05 : Hid _ := hx05
  have HG5 : Hid _ := hg5
  have hs4 := hx04.size
  have hdl : (⟨s.toArray⟩ : ByteArray).toList = s := Lib.toList_data _
  clear hEE hY hx1 hx2 hx3 hx4 hg1 hg2 hg4 hw1s hx02 hx03 hx04 hx45 hx05 hg5
  rcases Bool.eq_false_or_eq_true (EE == (0 : Int)) with hbq | hbq
  · go_wp2_with (first
      | (refine wpList_load_row rfl 26 (.tmp 5) rfl w4.heap.size rfl 26 _ (0, 0) _ hgy Tryd.underlying26 rfl sizeAc ?_)
      | (go_at_call 11; go_must (refine (print_any Y _ _ (Env.ext HE.out HX05.out) (IsAc.ext (IsAcT.ac HAC.out) HX45.out) HYS.out).mono ?_; rw [HPP.out hbq]; rintro e w6 ⟨rfl, hx6⟩; have hx06 := Ext.trans HX05.out hx6; have hg6 := hx6.row HG5.out; obtain ⟨c0, c1, c2, c3, c4, c5, c6, c7⟩ := cellsAt8 hg6; have c6a : (w6.alloc (.cells #[.int .i64 x.a, .int .i64 x.b, .int .i64 x.n] 3)).cell? ⟨w.heap.size, 6, none⟩ = some (.slice a2 x.fates.length n2) := Ext.cell ((Ext.refl _).alloc _) c6; have hlit := World.ownsRow_lit (base := w.heap.size) (e := 3) (size := 1) w6 #[.int .i64 x.a, .int .i64 x.b, .int .i64 x.n] 3 (by have := hx06.size; omega) (by unfold maxLen; omega) rfl; have hx6a := Ext.alloc hx06 (.cells #[.int .i64 x.a, .int .i64 x.b, .int .i64 x.n] 3); have hsz6 := hx6a.size; have hg6a := Ext.row ((Ext.refl w6).alloc (.cells #[.int .i64 x.a, .int .i64 x.b, .int .i64 x.n] 3)) hg6))
      | (at_builtin; go_must (refine app_ints rfl _ _ rfl w.heap.size _ 3 [x.a, x.b, x.n] rfl hlit a2 n2 x.fates rfl (Row.ext HF.out hx6a) (fun h => HNIL.out x.fates.length n2 (by rw [h]; rfl)) (by omega) hsz6 ?_; intro v7 w7 hown7 hgr7; have hx07 := owns_ext_app hx6a hlit hgr7; have hg7 := (Keep.of_owns (e := 26) hlit hgr7 (by decide)).2 _ _ _ hg6a)))
    have h0 : backN x 0 = [x.a, x.b, x.n] ++ x.fates := by simp [backN]
    rw [← h0] at hown7
    clear c0 c1 c2 c3 c4 c5 c6 c7 c6a hlit hx6a hsz6 hg6a hgr7 h0 hg6 hx06
    have HX7 : Hid _ := hx07
    have hs7 := hx07.size
    go_wp2_with fail
    go_loopw [7, 8] (fun v i wr => ∃ k : Nat, k ≤ x.events.length ∧ i = .int .i64 k ∧ wr.ownsRow w.heap.size 3 1 v (3 + x.fates.length + 5 * k) ((backN x k).map fun x => .int .i64 x) ∧ Ext w wr ∧ wr.heap[w.heap.size]? = some (.cells (acCells x.kind x.a x.b x.n x.path (.slice a1 x.data.length n1) (.slice a2 x.fates.length n2) (.slice a3 x.events.length n3)) 26 (0, 0))) (fun _ i _ => x.events.length - (intOf i).toNat)
    case atStart => exact ⟨0, Nat.zero_le _, rfl, hown7, hx07, hg7⟩
    case round =>
      obtain ⟨k, hk, rfl, hown, hxr, hgr⟩ := hrel
      obtain ⟨c0, c1, c2, c3, c4, c5, c6, c7⟩ := cellsAt8 hgr
      clear hown7 hg7
      by_cases hlt : k < x.events.length
      · obtain ⟨e, hee⟩ : ∃ e, x.events[k]? = some e := ⟨_, List.getElem?_eq_getElem hlt⟩
        obtain ⟨b, o, vd', rfl, hb, y0, y1, y2, y3, y4, y5, y6⟩ := M4.out k e hee
        have HEE : Hid _ := hee
        have f0 := hxr.cell y0
        have f1 := hxr.cell y1
        have f2 := hxr.cell y2
        have f3 := hxr.cell y3
        have f4 := hxr.cell y4
        have f5 := hxr.cell y5
        have f6 := hxr.cell y6
        obtain ⟨va, vc, rfl, -⟩ := hb
        have hsr := hxr.size
        have hxa2 := Ext.alloc (Ext.alloc hxr (.cells #[.int .i64 e.t, .int .i64 e.kind, .int .i64 e.mode, .int .i64 e.keep, .int .i64 e.torn, S8 e.path, .slice va e.data.length vc] 43)) (.cells #[.int .i64 e.t, .int .i64 e.kind, .int .i64 e.mode, .int .i64 e.keep, .int .i64 e.torn] 3)
        have hga2 := Ext.row (Ext.alloc (Ext.alloc (Ext.refl wr) (.cells #[.int .i64 e.t, .int .i64 e.kind, .int .i64 e.mode, .int .i64 e.keep, .int .i64 e.torn, S8 e.path, .slice va e.data.length vc] 43)) (.cells #[.int .i64 e.t, .int .i64 e.kind, .int .i64 e.mode, .int .i64 e.keep, .int .i64 e.torn] 3)) hgr
        have HGA : Hid _ := hga2
        clear hee y0 y1 y2 y3 y4 y5 y6 hgr hga2 c0 c1 c2 c3 c4 c5 c6
        go_wp2_with (at_builtin; go_must (refine app_int rfl _ _ rfl w.heap.size _ (3 + x.fates.length + 5 * k) (backN x k) rfl ((hown.alloc _).alloc _) (wr.heap.size + 1) 5 5 [e.t, e.kind, e.mode, e.keep, e.torn] rfl rfl (alloc_at1 _ _ _) (by omega) (by simp; omega) ?_; intro v' w9 hown9 hgr9; have hx9 := owns_ext_app hxa2 ((hown.alloc _).alloc _) hgr9; have hg9 := (Keep.of_owns (e := 26) ((hown.alloc _).alloc _) hgr9 (by decide)).2 _ _ _ HGA.out))
        go_roundw
        case rel => exact ⟨k + 1, by omega, by go_num, by rw [backN_snoc HEE.out, show 3 + x.fates.length + 5 * (k + 1) = 3 + x.fates.length + 5 * k + 5 by omega]; exact hown9, hx9, hg9⟩
        case measure => simp [intOf]; omega
      · have hkk : k = x.events.length := by omega
        subst hkk
        have hlen := backN_len (x := x) (Nat.le_refl x.events.length)
        have hv : IsInts wr u7 (backN x x.events.length) := by
          show Row _ _ _ _
          rw [hlen]
          exact Row.of_owns hown (by omega)
        generalize backN x x.events.length = L at *
        obtain ⟨va, vc, rfl, g1, g2, g3, g4⟩ := hv.get
        have G4 : Hid _ := g4
        have HXR : Hid _ := hxr
        have HGR : Hid _ := hgr
        clear g4 hv hown c0 c1 c2 c3 c4 c5 c6 hgr
        obtain ⟨wk, rfl⟩ : ∃ wk : World, wk = wr := ⟨_, rfl⟩
        go_wp2_with fail
        obtain ⟨b, o, rfl, hcell⟩ := G4.out 0 (by omega)
        have HCL : Hid _ := hcell
        clear hcell
        go_loop [10] (fun i => ∃ j : Nat, j ≤ L.length ∧ i = .int .i64 j) (fun i => L.length - (intOf i).toNat)
        case atStart => exact ⟨0, Nat.zero_le _, rfl⟩
        case round =>
          obtain ⟨j, hj, rfl⟩ := hrel
          by_cases hjl : j < L.length
          · have cz := HCL.out j hjl
            generalize L.getD j 0 = z at cz
            by_cases z1 : z ≤ -1000000000000000000
            · go_wp2_with fail
              go_at_call 7
              refine (first_any _ (Env.ext HE.out HXR.out)).mono ?_
              rintro e w9 ⟨rfl, hx9⟩
              go_wp2
              go_ret
              exact ⟨rfl, Ext.trans HXR.out hx9⟩
            · by_cases z2 : 1000000000000000000 ≤ z
              · go_wp2_with fail
                go_at_call 7
                refine (first_any _ (Env.ext HE.out HXR.out)).mono ?_
                rintro e w9 ⟨rfl, hx9⟩
                go_wp2
                go_ret
                exact ⟨rfl, Ext.trans HXR.out hx9⟩
              · go_wp2
                go_round
                case rel => exact ⟨j + 1, by omega, by go_num⟩
                case measure => simp [intOf]; omega
          · have hjj : j = L.length := by omega
            subst hjj
            obtain ⟨pl, hpl⟩ : ∃ pl, printL x = pl := ⟨_, rfl⟩
            have HPL : Hid _ := hpl
            have hgr := HGR.out
            have hdp : (⟨pl.toArray⟩ : ByteArray).toList = pl := Lib.toList_data _
            clear hpl
            have hbeq : (pl == [63]) = !(tellsB x) := by
              rw [← HPL.out]
              cases ht : tellsB x with
              | true => simpa using told_not HOK.out ht
              | false => unfold printL; rw [ht]; rfl
            rcases Bool.eq_false_or_eq_true (tellsB x) with ht | ht
            · rw [ht] at hbeq
              replace hbeq : (pl == [63]) = false := hbeq
              have HPR : Hid (parseL pl = (x, 0)) := by unfold Hid; rw [← HPL.out]; exact print_parse HOK.out ht
              have HLN : Hid (pl.length ≤ 3000000) := by unfold Hid; rw [← HPL.out]; exact HLEN.out
              clear ht
              go_wp2_with (first
                | (refine wpList_load_row rfl 26 (.tmp 2) rfl w.heap.size rfl 26 _ (0, 0) _ hgr Tryd.underlying26 rfl sizeAc ?_)
                | (go_at_call 11; go_must (refine (print_any x _ _ (Env.ext HE.out HXR.out) (IsAc.ext HXA.out HXR.out) HSM.out).mono ?_; rw [HPL.out]; rintro e w8 ⟨rfl, hx8⟩; have hx08 := Ext.trans HXR.out hx8; have hg8 := Ext.row hx8 HGR.out))
                | (go_at_call 9; go_must (refine (parse_any pl _ (Env.ext HE.out hx08) HLN.out).mono ?_; rw [HPR.out]; rintro e w9 ⟨⟨cs9, rfl, hac9⟩, hx9⟩; have hg9 := Ext.row hx9 hg8; have hx09 := Ext.trans hx08 hx9; have HAC9 : Hid _ := hac9; obtain ⟨vd9, vf9, ve9, rfl, ⟨⟨r1, r2, rfl, -⟩, -⟩, ⟨⟨r3, r4, rfl, -⟩, -⟩, ⟨r5, ⟨r6, r7, rfl, -⟩, -⟩⟩ := hac9; have hxa := Ext.alloc (Ext.refl w9) (.cells (acCells x.kind x.a x.b x.n x.path (.slice r1 x.data.length r2) (.slice r3 x.fates.length r4) (.slice r6 x.events.length r7)) 26); obtain ⟨c0, c1, c2, c3, c4, c5, c6, c7⟩ := cellsAt8 (Ext.row hxa hg9); obtain ⟨d0, d1, d2, d3, d4, d5, d6, d7⟩ := cellsAt8 (alloc_at w9 (.cells (acCells x.kind x.a x.b x.n x.path (.slice r1 x.data.length r2) (.slice r3 x.fates.length r4) (.slice r6 x.events.length r7)) 26)); have hx0a := Ext.trans hx09 hxa; clear hgr hg8 hg9)))
              apply wp_region_mix 11 [.bool true, _, _, _, _, _, .agg (acCells x.kind x.a x.b x.n x.path (.slice r1 x.data.length r2) (.slice r3 x.fates.length r4) (.slice r6 x.events.length r7)), .agg (acCells x.kind x.a x.b x.n x.path (.slice a1 x.data.length n1) (.slice a2 x.fates.length n2) (.slice a3 x.events.length n3)), undef, .bool true, _] [none, none, none, none, none, none, none, none, some (fun u w' => ∃ cs, u = .agg cs.toArray ∧ IsAc w' cs x), none, none] [[], [0], [1], [1, 2], [1, 3], [4], [5], [5], [5, 7], [5, 6, 8], [5, 9]] (by kernel_rfl) (by kernel_rfl) (by simp [mixV])
              · refine ⟨?_, trivial⟩
                · exact fun _ _ _ he ⟨cs, h1, h2⟩ => ⟨cs, h1, h2.ext he⟩
              · simp (maxSteps := 1000000) only [List.take_succ_cons, List.take_zero, oblFrom, stepObl, fillFrom, Act.put, List.setIfInBounds_toArray, List.set_cons_zero, List.set_cons_succ, knows, getV, mixV, List.getD_cons_zero, List.getD_cons_succ, and_true, true_and, forall_const]
                refine ⟨?_, ?_, ?_, ?_, ?_, ?_, ?_, ?_, ?_, ?_, ?_⟩
                · intro xs wq hq R hR
                  go_simp
                  exact (first_any _ (Env.ext HE.out (Ext.trans hx0a hq))).mono (by rintro e' w8 ⟨rfl, h2⟩; exact ⟨_, rfl, hR _ _ h2 rfl⟩)
                · intro xs wq hq hk R hR
                  have f0q := hq.cell c0; have f1q := hq.cell c1; have f2q := hq.cell c2; have f3q := hq.cell c3; have f4q := hq.cell c4; have f5q := hq.cell c5; have f6q := hq.cell c6; have f7q := hq.cell c7; have g0q := hq.cell d0; have g1q := hq.cell d1; have g2q := hq.cell d2; have g3q := hq.cell d3; have g4q := hq.cell d4; have g5q := hq.cell d5; have g6q := hq.cell d6; have g7q := hq.cell d7
                  go_simp
                  exact hR _ _ (Ext.refl _) rfl
                · intro xs wq hq hk R hR
                  have f0q := hq.cell c0; have f1q := hq.cell c1; have f2q := hq.cell c2; have f3q := hq.cell c3; have f4q := hq.cell c4; have f5q := hq.cell c5; have f6q := hq.cell c6; have f7q := hq.cell c7; have g0q := hq.cell d0; have g1q := hq.cell d1; have g2q := hq.cell d2; have g3q := hq.cell d3; have g4q := hq.cell d4; have g5q := hq.cell d5; have g6q := hq.cell d6; have g7q := hq.cell d7
                  go_simp
                  exact hR _ _ (Ext.refl _) rfl
                · intro xs wq hq hk R hR
                  obtain ⟨hk0, hk1⟩ := hk
                  have f0q := hq.cell c0; have f1q := hq.cell c1; have f2q := hq.cell c2; have f3q := hq.cell c3; have f4q := hq.cell c4; have f5q := hq.cell c5; have f6q := hq.cell c6; have f7q := hq.cell c7; have g0q := hq.cell d0; have g1q := hq.cell d1; have g2q := hq.cell d2; have g3q := hq.cell d3; have g4q := hq.cell d4; have g5q := hq.cell d5; have g6q := hq.cell d6; have g7q := hq.cell d7
                  go_simp
                  exact hR _ _ (Ext.refl _) rfl
                · intro xs wq hq hk R hR
                  obtain ⟨hk0, hk1⟩ := hk
                  have f0q := hq.cell c0; have f1q := hq.cell c1; have f2q := hq.cell c2; have f3q := hq.cell c3; have f4q := hq.cell c4; have f5q := hq.cell c5; have f6q := hq.cell c6; have f7q := hq.cell c7; have g0q := hq.cell d0; have g1q := hq.cell d1; have g2q := hq.cell d2; have g3q := hq.cell d3; have g4q := hq.cell d4; have g5q := hq.cell d5; have g6q := hq.cell d6; have g7q := hq.cell d7
                  go_simp
                  exact hR _ _ (Ext.refl _) rfl
                · intro xs wq hq hk R hR
                  have f0q := hq.cell c0; have f1q := hq.cell c1; have f2q := hq.cell c2; have f3q := hq.cell c3; have f4q := hq.cell c4; have f5q := hq.cell c5; have f6q := hq.cell c6; have f7q := hq.cell c7; have g0q := hq.cell d0; have g1q := hq.cell d1; have g2q := hq.cell d2; have g3q := hq.cell d3; have g4q := hq.cell d4; have g5q := hq.cell d5; have g6q := hq.cell d6; have g7q := hq.cell d7
                  go_simp
                  exact hR _ _ (Ext.refl _) rfl
                · intro xs wq hq hk R hR
                  have f0q := hq.cell c0; have f1q := hq.cell c1; have f2q := hq.cell c2; have f3q := hq.cell c3; have f4q := hq.cell c4; have f5q := hq.cell c5; have f6q := hq.cell c6; have f7q := hq.cell c7; have g0q := hq.cell d0; have g1q := hq.cell d1; have g2q := hq.cell d2; have g3q := hq.cell d3; have g4q := hq.cell d4; have g5q := hq.cell d5; have g6q := hq.cell d6; have g7q := hq.cell d7
                  go_simp
                  exact hR _ _ (Ext.refl _) rfl
                · intro xs wq hq hk R hR
                  have f0q := hq.cell c0; have f1q := hq.cell c1; have f2q := hq.cell c2; have f3q := hq.cell c3; have f4q := hq.cell c4; have f5q := hq.cell c5; have f6q := hq.cell c6; have f7q := hq.cell c7; have g0q := hq.cell d0; have g1q := hq.cell d1; have g2q := hq.cell d2; have g3q := hq.cell d3; have g4q := hq.cell d4; have g5q := hq.cell d5; have g6q := hq.cell d6; have g7q := hq.cell d7
                  go_simp
                  exact hR _ _ (Ext.refl _) rfl
                · intro xs wq hq hk R hR
                  obtain ⟨hk0, hk1⟩ := hk
                  go_simp
                  exact (plainAct_any _ x _ (IsAc.ext HXA.out (Ext.trans hx0a hq)) (by have := HSM.out.ne; omega)).mono (by rintro e' w8 ⟨⟨cs, rfl, h3⟩, h2⟩; exact ⟨_, rfl, hR _ _ h2 ⟨cs, rfl, h3⟩⟩)
                · intro xs wq hq hk R hR
                  obtain ⟨hk0, hk1, hk2⟩ := hk
                  obtain ⟨cs, hcs, hac9⟩ := hk2
                  go_simp
                  exact (same_any _ _ x _ (IsAc.ext (IsAcT.ac HAC9.out) (Ext.trans hxa hq)) hac9).mono (by rintro e' w8 ⟨rfl, h2⟩; exact ⟨_, rfl, hR _ _ h2 rfl⟩)
                · intro xs wq hq hk R hR
                  obtain ⟨hk0, hk1⟩ := hk
                  have f0q := hq.cell c0; have f1q := hq.cell c1; have f2q := hq.cell c2; have f3q := hq.cell c3; have f4q := hq.cell c4; have f5q := hq.cell c5; have f6q := hq.cell c6; have f7q := hq.cell c7; have g0q := hq.cell d0; have g1q := hq.cell d1; have g2q := hq.cell d2; have g3q := hq.cell d3; have g4q := hq.cell d4; have g5q := hq.cell d5; have g6q := hq.cell d6; have g7q := hq.cell d7
                  go_simp
                  exact hR _ _ (Ext.refl _) rfl
              intro xs wz hz hk
              simp only [heldV, Nat.zero_add, Nat.reduceAdd, and_true] at hk
              obtain ⟨q0, q1, q2, q3, q4, q5, q6, q7, q8, q9, q10⟩ := hk
              simp (maxSteps := 1000000) only [List.take_succ_cons, List.take_zero, List.drop_succ_cons, List.drop_zero, fillFrom, Act.put, List.setIfInBounds_toArray, List.set_cons_zero, List.set_cons_succ, Nat.zero_add, Nat.reduceAdd, q0, q1, q2, q3, q4, q5, q6, q7, q9, q10]
              clear q0 q1 q2 q3 q4 q5 q6 q7 q9 q10
              generalize xs 8 = x8 at *
              go_wp2
              go_ret
              exact ⟨rfl, Ext.trans hx0a hz⟩
            · rw [ht] at hbeq
              replace hbeq : (pl == [63]) = true := hbeq
              obtain rfl : pl = [63] := by simpa using hbeq
              go_wp2_with (first
                | (refine wpList_load_row rfl 26 (.tmp 2) rfl w.heap.size rfl 26 _ (0, 0) _ hgr Tryd.underlying26 rfl sizeAc ?_)
                | (go_at_call 11; go_must (refine (print_any x _ _ (Env.ext HE.out HXR.out) (IsAc.ext HXA.out HXR.out) HSM.out).mono ?_; rw [HPL.out]; rintro e w8 ⟨rfl, hx8⟩; have hx08 := Ext.trans HXR.out hx8))
                | (go_at_call 7; go_must (refine (first_any _ (Env.ext HE.out hx08)).mono ?_; rintro e w9 ⟨rfl, hx9⟩)))
              go_ret
              exact ⟨rfl, Ext.trans hx08 hx9⟩
  · have hx06 := HX05.out
    have hg6 := HG5.out
    obtain ⟨c0, c1, c2, c3, c4, c5, c6, c7⟩ := cellsAt8 hg6; have c6a : ((w4.alloc (.cells (acCells Y.kind Y.a Y.b Y.n Y.path (.slice p1 Y.data.length p2) (.slice p3 Y.fates.length p4) (.slice p6 Y.events.length p7)) 26)).alloc (.cells #[.int .i64 x.a, .int .i64 x.b, .int .i64 x.n] 3)).cell? ⟨w.heap.size, 6, none⟩ = some (.slice a2 x.fates.length n2) := Ext.cell ((Ext.refl _).alloc _) c6; have hlit := World.ownsRow_lit (base := w.heap.size) (e := 3) (size := 1) (w4.alloc (.cells (acCells Y.kind Y.a Y.b Y.n Y.path (.slice p1 Y.data.length p2) (.slice p3 Y.fates.length p4) (.slice p6 Y.events.length p7)) 26)) #[.int .i64 x.a, .int .i64 x.b, .int .i64 x.n] 3 (by have := hx06.size; omega) (by unfold maxLen; omega) rfl; have hx6a := Ext.alloc hx06 (.cells #[.int .i64 x.a, .int .i64 x.b, .int .i64 x.n] 3); have hsz6 := hx6a.size; have hg6a := Ext.row ((Ext.refl (w4.alloc (.cells (acCells Y.kind Y.a Y.b Y.n Y.path (.slice p1 Y.data.length p2) (.slice p3 Y.fates.length p4) (.slice p6 Y.events.length p7)) 26))).alloc (.cells #[.int .i64 x.a, .int .i64 x.b, .int .i64 x.n] 3)) hg6
    rw [show (w4.alloc (.cells (acCells Y.kind Y.a Y.b Y.n Y.path (.slice p1 Y.data.length p2) (.slice p3 Y.fates.length p4) (.slice p6 Y.events.length p7)) 26)).heap.size = w4.heap.size + 1 by simp] at hlit
    go_wp2_with (at_builtin; go_must (refine app_ints rfl _ _ rfl w.heap.size _ 3 [x.a, x.b, x.n] rfl hlit a2 n2 x.fates rfl (Row.ext HF.out hx6a) (fun h => HNIL.out x.fates.length n2 (by rw [h]; rfl)) (by omega) hsz6 ?_; intro v7 w7 hown7 hgr7; have hx07 := owns_ext_app hx6a hlit hgr7; have hg7 := (Keep.of_owns (e := 26) hlit hgr7 (by decide)).2 _ _ _ hg6a))
    have h0 : backN x 0 = [x.a, x.b, x.n] ++ x.fates := by simp [backN]
    rw [← h0] at hown7
    clear c0 c1 c2 c3 c4 c5 c6 c7 c6a hlit hx6a hsz6 hg6a hgr7 h0 hg6 hx06
    have HX7 : Hid _ := hx07
    have hs7 := hx07.size
    go_wp2_with fail
    go_loopw [7, 8] (fun v i wr => ∃ k : Nat, k ≤ x.events.length ∧ i = .int .i64 k ∧ wr.ownsRow w.heap.size 3 1 v (3 + x.fates.length + 5 * k) ((backN x k).map fun x => .int .i64 x) ∧ Ext w wr ∧ wr.heap[w.heap.size]? = some (.cells (acCells x.kind x.a x.b x.n x.path (.slice a1 x.data.length n1) (.slice a2 x.fates.length n2) (.slice a3 x.events.length n3)) 26 (0, 0))) (fun _ i _ => x.events.length - (intOf i).toNat)
    case atStart => exact ⟨0, Nat.zero_le _, rfl, hown7, hx07, hg7⟩
    case round =>
      obtain ⟨k, hk, rfl, hown, hxr, hgr⟩ := hrel
      obtain ⟨c0, c1, c2, c3, c4, c5, c6, c7⟩ := cellsAt8 hgr
      clear hown7 hg7
      by_cases hlt : k < x.events.length
      · obtain ⟨e, hee⟩ : ∃ e, x.events[k]? = some e := ⟨_, List.getElem?_eq_getElem hlt⟩
        obtain ⟨b, o, vd', rfl, hb, y0, y1, y2, y3, y4, y5, y6⟩ := M4.out k e hee
        have HEE : Hid _ := hee
        have f0 := hxr.cell y0
        have f1 := hxr.cell y1
        have f2 := hxr.cell y2
        have f3 := hxr.cell y3
        have f4 := hxr.cell y4
        have f5 := hxr.cell y5
        have f6 := hxr.cell y6
        obtain ⟨va, vc, rfl, -⟩ := hb
        have hsr := hxr.size
        have hxa2 := Ext.alloc (Ext.alloc hxr (.cells #[.int .i64 e.t, .int .i64 e.kind, .int .i64 e.mode, .int .i64 e.keep, .int .i64 e.torn, S8 e.path, .slice va e.data.length vc] 43)) (.cells #[.int .i64 e.t, .int .i64 e.kind, .int .i64 e.mode, .int .i64 e.keep, .int .i64 e.torn] 3)
        have hga2 := Ext.row (Ext.alloc (Ext.alloc (Ext.refl wr) (.cells #[.int .i64 e.t, .int .i64 e.kind, .int .i64 e.mode, .int .i64 e.keep, .int .i64 e.torn, S8 e.path, .slice va e.data.length vc] 43)) (.cells #[.int .i64 e.t, .int .i64 e.kind, .int .i64 e.mode, .int .i64 e.keep, .int .i64 e.torn] 3)) hgr
        have HGA : Hid _ := hga2
        clear hee y0 y1 y2 y3 y4 y5 y6 hgr hga2 c0 c1 c2 c3 c4 c5 c6
        go_wp2_with (at_builtin; go_must (refine app_int rfl _ _ rfl w.heap.size _ (3 + x.fates.length + 5 * k) (backN x k) rfl ((hown.alloc _).alloc _) (wr.heap.size + 1) 5 5 [e.t, e.kind, e.mode, e.keep, e.torn] rfl rfl (alloc_at1 _ _ _) (by omega) (by simp; omega) ?_; intro v' w9 hown9 hgr9; have hx9 := owns_ext_app hxa2 ((hown.alloc _).alloc _) hgr9; have hg9 := (Keep.of_owns (e := 26) ((hown.alloc _).alloc _) hgr9 (by decide)).2 _ _ _ HGA.out))
        go_roundw
        case rel => exact ⟨k + 1, by omega, by go_num, by rw [backN_snoc HEE.out, show 3 + x.fates.length + 5 * (k + 1) = 3 + x.fates.length + 5 * k + 5 by omega]; exact hown9, hx9, hg9⟩
        case measure => simp [intOf]; omega
      · have hkk : k = x.events.length := by omega
        subst hkk
        have hlen := backN_len (x := x) (Nat.le_refl x.events.length)
        have hv : IsInts wr u7 (backN x x.events.length) := by
          show Row _ _ _ _
          rw [hlen]
          exact Row.of_owns hown (by omega)
        generalize backN x x.events.length = L at *
        obtain ⟨va, vc, rfl, g1, g2, g3, g4⟩ := hv.get
        have G4 : Hid _ := g4
        have HXR : Hid _ := hxr
        have HGR : Hid _ := hgr
        clear g4 hv hown c0 c1 c2 c3 c4 c5 c6 hgr
        obtain ⟨wk, rfl⟩ : ∃ wk : World, wk = wr := ⟨_, rfl⟩
        go_wp2_with fail
        obtain ⟨b, o, rfl, hcell⟩ := G4.out 0 (by omega)
        have HCL : Hid _ := hcell
        clear hcell
        go_loop [10] (fun i => ∃ j : Nat, j ≤ L.length ∧ i = .int .i64 j) (fun i => L.length - (intOf i).toNat)
        case atStart => exact ⟨0, Nat.zero_le _, rfl⟩
        case round =>
          obtain ⟨j, hj, rfl⟩ := hrel
          by_cases hjl : j < L.length
          · have cz := HCL.out j hjl
            generalize L.getD j 0 = z at cz
            by_cases z1 : z ≤ -1000000000000000000
            · go_wp2_with fail
              go_at_call 7
              refine (first_any _ (Env.ext HE.out HXR.out)).mono ?_
              rintro e w9 ⟨rfl, hx9⟩
              go_wp2
              go_ret
              exact ⟨rfl, Ext.trans HXR.out hx9⟩
            · by_cases z2 : 1000000000000000000 ≤ z
              · go_wp2_with fail
                go_at_call 7
                refine (first_any _ (Env.ext HE.out HXR.out)).mono ?_
                rintro e w9 ⟨rfl, hx9⟩
                go_wp2
                go_ret
                exact ⟨rfl, Ext.trans HXR.out hx9⟩
              · go_wp2
                go_round
                case rel => exact ⟨j + 1, by omega, by go_num⟩
                case measure => simp [intOf]; omega
          · have hjj : j = L.length := by omega
            subst hjj
            obtain ⟨pl, hpl⟩ : ∃ pl, printL x = pl := ⟨_, rfl⟩
            have HPL : Hid _ := hpl
            have hgr := HGR.out
            have hdp : (⟨pl.toArray⟩ : ByteArray).toList = pl := Lib.toList_data _
            clear hpl
            have hbeq : (pl == [63]) = !(tellsB x) := by
              rw [← HPL.out]
              cases ht : tellsB x with
              | true => simpa using told_not HOK.out ht
              | false => unfold printL; rw [ht]; rfl
            rcases Bool.eq_false_or_eq_true (tellsB x) with ht | ht
            · rw [ht] at hbeq
              replace hbeq : (pl == [63]) = false := hbeq
              have HPR : Hid (parseL pl = (x, 0)) := by unfold Hid; rw [← HPL.out]; exact print_parse HOK.out ht
              have HLN : Hid (pl.length ≤ 3000000) := by unfold Hid; rw [← HPL.out]; exact HLEN.out
              clear ht
              go_wp2_with (first
                | (refine wpList_load_row rfl 26 (.tmp 2) rfl w.heap.size rfl 26 _ (0, 0) _ hgr Tryd.underlying26 rfl sizeAc ?_)
                | (go_at_call 11; go_must (refine (print_any x _ _ (Env.ext HE.out HXR.out) (IsAc.ext HXA.out HXR.out) HSM.out).mono ?_; rw [HPL.out]; rintro e w8 ⟨rfl, hx8⟩; have hx08 := Ext.trans HXR.out hx8; have hg8 := Ext.row hx8 HGR.out))
                | (go_at_call 9; go_must (refine (parse_any pl _ (Env.ext HE.out hx08) HLN.out).mono ?_; rw [HPR.out]; rintro e w9 ⟨⟨cs9, rfl, hac9⟩, hx9⟩; have hg9 := Ext.row hx9 hg8; have hx09 := Ext.trans hx08 hx9; have HAC9 : Hid _ := hac9; obtain ⟨vd9, vf9, ve9, rfl, ⟨⟨r1, r2, rfl, -⟩, -⟩, ⟨⟨r3, r4, rfl, -⟩, -⟩, ⟨r5, ⟨r6, r7, rfl, -⟩, -⟩⟩ := hac9; have hxa := Ext.alloc (Ext.refl w9) (.cells (acCells x.kind x.a x.b x.n x.path (.slice r1 x.data.length r2) (.slice r3 x.fates.length r4) (.slice r6 x.events.length r7)) 26); obtain ⟨c0, c1, c2, c3, c4, c5, c6, c7⟩ := cellsAt8 (Ext.row hxa hg9); obtain ⟨d0, d1, d2, d3, d4, d5, d6, d7⟩ := cellsAt8 (alloc_at w9 (.cells (acCells x.kind x.a x.b x.n x.path (.slice r1 x.data.length r2) (.slice r3 x.fates.length r4) (.slice r6 x.events.length r7)) 26)); have hx0a := Ext.trans hx09 hxa; clear hgr hg8 hg9)))
              apply wp_region_mix 11 [.bool true, _, _, _, _, _, .agg (acCells x.kind x.a x.b x.n x.path (.slice r1 x.data.length r2) (.slice r3 x.fates.length r4) (.slice r6 x.events.length r7)), .agg (acCells x.kind x.a x.b x.n x.path (.slice a1 x.data.length n1) (.slice a2 x.fates.length n2) (.slice a3 x.events.length n3)), undef, .bool true, _] [none, none, none, none, none, none, none, none, some (fun u w' => ∃ cs, u = .agg cs.toArray ∧ IsAc w' cs x), none, none] [[], [0], [1], [1, 2], [1, 3], [4], [5], [5], [5, 7], [5, 6, 8], [5, 9]] (by kernel_rfl) (by kernel_rfl) (by simp [mixV])
              · refine ⟨?_, trivial⟩
                · exact fun _ _ _ he ⟨cs, h1, h2⟩ => ⟨cs, h1, h2.ext he⟩
              · simp (maxSteps := 1000000) only [List.take_succ_cons, List.take_zero, oblFrom, stepObl, fillFrom, Act.put, List.setIfInBounds_toArray, List.set_cons_zero, List.set_cons_succ, knows, getV, mixV, List.getD_cons_zero, List.getD_cons_succ, and_true, true_and, forall_const]
                refine ⟨?_, ?_, ?_, ?_, ?_, ?_, ?_, ?_, ?_, ?_, ?_⟩
                · intro xs wq hq R hR
                  go_simp
                  exact (first_any _ (Env.ext HE.out (Ext.trans hx0a hq))).mono (by rintro e' w8 ⟨rfl, h2⟩; exact ⟨_, rfl, hR _ _ h2 rfl⟩)
                · intro xs wq hq hk R hR
                  have f0q := hq.cell c0; have f1q := hq.cell c1; have f2q := hq.cell c2; have f3q := hq.cell c3; have f4q := hq.cell c4; have f5q := hq.cell c5; have f6q := hq.cell c6; have f7q := hq.cell c7; have g0q := hq.cell d0; have g1q := hq.cell d1; have g2q := hq.cell d2; have g3q := hq.cell d3; have g4q := hq.cell d4; have g5q := hq.cell d5; have g6q := hq.cell d6; have g7q := hq.cell d7
                  go_simp
                  exact hR _ _ (Ext.refl _) rfl
                · intro xs wq hq hk R hR
                  have f0q := hq.cell c0; have f1q := hq.cell c1; have f2q := hq.cell c2; have f3q := hq.cell c3; have f4q := hq.cell c4; have f5q := hq.cell c5; have f6q := hq.cell c6; have f7q := hq.cell c7; have g0q := hq.cell d0; have g1q := hq.cell d1; have g2q := hq.cell d2; have g3q := hq.cell d3; have g4q := hq.cell d4; have g5q := hq.cell d5; have g6q := hq.cell d6; have g7q := hq.cell d7
                  go_simp
                  exact hR _ _ (Ext.refl _) rfl
                · intro xs wq hq hk R hR
                  obtain ⟨hk0, hk1⟩ := hk
                  have f0q := hq.cell c0; have f1q := hq.cell c1; have f2q := hq.cell c2; have f3q := hq.cell c3; have f4q := hq.cell c4; have f5q := hq.cell c5; have f6q := hq.cell c6; have f7q := hq.cell c7; have g0q := hq.cell d0; have g1q := hq.cell d1; have g2q := hq.cell d2; have g3q := hq.cell d3; have g4q := hq.cell d4; have g5q := hq.cell d5; have g6q := hq.cell d6; have g7q := hq.cell d7
                  go_simp
                  exact hR _ _ (Ext.refl _) rfl
                · intro xs wq hq hk R hR
                  obtain ⟨hk0, hk1⟩ := hk
                  have f0q := hq.cell c0; have f1q := hq.cell c1; have f2q := hq.cell c2; have f3q := hq.cell c3; have f4q := hq.cell c4; have f5q := hq.cell c5; have f6q := hq.cell c6; have f7q := hq.cell c7; have g0q := hq.cell d0; have g1q := hq.cell d1; have g2q := hq.cell d2; have g3q := hq.cell d3; have g4q := hq.cell d4; have g5q := hq.cell d5; have g6q := hq.cell d6; have g7q := hq.cell d7
                  go_simp
                  exact hR _ _ (Ext.refl _) rfl
                · intro xs wq hq hk R hR
                  have f0q := hq.cell c0; have f1q := hq.cell c1; have f2q := hq.cell c2; have f3q := hq.cell c3; have f4q := hq.cell c4; have f5q := hq.cell c5; have f6q := hq.cell c6; have f7q := hq.cell c7; have g0q := hq.cell d0; have g1q := hq.cell d1; have g2q := hq.cell d2; have g3q := hq.cell d3; have g4q := hq.cell d4; have g5q := hq.cell d5; have g6q := hq.cell d6; have g7q := hq.cell d7
                  go_simp
                  exact hR _ _ (Ext.refl _) rfl
                · intro xs wq hq hk R hR
                  have f0q := hq.cell c0; have f1q := hq.cell c1; have f2q := hq.cell c2; have f3q := hq.cell c3; have f4q := hq.cell c4; have f5q := hq.cell c5; have f6q := hq.cell c6; have f7q := hq.cell c7; have g0q := hq.cell d0; have g1q := hq.cell d1; have g2q := hq.cell d2; have g3q := hq.cell d3; have g4q := hq.cell d4; have g5q := hq.cell d5; have g6q := hq.cell d6; have g7q := hq.cell d7
                  go_simp
                  exact hR _ _ (Ext.refl _) rfl
                · intro xs wq hq hk R hR
                  have f0q := hq.cell c0; have f1q := hq.cell c1; have f2q := hq.cell c2; have f3q := hq.cell c3; have f4q := hq.cell c4; have f5q := hq.cell c5; have f6q := hq.cell c6; have f7q := hq.cell c7; have g0q := hq.cell d0; have g1q := hq.cell d1; have g2q := hq.cell d2; have g3q := hq.cell d3; have g4q := hq.cell d4; have g5q := hq.cell d5; have g6q := hq.cell d6; have g7q := hq.cell d7
                  go_simp
                  exact hR _ _ (Ext.refl _) rfl
                · intro xs wq hq hk R hR
                  obtain ⟨hk0, hk1⟩ := hk
                  go_simp
                  exact (plainAct_any _ x _ (IsAc.ext HXA.out (Ext.trans hx0a hq)) (by have := HSM.out.ne; omega)).mono (by rintro e' w8 ⟨⟨cs, rfl, h3⟩, h2⟩; exact ⟨_, rfl, hR _ _ h2 ⟨cs, rfl, h3⟩⟩)
                · intro xs wq hq hk R hR
                  obtain ⟨hk0, hk1, hk2⟩ := hk
                  obtain ⟨cs, hcs, hac9⟩ := hk2
                  go_simp
                  exact (same_any _ _ x _ (IsAc.ext (IsAcT.ac HAC9.out) (Ext.trans hxa hq)) hac9).mono (by rintro e' w8 ⟨rfl, h2⟩; exact ⟨_, rfl, hR _ _ h2 rfl⟩)
                · intro xs wq hq hk R hR
                  obtain ⟨hk0, hk1⟩ := hk
                  have f0q := hq.cell c0; have f1q := hq.cell c1; have f2q := hq.cell c2; have f3q := hq.cell c3; have f4q := hq.cell c4; have f5q := hq.cell c5; have f6q := hq.cell c6; have f7q := hq.cell c7; have g0q := hq.cell d0; have g1q := hq.cell d1; have g2q := hq.cell d2; have g3q := hq.cell d3; have g4q := hq.cell d4; have g5q := hq.cell d5; have g6q := hq.cell d6; have g7q := hq.cell d7
                  go_simp
                  exact hR _ _ (Ext.refl _) rfl
              intro xs wz hz hk
              simp only [heldV, Nat.zero_add, Nat.reduceAdd, and_true] at hk
              obtain ⟨q0, q1, q2, q3, q4, q5, q6, q7, q8, q9, q10⟩ := hk
              simp (maxSteps := 1000000) only [List.take_succ_cons, List.take_zero, List.drop_succ_cons, List.drop_zero, fillFrom, Act.put, List.setIfInBounds_toArray, List.set_cons_zero, List.set_cons_succ, Nat.zero_add, Nat.reduceAdd, q0, q1, q2, q3, q4, q5, q6, q7, q9, q10]
              clear q0 q1 q2 q3 q4 q5 q6 q7 q9 q10
              generalize xs 8 = x8 at *
              go_wp2
              go_ret
              exact ⟨rfl, Ext.trans hx0a hz⟩
            · rw [ht] at hbeq
              replace hbeq : (pl == [63]) = true := hbeq
              obtain rfl : pl = [63] := by simpa using hbeq
              go_wp2_with (first
                | (refine wpList_load_row rfl 26 (.tmp 2) rfl w.heap.size rfl 26 _ (0, 0) _ hgr Tryd.underlying26 rfl sizeAc ?_)
                | (go_at_call 11; go_must (refine (print_any x _ _ (Env.ext HE.out HXR.out) (IsAc.ext HXA.out HXR.out) HSM.out).mono ?_; rw [HPL.out]; rintro e w8 ⟨rfl, hx8⟩; have hx08 := Ext.trans HXR.out hx8))
                | (go_at_call 7; go_must (refine (first_any _ (Env.ext HE.out hx08)).mono ?_; rintro e w9 ⟨rfl, hx9⟩)))
              go_ret
              exact ⟨rfl, Ext.trans hx08 hx9⟩

theorem scriptBack_any (cs : List Value) (x : Ac) (s : B8) (w : World) (hE : Env w) (hx : IsAc w cs x) (hok : x.ok) (hd6 : ∀ e ∈ x.events, e.data.length ≤ 1048576) (hnil : ∀ n c, cs[6]? = some (.slice none n c) → c = 0) :
    Calls Tryd.prog 4 #[.agg cs.toArray, S8 s] w fun e w' => e = .returned (.bool true) ∧ Ext w w' := by
  by_cases hf : fewAc x = true
  · by_cases hs : 6000 < s.length
    · exact scriptBack_no cs x s w hE hx (.inr hs)
    · exact scriptBack_yes cs x s w hE hx hok hd6 hnil hf (by omega)
  · exact scriptBack_no cs x s w hE hx (.inl (by simpa using hf))

end Go.Proofs.YthfkohppillflaaDoor
