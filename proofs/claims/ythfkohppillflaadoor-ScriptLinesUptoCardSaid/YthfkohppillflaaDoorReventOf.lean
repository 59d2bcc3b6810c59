/- marref24.eventOf: an event read, complete on what is printed. Conditions: a text of at most 1000000 signs. -/
import Derived.Test.YthfkohppillflaaDoorReventA
import Derived.Deep.DeepCutAuto
namespace Go.Proofs.YthfkohppillflaaDoor
open Go Go.RowKit

set_option maxRecDepth 100000 in
set_option maxHeartbeats 16000000 in
theorem reventOf_yes (l : B8) (w : World) (hl : l.length ≤ 1000000) (h7 : (cut 58 l).length = 7) :
    Calls Tryd.prog 28 #[S8 l] w fun e w' => Evented l e w' ∧ Ext w w' := by
  have HCL : Hid _ := fun x => @cut_piece 58 l x
  obtain ⟨L, hL⟩ : ∃ L, cut 58 l = L := ⟨_, rfl⟩
  have HEV : Hid (∀ x' : Ev, x'.ok → evTold x' = true → l = evS x' → L = evL x') := fun x' _ h e => by rw [← hL, e, cut_ev h]
  rw [hL] at h7 HCL
  have HL : Hid _ := hL
  have hx1 : Ext w (w.alloc (.cells zeroEv.toArray 64)) := (Ext.refl _).alloc _
  have hg1 := alloc_at w (.cells zeroEv.toArray 64)
  have hl7 : (L.length : Int) = 7 := by omega
  clear hL
  go_enter Tryd.func28, Tryd.ntmps28
  go_wp2_with fail
  go_at_call 23
  refine (rsplit_any ⟨l.toArray⟩ 58 _ hl).mono ?_
  rintro e w2 ⟨v, rfl, hv, hty, hx2⟩
  rw [show (⟨l.toArray⟩ : ByteArray).data.toList = l from rfl, HL.out] at hv
  obtain ⟨a, cap, rfl, h1, h2, h3, h4⟩ := hv.get
  have hg2 := hx2.row hg1
  obtain ⟨b, o, rfl, hc⟩ := h4 0 (by omega)
  have hbne : b ≠ w.heap.size := fun e => by
    obtain ⟨xs, fr, hbk⟩ := hty ⟨b, o, none⟩ _ _ rfl
    simp only at hbk
    rw [e, hg2] at hbk
    simp only [Option.some.injEq, Obj.cells.injEq] at hbk
    exact absurd hbk.2.1 (by decide)
  have HC : Hid _ := hc
  have HG2 : Hid _ := hg2
  have hx02 := hx1.trans hx2
  have hs2 := hx02.size
  clear hv h4 hc hg2 hx1 hg1 hx2 hty
  obtain ⟨w3, hw3⟩ : ∃ w3, w3 = w2.alloc (.cells #[.int .i64 0, .int .i64 0, .int .i64 0, .int .i64 0, .int .i64 0] 83) := ⟨_, rfl⟩
  have hx23 : Ext w2 w3 := by rw [hw3]; exact (Ext.refl _).alloc _
  have hg3 : w3.heap[w2.heap.size]? = some (.cells #[.int .i64 0, .int .i64 0, .int .i64 0, .int .i64 0, .int .i64 0] 83 (0, 0)) := by rw [hw3]; exact alloc_at _ _
  have HW3 : Hid _ := hw3
  clear hw3
  go_wp2_with fail
  rw [show w2.alloc (.cells #[.int .i64 0, .int .i64 0, .int .i64 0, .int .i64 0, .int .i64 0] 83) = w3 from HW3.out.symm]
  go_loopw [6, 7] (fun gd i wr => ∃ (k : Nat) (good : Bool) (ns : List Int), k ≤ 5 ∧ i = .int .i64 k ∧ gd = .bool good ∧ ns.length = 5 ∧ (∀ n ∈ ns, I64 n) ∧ (∀ x' : Ev, x'.ok → evTold x' = true → l = evS x' → good = true ∧ ∀ j, j < k → ns[j]? = (evN x')[j]?) ∧ wr.heap[w2.heap.size]? = some (.cells (ns.map fun n => Value.int .i64 n).toArray 83 (0, 0)) ∧ Ext w2 wr) (fun _ i _ => 5 - (intOf i).toNat)
  case atStart => exact ⟨0, true, [0, 0, 0, 0, 0], by omega, rfl, rfl, rfl, by simp [I64], fun x' _ _ _ => ⟨rfl, fun j hj => by omega⟩, hg3, hx23⟩
  case round =>
    obtain ⟨k, good, ns, hk, rfl, rfl, hns, hi, hcm, hgr, hxr⟩ := hrel
    have HI : Hid _ := hi
    have HCM : Hid _ := hcm
    clear hi hcm hg3
    by_cases hlt : k < 5
    · have hk7 : k < L.length := by omega
      have hk7i : (k : Int) < (L.length : Int) := by omega
      have hck := hxr.cell (HC.out k hk7)
      obtain ⟨p, hp⟩ : ∃ p, L.getD k [] = p := ⟨_, rfl⟩
      have HP : Hid _ := hp
      rw [hp] at hck
      have hpl : p.length ≤ l.length := by
        rw [← hp]
        exact HCL.out _ (getD_mem hk7)
      obtain ⟨w5, hw5⟩ : ∃ w5 : World, w5 = wr := ⟨_, rfl⟩
      clear hp hw5 w5
      cases good with
      | false =>
        go_wp2_with fail
        go_at_call 25
        refine (num_any p _ (by omega)).mono ?_
        rintro e w5 ⟨⟨n, ok, rfl, hn, hc5⟩, hx5⟩
        have hg5 := hx5.row hgr
        have HN : Hid _ := hn
        clear hc5 hn hgr
        go_wp2_with (refine store_field rfl 3 (.tmp 37) (.tmp 32) rfl w2.heap.size k rfl (.int .i64 n) rfl rfl _ _ hg5 (by simp; omega) size_int ((ns.take k ++ [n] ++ ns.drop (k + 1)).map fun n => Value.int .i64 n).toArray (by simp [List.map_take, List.map_drop]) ?_; intro w6 hg6 hgr6)
        go_roundw
        case rel =>
          refine ⟨k + 1, false, _, by omega, by go_num, rfl, by simp; omega, fun m hm => ?_, fun x' h1 h2 h3 => ?_, hg6, (hxr.trans hx5).but hgr6 (Nat.le_refl _)⟩
          · rcases List.mem_append.1 hm with hm | hm
            · rcases List.mem_append.1 hm with hm | hm
              · exact HI.out m (List.mem_of_mem_take hm)
              · rw [List.mem_singleton.1 hm]; exact HN.out
            · exact HI.out m (List.mem_of_mem_drop hm)
          · have := (HCM.out x' h1 h2 h3).1
            cases this
        case measure => simp [intOf]; omega
      | true =>
        go_wp2_with fail
        go_at_call 25
        refine (num_any p _ (by omega)).mono ?_
        rintro e w5 ⟨⟨n, ok, rfl, hn, hc5⟩, hx5⟩
        have hg5 := hx5.row hgr
        have HN : Hid _ := hn
        have HC5 : Hid _ := hc5
        clear hc5 hn hgr
        go_wp2_with (refine store_field rfl 3 (.tmp 37) (.tmp 32) rfl w2.heap.size k rfl (.int .i64 n) rfl rfl _ _ hg5 (by simp; omega) size_int ((ns.take k ++ [n] ++ ns.drop (k + 1)).map fun n => Value.int .i64 n).toArray (by simp [List.map_take, List.map_drop]) ?_; intro w6 hg6 hgr6)
        go_roundw
        case rel =>
          refine ⟨k + 1, ok, _, by omega, by go_num, rfl, by simp; omega, fun m hm => ?_, fun x' h1 h2 h3 => ?_, hg6, (hxr.trans hx5).but hgr6 (Nat.le_refl _)⟩
          · rcases List.mem_append.1 hm with hm | hm
            · rcases List.mem_append.1 hm with hm | hm
              · exact HI.out m (List.mem_of_mem_take hm)
              · rw [List.mem_singleton.1 hm]; exact HN.out
            · exact HI.out m (List.mem_of_mem_drop hm)
          · obtain ⟨m, hm⟩ : ∃ m, (evN x')[k]? = some m := ⟨_, List.getElem?_eq_getElem (show k < 5 from hlt)⟩
            have hpm : p = Lib.itoa m := by rw [← HP.out, HEV.out x' h1 h2 h3]; exact evN_get hm
            obtain ⟨hok, hnm⟩ := HC5.out m (evN_ok h1 hm) hpm
            refine ⟨hok, fun j hj => ?_⟩
            rw [put_get n (by omega) hj]
            by_cases hjk : j = k
            · rw [if_pos hjk, hjk, hm, hnm]
            · rw [if_neg hjk]
              exact (HCM.out x' h1 h2 h3).2 j (by omega)
        case measure => simp [intOf]; omega
    · have hkk : k = 5 := by omega
      subst hkk
      obtain ⟨m0, m1, m2, m3, m4, rfl⟩ := five ns hns
      have c5 := hxr.cell (HC.out 5 (by omega))
      have c6 := hxr.cell (HC.out 6 (by omega))
      have hp5l : (L.getD 5 []).length ≤ l.length := HCL.out _ (getD_mem (by omega))
      have hp6l : (L.getD 6 []).length ≤ l.length := HCL.out _ (getD_mem (by omega))
      have HE5 : Hid (∀ x' : Ev, x'.ok → evTold x' = true → l = evS x' → L.getD 5 [] = orL x'.path ∧ L.getD 6 [] = orL (hexL x'.data)) := fun x' h1 h2 h3 => by
        rw [HEV.out x' h1 h2 h3]
        exact ⟨rfl, rfl⟩
      generalize L.getD 5 [] = p5 at *
      generalize L.getD 6 [] = p6 at *
      have hj5 : (5 : Int) < (L.length : Int) := by omega
      have hj6 : (6 : Int) < (L.length : Int) := by omega
      go_wp2_with fail
      go_at_call 26
      refine (runhex24_any p6 _ (by omega)).mono ?_
      rintro e w7 ⟨⟨v, ok2, bd, rfl, hb, ht, hbl, hc7⟩, hx7⟩
      have HB : Hid _ := hb
      have HT : Hid _ := ht
      have HC7 : Hid _ := hc7
      obtain ⟨va, vc, rfl, -⟩ := id hb
      have hx27 := hxr.trans hx7
      obtain ⟨a0, a1, a2, a3, a4⟩ := cellsAt5 (hx7.row hgr)
      have c57 := hx7.cell c5
      have hs27 := hx27.size
      have hgw7 := hx27.row HG2.out
      have HGW7 : Hid _ := hgw7
      have HFIN : Hid (∀ x' : Ev, x'.ok → evTold x' = true → l = evS x' → good = true ∧ ok2 = true ∧ p5 ≠ [] ∧ (⟨m0, m1, m2, m3, m4, noneL p5, bd⟩ : Ev) = x') := fun x' h1 h2 h3 => by
        obtain ⟨k1, k2⟩ := HCM.out x' h1 h2 h3
        obtain ⟨k3, k4⟩ := HE5.out x' h1 h2 h3
        obtain ⟨k5, k6⟩ := HC7.out x'.data k4
        have j0 := k2 0 (by omega)
        have j1 := k2 1 (by omega)
        have j2 := k2 2 (by omega)
        have j3 := k2 3 (by omega)
        have j4 := k2 4 (by omega)
        refine ⟨k1, k5, ?_, ?_⟩
        · rw [k3]; unfold orL; split
          · simp
          · assumption
        · obtain ⟨tt, kd, md, kp, tn, pa, da⟩ := x'
          simp only [evN, List.getElem?_cons_zero, List.getElem?_cons_succ, Option.some.injEq] at j0 j1 j2 j3 j4
          rw [k3, none_or (told_chars h2).1, j0, j1, j2, j3, j4, k6]
      clear hb ht hc7 c5 c6 hgr hgw7
      have hdp : (⟨p5.toArray⟩ : ByteArray).toList = p5 := Lib.toList_data _
      have hxa : Ext w7 (w7.alloc (.cells #[.int .i64 m0, .int .i64 m1, .int .i64 m2, .int .i64 m3, .int .i64 m4, S8 [], .slice va bd.length vc] 64)) := (Ext.refl _).alloc _
      have c5a := hxa.cell c57
      obtain ⟨t5, ht5⟩ : ∃ t5, (p5 == [45]) = t5 := ⟨_, rfl⟩
      go_upto_if 60 with fail
      have HT5 : Hid _ := ht5
      clear hxa c5a ht5
      obtain ⟨w8, hw8⟩ : ∃ w8, w8 = (w7.alloc (.cells #[.int .i64 m0, .int .i64 m1, .int .i64 m2, .int .i64 m3, .int .i64 m4, S8 [], .slice va bd.length vc] 64)) := ⟨_, rfl⟩
      have hx78 : Ext w7 w8 := by rw [hw8]; exact (Ext.refl _).alloc _
      have hg8 : w8.heap[w7.heap.size]? = some (.cells #[.int .i64 m0, .int .i64 m1, .int .i64 m2, .int .i64 m3, .int .i64 m4, S8 [], .slice va bd.length vc] 64 (0, 0)) := by rw [hw8]; exact alloc_at _ _
      have HW8 : Hid _ := hw8
      clear hw8
      rw [show (w7.alloc (.cells #[.int .i64 m0, .int .i64 m1, .int .i64 m2, .int .i64 m3, .int .i64 m4, S8 [], .slice va bd.length vc] 64)) = w8 from HW8.out.symm]
      have c58 := hx78.cell c57
      go_cut [] (fun wx => wx.heap[w7.heap.size]? = some (.cells #[.int .i64 m0, .int .i64 m1, .int .i64 m2, .int .i64 m3, .int .i64 m4, S8 (noneL p5), .slice va bd.length vc] 64 (0, 0)) ∧ Ext w7 wx)
      case first =>
        cases t5 with
        | true =>
          have HNN : Hid (noneL p5 = []) := if_pos (by simpa using HT5.out)
          go_wp2_with fail
          go_meet
          case rel => exact ⟨by rw [HNN.out]; exact hg8, hx78⟩
        | false =>
          have HNN : Hid (noneL p5 = p5) := if_neg (by simpa using HT5.out)
          go_wp2_with (refine store_field rfl 9 (.tmp 64) (.tmp 63) rfl w7.heap.size 5 rfl (S8 p5) rfl rfl _ _ hg8 (Nat.le_of_ble_eq_true rfl) size_str #[.int .i64 m0, .int .i64 m1, .int .i64 m2, .int .i64 m3, .int .i64 m4, S8 p5, .slice va bd.length vc] (by simp) ?_; intro w9 hg9 hgr9)
          go_meet
          case rel => exact ⟨by rw [HNN.out]; exact hg9, Ext.but hx78 hgr9 (Nat.le_refl _)⟩
      case rest =>
        obtain ⟨hg9, hx9⟩ := hcut
        obtain ⟨w9, rfl⟩ : ∃ w9 : World, w9 = wc := ⟨_, rfl⟩
        obtain ⟨d0, d1, d2, d3, d4, d5, d6⟩ := cellsAt7 hg9
        have hltw : w.heap.size < w7.heap.size := (Array.getElem?_eq_some_iff.1 HGW7.out).1
        have c59 := hx9.cell c57
        have hrow := hx9.row HGW7.out
        have HROW : Hid _ := hrow
        have HX9 : Hid _ := hx9
        have HNL : Hid ((noneL p5).length ≤ l.length) := Nat.le_trans (noneL_le p5) hp5l
        generalize hq5 : noneL p5 = q5 at *
        clear hrow hx9 hg9 c58 c57 hg8 hx78 hq5
        go_wp2_with fail
        cases good with
        | false =>
          apply wp_region_late (w.heap.size) (.cells #[.int .i64 m0, .int .i64 m1, .int .i64 m2, .int .i64 m3, .int .i64 m4, S8 q5, .slice va bd.length vc] 64 (0, 0)) 12 [.agg #[.int .i64 m0, .int .i64 m1, .int .i64 m2, .int .i64 m3, .int .i64 m4, S8 q5, .slice va bd.length vc], _, _, _, _, _, _, _, _, _, _, undef] [none, none, none, none, none, none, none, none, none, none, none, some (fun _ w' => w'.heap[w.heap.size]? = some (.cells #[.int .i64 m0, .int .i64 m1, .int .i64 m2, .int .i64 m3, .int .i64 m4, S8 q5, .slice va bd.length vc] 64 (0, 0)))] [[], [], [1], [2], [2, 3], [4], [5], [5, 6], [5, 7], [5, 8], [5, 9], [0]] (by kernel_rfl) (by kernel_rfl) (by simp [mixV])
          · refine ⟨?_, trivial⟩
            · exact fun _ _ _ he h => he.once h
          · simp (maxSteps := 1000000) only [List.take_succ_cons, List.take_zero, oblFrom, stepObl, fillFrom, Act.put, List.setIfInBounds_toArray, List.set_cons_zero, List.set_cons_succ, knows, getV, mixV, List.getD_cons_zero, List.getD_cons_succ, and_true, true_and, forall_const]
            refine ⟨?_, ?_, ?_, ?_, ?_, ?_, ?_, ?_, ?_, ?_, ?_, ?_⟩
            · intro xs wq hq R hR
              have f0 := hq.cell d0 (by omega); have f1 := hq.cell d1 (by omega); have f2 := hq.cell d2 (by omega); have f3 := hq.cell d3 (by omega); have f4 := hq.cell d4 (by omega); have f5 := hq.cell d5 (by omega); have f6 := hq.cell d6 (by omega); have f7 := hq.cell c59 hbne
              go_simp
              exact hR _ _ (Late.refl _ _ _) rfl
            · intro xs wq hq R hR
              have f0 := hq.cell d0 (by omega); have f1 := hq.cell d1 (by omega); have f2 := hq.cell d2 (by omega); have f3 := hq.cell d3 (by omega); have f4 := hq.cell d4 (by omega); have f5 := hq.cell d5 (by omega); have f6 := hq.cell d6 (by omega); have f7 := hq.cell c59 hbne
              go_simp
              exact hR _ _ (Late.refl _ _ _) rfl
            · intro xs wq hq hk R hR
              have f0 := hq.cell d0 (by omega); have f1 := hq.cell d1 (by omega); have f2 := hq.cell d2 (by omega); have f3 := hq.cell d3 (by omega); have f4 := hq.cell d4 (by omega); have f5 := hq.cell d5 (by omega); have f6 := hq.cell d6 (by omega); have f7 := hq.cell c59 hbne
              go_simp
              exact hR _ _ (Late.refl _ _ _) rfl
            · intro xs wq hq hk R hR
              have f0 := hq.cell d0 (by omega); have f1 := hq.cell d1 (by omega); have f2 := hq.cell d2 (by omega); have f3 := hq.cell d3 (by omega); have f4 := hq.cell d4 (by omega); have f5 := hq.cell d5 (by omega); have f6 := hq.cell d6 (by omega); have f7 := hq.cell c59 hbne
              go_simp
              exact hR _ _ (Late.refl _ _ _) rfl
            · intro xs wq hq hk R hR
              obtain ⟨hk0, hk1⟩ := hk
              have f0 := hq.cell d0 (by omega); have f1 := hq.cell d1 (by omega); have f2 := hq.cell d2 (by omega); have f3 := hq.cell d3 (by omega); have f4 := hq.cell d4 (by omega); have f5 := hq.cell d5 (by omega); have f6 := hq.cell d6 (by omega); have f7 := hq.cell c59 hbne
              go_simp
              exact hR _ _ (Late.refl _ _ _) rfl
            · intro xs wq hq hk R hR
              have f0 := hq.cell d0 (by omega); have f1 := hq.cell d1 (by omega); have f2 := hq.cell d2 (by omega); have f3 := hq.cell d3 (by omega); have f4 := hq.cell d4 (by omega); have f5 := hq.cell d5 (by omega); have f6 := hq.cell d6 (by omega); have f7 := hq.cell c59 hbne
              go_simp
              exact hR _ _ (Late.refl _ _ _) rfl
            · intro xs wq hq hk R hR
              have f0 := hq.cell d0 (by omega); have f1 := hq.cell d1 (by omega); have f2 := hq.cell d2 (by omega); have f3 := hq.cell d3 (by omega); have f4 := hq.cell d4 (by omega); have f5 := hq.cell d5 (by omega); have f6 := hq.cell d6 (by omega); have f7 := hq.cell c59 hbne
              go_simp
              exact hR _ _ (Late.refl _ _ _) rfl
            · intro xs wq hq hk R hR
              obtain ⟨hk0, hk1⟩ := hk
              have f0 := hq.cell d0 (by omega); have f1 := hq.cell d1 (by omega); have f2 := hq.cell d2 (by omega); have f3 := hq.cell d3 (by omega); have f4 := hq.cell d4 (by omega); have f5 := hq.cell d5 (by omega); have f6 := hq.cell d6 (by omega); have f7 := hq.cell c59 hbne
              go_simp
              exact hR _ _ (Late.refl _ _ _) rfl
            · intro xs wq hq hk R hR
              obtain ⟨hk0, hk1⟩ := hk
              have f0 := hq.cell d0 (by omega); have f1 := hq.cell d1 (by omega); have f2 := hq.cell d2 (by omega); have f3 := hq.cell d3 (by omega); have f4 := hq.cell d4 (by omega); have f5 := hq.cell d5 (by omega); have f6 := hq.cell d6 (by omega); have f7 := hq.cell c59 hbne
              go_simp
              exact hR _ _ (Late.refl _ _ _) rfl
            · intro xs wq hq hk R hR
              obtain ⟨hk0, hk1⟩ := hk
              have f0 := hq.cell d0 (by omega); have f1 := hq.cell d1 (by omega); have f2 := hq.cell d2 (by omega); have f3 := hq.cell d3 (by omega); have f4 := hq.cell d4 (by omega); have f5 := hq.cell d5 (by omega); have f6 := hq.cell d6 (by omega); have f7 := hq.cell c59 hbne
              go_simp
              exact hR _ _ (Late.refl _ _ _) rfl
            · intro xs wq hq hk R hR
              obtain ⟨hk0, hk1⟩ := hk
              have f0 := hq.cell d0 (by omega); have f1 := hq.cell d1 (by omega); have f2 := hq.cell d2 (by omega); have f3 := hq.cell d3 (by omega); have f4 := hq.cell d4 (by omega); have f5 := hq.cell d5 (by omega); have f6 := hq.cell d6 (by omega); have f7 := hq.cell c59 hbne
              go_simp
              exact hR _ _ (Late.refl _ _ _) rfl
            · intro xs wq hq hk R hR
              obtain ⟨cur, hcur, hcs⟩ := hq.at HROW.out rfl
              exact obl_store_row rfl 64 (.tmp 2) (.tmp 65) rfl w.heap.size #[.int .i64 m0, .int .i64 m1, .int .i64 m2, .int .i64 m3, .int .i64 m4, S8 q5, .slice va bd.length vc] rfl (by exact hk) 64 cur hcur sizeRe hcs (by simp [Value.oneCell']) (hR _ _ (Late.store hcur) (setRow_heap _ _ _ _ _ _ hcur))
          intro xs w10 hx10 hk
          simp only [heldV, Nat.zero_add, Nat.reduceAdd, and_true] at hk
          obtain ⟨q0, q1, q2, q3, q4, q5, q6, q7, q8, q9, q10, q11⟩ := hk
          simp (maxSteps := 1000000) only [List.take_succ_cons, List.take_zero, List.drop_succ_cons, List.drop_zero, fillFrom, Act.put, List.setIfInBounds_toArray, List.set_cons_zero, List.set_cons_succ, Nat.zero_add, Nat.reduceAdd, q0, q1, q2, q3, q4, q5, q6, q7, q8, q9, q10]
          clear q0 q1 q2 q3 q4 q5 q6 q7 q8 q9 q10
          generalize xs 11 = x11 at *
          go_wp2
          refine bodyPost_ret (results_row_tmp rfl _ _ w.heap.size 64 #[.int .i64 m0, .int .i64 m1, .int .i64 m2, .int .i64 m3, .int .i64 m4, S8 q5, .slice va bd.length vc] (0, 0) _ (.bool false) rfl rfl q11 Tryd.underlying64 sizeRe) rfl ?_
          exact ev_done (hx02.trans (hx27.trans HX9.out)) HROW.out (IsBytes.ext HB.out HX9.out) (Typed.keep HT.out (Keep.of_ext HX9.out)) hx10 (HI.out m0 (by simp)) (HI.out m1 (by simp)) (HI.out m2 (by simp)) (HI.out m3 (by simp)) (HI.out m4 (by simp)) HNL.out (by omega) false fun x' h1 h2 h3 => by
            obtain ⟨k1, k2, k3, k4⟩ := HFIN.out x' h1 h2 h3
            cases k1
        | true =>
          cases ok2 with
          | false =>
            apply wp_region_late (w.heap.size) (.cells #[.int .i64 m0, .int .i64 m1, .int .i64 m2, .int .i64 m3, .int .i64 m4, S8 q5, .slice va bd.length vc] 64 (0, 0)) 12 [.agg #[.int .i64 m0, .int .i64 m1, .int .i64 m2, .int .i64 m3, .int .i64 m4, S8 q5, .slice va bd.length vc], _, _, _, _, _, _, _, _, _, _, undef] [none, none, none, none, none, none, none, none, none, none, none, some (fun _ w' => w'.heap[w.heap.size]? = some (.cells #[.int .i64 m0, .int .i64 m1, .int .i64 m2, .int .i64 m3, .int .i64 m4, S8 q5, .slice va bd.length vc] 64 (0, 0)))] [[], [], [1], [2], [2, 3], [4], [5], [5, 6], [5, 7], [5, 8], [5, 9], [0]] (by kernel_rfl) (by kernel_rfl) (by simp [mixV])
            · refine ⟨?_, trivial⟩
              · exact fun _ _ _ he h => he.once h
            · simp (maxSteps := 1000000) only [List.take_succ_cons, List.take_zero, oblFrom, stepObl, fillFrom, Act.put, List.setIfInBounds_toArray, List.set_cons_zero, List.set_cons_succ, knows, getV, mixV, List.getD_cons_zero, List.getD_cons_succ, and_true, true_and, forall_const]
              refine ⟨?_, ?_, ?_, ?_, ?_, ?_, ?_, ?_, ?_, ?_, ?_, ?_⟩
              · intro xs wq hq R hR
                have f0 := hq.cell d0 (by omega); have f1 := hq.cell d1 (by omega); have f2 := hq.cell d2 (by omega); have f3 := hq.cell d3 (by omega); have f4 := hq.cell d4 (by omega); have f5 := hq.cell d5 (by omega); have f6 := hq.cell d6 (by omega); have f7 := hq.cell c59 hbne
                go_simp
                exact hR _ _ (Late.refl _ _ _) rfl
              · intro xs wq hq R hR
                have f0 := hq.cell d0 (by omega); have f1 := hq.cell d1 (by omega); have f2 := hq.cell d2 (by omega); have f3 := hq.cell d3 (by omega); have f4 := hq.cell d4 (by omega); have f5 := hq.cell d5 (by omega); have f6 := hq.cell d6 (by omega); have f7 := hq.cell c59 hbne
                go_simp
                exact hR _ _ (Late.refl _ _ _) rfl
              · intro xs wq hq hk R hR
                have f0 := hq.cell d0 (by omega); have f1 := hq.cell d1 (by omega); have f2 := hq.cell d2 (by omega); have f3 := hq.cell d3 (by omega); have f4 := hq.cell d4 (by omega); have f5 := hq.cell d5 (by omega); have f6 := hq.cell d6 (by omega); have f7 := hq.cell c59 hbne
                go_simp
                exact hR _ _ (Late.refl _ _ _) rfl
              · intro xs wq hq hk R hR
                have f0 := hq.cell d0 (by omega); have f1 := hq.cell d1 (by omega); have f2 := hq.cell d2 (by omega); have f3 := hq.cell d3 (by omega); have f4 := hq.cell d4 (by omega); have f5 := hq.cell d5 (by omega); have f6 := hq.cell d6 (by omega); have f7 := hq.cell c59 hbne
                go_simp
                exact hR _ _ (Late.refl _ _ _) rfl
              · intro xs wq hq hk R hR
                obtain ⟨hk0, hk1⟩ := hk
                have f0 := hq.cell d0 (by omega); have f1 := hq.cell d1 (by omega); have f2 := hq.cell d2 (by omega); have f3 := hq.cell d3 (by omega); have f4 := hq.cell d4 (by omega); have f5 := hq.cell d5 (by omega); have f6 := hq.cell d6 (by omega); have f7 := hq.cell c59 hbne
                go_simp
                exact hR _ _ (Late.refl _ _ _) rfl
              · intro xs wq hq hk R hR
                have f0 := hq.cell d0 (by omega); have f1 := hq.cell d1 (by omega); have f2 := hq.cell d2 (by omega); have f3 := hq.cell d3 (by omega); have f4 := hq.cell d4 (by omega); have f5 := hq.cell d5 (by omega); have f6 := hq.cell d6 (by omega); have f7 := hq.cell c59 hbne
                go_simp
                exact hR _ _ (Late.refl _ _ _) rfl
              · intro xs wq hq hk R hR
                have f0 := hq.cell d0 (by omega); have f1 := hq.cell d1 (by omega); have f2 := hq.cell d2 (by omega); have f3 := hq.cell d3 (by omega); have f4 := hq.cell d4 (by omega); have f5 := hq.cell d5 (by omega); have f6 := hq.cell d6 (by omega); have f7 := hq.cell c59 hbne
                go_simp
                exact hR _ _ (Late.refl _ _ _) rfl
              · intro xs wq hq hk R hR
                obtain ⟨hk0, hk1⟩ := hk
                have f0 := hq.cell d0 (by omega); have f1 := hq.cell d1 (by omega); have f2 := hq.cell d2 (by omega); have f3 := hq.cell d3 (by omega); have f4 := hq.cell d4 (by omega); have f5 := hq.cell d5 (by omega); have f6 := hq.cell d6 (by omega); have f7 := hq.cell c59 hbne
                go_simp
                exact hR _ _ (Late.refl _ _ _) rfl
              · intro xs wq hq hk R hR
                obtain ⟨hk0, hk1⟩ := hk
                have f0 := hq.cell d0 (by omega); have f1 := hq.cell d1 (by omega); have f2 := hq.cell d2 (by omega); have f3 := hq.cell d3 (by omega); have f4 := hq.cell d4 (by omega); have f5 := hq.cell d5 (by omega); have f6 := hq.cell d6 (by omega); have f7 := hq.cell c59 hbne
                go_simp
                exact hR _ _ (Late.refl _ _ _) rfl
              · intro xs wq hq hk R hR
                obtain ⟨hk0, hk1⟩ := hk
                have f0 := hq.cell d0 (by omega); have f1 := hq.cell d1 (by omega); have f2 := hq.cell d2 (by omega); have f3 := hq.cell d3 (by omega); have f4 := hq.cell d4 (by omega); have f5 := hq.cell d5 (by omega); have f6 := hq.cell d6 (by omega); have f7 := hq.cell c59 hbne
                go_simp
                exact hR _ _ (Late.refl _ _ _) rfl
              · intro xs wq hq hk R hR
                obtain ⟨hk0, hk1⟩ := hk
                have f0 := hq.cell d0 (by omega); have f1 := hq.cell d1 (by omega); have f2 := hq.cell d2 (by omega); have f3 := hq.cell d3 (by omega); have f4 := hq.cell d4 (by omega); have f5 := hq.cell d5 (by omega); have f6 := hq.cell d6 (by omega); have f7 := hq.cell c59 hbne
                go_simp
                exact hR _ _ (Late.refl _ _ _) rfl
              · intro xs wq hq hk R hR
                obtain ⟨cur, hcur, hcs⟩ := hq.at HROW.out rfl
                exact obl_store_row rfl 64 (.tmp 2) (.tmp 65) rfl w.heap.size #[.int .i64 m0, .int .i64 m1, .int .i64 m2, .int .i64 m3, .int .i64 m4, S8 q5, .slice va bd.length vc] rfl (by exact hk) 64 cur hcur sizeRe hcs (by simp [Value.oneCell']) (hR _ _ (Late.store hcur) (setRow_heap _ _ _ _ _ _ hcur))
            intro xs w10 hx10 hk
            simp only [heldV, Nat.zero_add, Nat.reduceAdd, and_true] at hk
            obtain ⟨q0, q1, q2, q3, q4, q5, q6, q7, q8, q9, q10, q11⟩ := hk
            simp (maxSteps := 1000000) only [List.take_succ_cons, List.take_zero, List.drop_succ_cons, List.drop_zero, fillFrom, Act.put, List.setIfInBounds_toArray, List.set_cons_zero, List.set_cons_succ, Nat.zero_add, Nat.reduceAdd, q0, q1, q2, q3, q4, q5, q6, q7, q8, q9, q10]
            clear q0 q1 q2 q3 q4 q5 q6 q7 q8 q9 q10
            generalize xs 11 = x11 at *
            go_wp2
            refine bodyPost_ret (results_row_tmp rfl _ _ w.heap.size 64 #[.int .i64 m0, .int .i64 m1, .int .i64 m2, .int .i64 m3, .int .i64 m4, S8 q5, .slice va bd.length vc] (0, 0) _ (.bool false) rfl rfl q11 Tryd.underlying64 sizeRe) rfl ?_
            exact ev_done (hx02.trans (hx27.trans HX9.out)) HROW.out (IsBytes.ext HB.out HX9.out) (Typed.keep HT.out (Keep.of_ext HX9.out)) hx10 (HI.out m0 (by simp)) (HI.out m1 (by simp)) (HI.out m2 (by simp)) (HI.out m3 (by simp)) (HI.out m4 (by simp)) HNL.out (by omega) false fun x' h1 h2 h3 => by
              obtain ⟨k1, k2, k3, k4⟩ := HFIN.out x' h1 h2 h3
              cases k2
          | true =>
            by_cases hp0 : p5 = []
            · subst hp0
              apply wp_region_late (w.heap.size) (.cells #[.int .i64 m0, .int .i64 m1, .int .i64 m2, .int .i64 m3, .int .i64 m4, S8 q5, .slice va bd.length vc] 64 (0, 0)) 12 [.agg #[.int .i64 m0, .int .i64 m1, .int .i64 m2, .int .i64 m3, .int .i64 m4, S8 q5, .slice va bd.length vc], _, _, _, _, _, _, _, _, _, _, undef] [none, none, none, none, none, none, none, none, none, none, none, some (fun _ w' => w'.heap[w.heap.size]? = some (.cells #[.int .i64 m0, .int .i64 m1, .int .i64 m2, .int .i64 m3, .int .i64 m4, S8 q5, .slice va bd.length vc] 64 (0, 0)))] [[], [], [1], [2], [2, 3], [4], [5], [5, 6], [5, 7], [5, 8], [5, 9], [0]] (by kernel_rfl) (by kernel_rfl) (by simp [mixV])
              · refine ⟨?_, trivial⟩
                · exact fun _ _ _ he h => he.once h
              · simp (maxSteps := 1000000) only [List.take_succ_cons, List.take_zero, oblFrom, stepObl, fillFrom, Act.put, List.setIfInBounds_toArray, List.set_cons_zero, List.set_cons_succ, knows, getV, mixV, List.getD_cons_zero, List.getD_cons_succ, and_true, true_and, forall_const]
                refine ⟨?_, ?_, ?_, ?_, ?_, ?_, ?_, ?_, ?_, ?_, ?_, ?_⟩
                · intro xs wq hq R hR
                  have f0 := hq.cell d0 (by omega); have f1 := hq.cell d1 (by omega); have f2 := hq.cell d2 (by omega); have f3 := hq.cell d3 (by omega); have f4 := hq.cell d4 (by omega); have f5 := hq.cell d5 (by omega); have f6 := hq.cell d6 (by omega); have f7 := hq.cell c59 hbne
                  go_simp
                  exact hR _ _ (Late.refl _ _ _) rfl
                · intro xs wq hq R hR
                  have f0 := hq.cell d0 (by omega); have f1 := hq.cell d1 (by omega); have f2 := hq.cell d2 (by omega); have f3 := hq.cell d3 (by omega); have f4 := hq.cell d4 (by omega); have f5 := hq.cell d5 (by omega); have f6 := hq.cell d6 (by omega); have f7 := hq.cell c59 hbne
                  go_simp
                  exact hR _ _ (Late.refl _ _ _) rfl
                · intro xs wq hq hk R hR
                  have f0 := hq.cell d0 (by omega); have f1 := hq.cell d1 (by omega); have f2 := hq.cell d2 (by omega); have f3 := hq.cell d3 (by omega); have f4 := hq.cell d4 (by omega); have f5 := hq.cell d5 (by omega); have f6 := hq.cell d6 (by omega); have f7 := hq.cell c59 hbne
                  go_simp
                  exact hR _ _ (Late.refl _ _ _) rfl
                · intro xs wq hq hk R hR
                  have f0 := hq.cell d0 (by omega); have f1 := hq.cell d1 (by omega); have f2 := hq.cell d2 (by omega); have f3 := hq.cell d3 (by omega); have f4 := hq.cell d4 (by omega); have f5 := hq.cell d5 (by omega); have f6 := hq.cell d6 (by omega); have f7 := hq.cell c59 hbne
                  go_simp
                  exact hR _ _ (Late.refl _ _ _) rfl
                · intro xs wq hq hk R hR
                  obtain ⟨hk0, hk1⟩ := hk
                  have f0 := hq.cell d0 (by omega); have f1 := hq.cell d1 (by omega); have f2 := hq.cell d2 (by omega); have f3 := hq.cell d3 (by omega); have f4 := hq.cell d4 (by omega); have f5 := hq.cell d5 (by omega); have f6 := hq.cell d6 (by omega); have f7 := hq.cell c59 hbne
                  go_simp
                  exact hR _ _ (Late.refl _ _ _) rfl
                · intro xs wq hq hk R hR
                  have f0 := hq.cell d0 (by omega); have f1 := hq.cell d1 (by omega); have f2 := hq.cell d2 (by omega); have f3 := hq.cell d3 (by omega); have f4 := hq.cell d4 (by omega); have f5 := hq.cell d5 (by omega); have f6 := hq.cell d6 (by omega); have f7 := hq.cell c59 hbne
                  go_simp
                  exact hR _ _ (Late.refl _ _ _) rfl
                · intro xs wq hq hk R hR
                  have f0 := hq.cell d0 (by omega); have f1 := hq.cell d1 (by omega); have f2 := hq.cell d2 (by omega); have f3 := hq.cell d3 (by omega); have f4 := hq.cell d4 (by omega); have f5 := hq.cell d5 (by omega); have f6 := hq.cell d6 (by omega); have f7 := hq.cell c59 hbne
                  go_simp
                  exact hR _ _ (Late.refl _ _ _) rfl
                · intro xs wq hq hk R hR
                  obtain ⟨hk0, hk1⟩ := hk
                  have f0 := hq.cell d0 (by omega); have f1 := hq.cell d1 (by omega); have f2 := hq.cell d2 (by omega); have f3 := hq.cell d3 (by omega); have f4 := hq.cell d4 (by omega); have f5 := hq.cell d5 (by omega); have f6 := hq.cell d6 (by omega); have f7 := hq.cell c59 hbne
                  go_simp
                  exact hR _ _ (Late.refl _ _ _) rfl
                · intro xs wq hq hk R hR
                  obtain ⟨hk0, hk1⟩ := hk
                  have f0 := hq.cell d0 (by omega); have f1 := hq.cell d1 (by omega); have f2 := hq.cell d2 (by omega); have f3 := hq.cell d3 (by omega); have f4 := hq.cell d4 (by omega); have f5 := hq.cell d5 (by omega); have f6 := hq.cell d6 (by omega); have f7 := hq.cell c59 hbne
                  go_simp
                  exact hR _ _ (Late.refl _ _ _) rfl
                · intro xs wq hq hk R hR
                  obtain ⟨hk0, hk1⟩ := hk
                  have f0 := hq.cell d0 (by omega); have f1 := hq.cell d1 (by omega); have f2 := hq.cell d2 (by omega); have f3 := hq.cell d3 (by omega); have f4 := hq.cell d4 (by omega); have f5 := hq.cell d5 (by omega); have f6 := hq.cell d6 (by omega); have f7 := hq.cell c59 hbne
                  go_simp
                  exact hR _ _ (Late.refl _ _ _) rfl
                · intro xs wq hq hk R hR
                  obtain ⟨hk0, hk1⟩ := hk
                  have f0 := hq.cell d0 (by omega); have f1 := hq.cell d1 (by omega); have f2 := hq.cell d2 (by omega); have f3 := hq.cell d3 (by omega); have f4 := hq.cell d4 (by omega); have f5 := hq.cell d5 (by omega); have f6 := hq.cell d6 (by omega); have f7 := hq.cell c59 hbne
                  go_simp
                  exact hR _ _ (Late.refl _ _ _) rfl
                · intro xs wq hq hk R hR
                  obtain ⟨cur, hcur, hcs⟩ := hq.at HROW.out rfl
                  exact obl_store_row rfl 64 (.tmp 2) (.tmp 65) rfl w.heap.size #[.int .i64 m0, .int .i64 m1, .int .i64 m2, .int .i64 m3, .int .i64 m4, S8 q5, .slice va bd.length vc] rfl (by exact hk) 64 cur hcur sizeRe hcs (by simp [Value.oneCell']) (hR _ _ (Late.store hcur) (setRow_heap _ _ _ _ _ _ hcur))
              intro xs w10 hx10 hk
              simp only [heldV, Nat.zero_add, Nat.reduceAdd, and_true] at hk
              obtain ⟨q0, q1, q2, q3, q4, q5, q6, q7, q8, q9, q10, q11⟩ := hk
              simp (maxSteps := 1000000) only [List.take_succ_cons, List.take_zero, List.drop_succ_cons, List.drop_zero, fillFrom, Act.put, List.setIfInBounds_toArray, List.set_cons_zero, List.set_cons_succ, Nat.zero_add, Nat.reduceAdd, q0, q1, q2, q3, q4, q5, q6, q7, q8, q9, q10]
              clear q0 q1 q2 q3 q4 q5 q6 q7 q8 q9 q10
              generalize xs 11 = x11 at *
              go_wp2
              refine bodyPost_ret (results_row_tmp rfl _ _ w.heap.size 64 #[.int .i64 m0, .int .i64 m1, .int .i64 m2, .int .i64 m3, .int .i64 m4, S8 q5, .slice va bd.length vc] (0, 0) _ (.bool false) rfl rfl q11 Tryd.underlying64 sizeRe) rfl ?_
              exact ev_done (hx02.trans (hx27.trans HX9.out)) HROW.out (IsBytes.ext HB.out HX9.out) (Typed.keep HT.out (Keep.of_ext HX9.out)) hx10 (HI.out m0 (by simp)) (HI.out m1 (by simp)) (HI.out m2 (by simp)) (HI.out m3 (by simp)) (HI.out m4 (by simp)) HNL.out (by omega) false fun x' h1 h2 h3 => by
                obtain ⟨k1, k2, k3, k4⟩ := HFIN.out x' h1 h2 h3
                exact (k3 rfl).elim
            · have hpb : (p5 == []) = false := by simpa using hp0
              have hpb' : (p5 != []) = true := by simpa using hp0
              have hpe : p5.isEmpty = false := by cases p5 <;> simp_all
              apply wp_region_late (w.heap.size) (.cells #[.int .i64 m0, .int .i64 m1, .int .i64 m2, .int .i64 m3, .int .i64 m4, S8 q5, .slice va bd.length vc] 64 (0, 0)) 12 [.agg #[.int .i64 m0, .int .i64 m1, .int .i64 m2, .int .i64 m3, .int .i64 m4, S8 q5, .slice va bd.length vc], _, _, _, _, _, _, _, _, .bool true, _, undef] [none, none, none, none, none, none, none, none, none, none, none, some (fun _ w' => w'.heap[w.heap.size]? = some (.cells #[.int .i64 m0, .int .i64 m1, .int .i64 m2, .int .i64 m3, .int .i64 m4, S8 q5, .slice va bd.length vc] 64 (0, 0)))] [[], [], [1], [2], [2, 3], [4], [5], [5, 6], [5, 7], [5, 8], [5, 9], [0]] (by kernel_rfl) (by kernel_rfl) (by simp [mixV])
              · refine ⟨?_, trivial⟩
                · exact fun _ _ _ he h => he.once h
              · simp (maxSteps := 1000000) only [List.take_succ_cons, List.take_zero, oblFrom, stepObl, fillFrom, Act.put, List.setIfInBounds_toArray, List.set_cons_zero, List.set_cons_succ, knows, getV, mixV, List.getD_cons_zero, List.getD_cons_succ, and_true, true_and, forall_const]
                refine ⟨?_, ?_, ?_, ?_, ?_, ?_, ?_, ?_, ?_, ?_, ?_, ?_⟩
                · intro xs wq hq R hR
                  have f0 := hq.cell d0 (by omega); have f1 := hq.cell d1 (by omega); have f2 := hq.cell d2 (by omega); have f3 := hq.cell d3 (by omega); have f4 := hq.cell d4 (by omega); have f5 := hq.cell d5 (by omega); have f6 := hq.cell d6 (by omega); have f7 := hq.cell c59 hbne
                  go_simp
                  exact hR _ _ (Late.refl _ _ _) rfl
                · intro xs wq hq R hR
                  have f0 := hq.cell d0 (by omega); have f1 := hq.cell d1 (by omega); have f2 := hq.cell d2 (by omega); have f3 := hq.cell d3 (by omega); have f4 := hq.cell d4 (by omega); have f5 := hq.cell d5 (by omega); have f6 := hq.cell d6 (by omega); have f7 := hq.cell c59 hbne
                  go_simp
                  exact hR _ _ (Late.refl _ _ _) rfl
                · intro xs wq hq hk R hR
                  have f0 := hq.cell d0 (by omega); have f1 := hq.cell d1 (by omega); have f2 := hq.cell d2 (by omega); have f3 := hq.cell d3 (by omega); have f4 := hq.cell d4 (by omega); have f5 := hq.cell d5 (by omega); have f6 := hq.cell d6 (by omega); have f7 := hq.cell c59 hbne
                  go_simp
                  exact hR _ _ (Late.refl _ _ _) rfl
                · intro xs wq hq hk R hR
                  have f0 := hq.cell d0 (by omega); have f1 := hq.cell d1 (by omega); have f2 := hq.cell d2 (by omega); have f3 := hq.cell d3 (by omega); have f4 := hq.cell d4 (by omega); have f5 := hq.cell d5 (by omega); have f6 := hq.cell d6 (by omega); have f7 := hq.cell c59 hbne
                  go_simp
                  exact hR _ _ (Late.refl _ _ _) rfl
                · intro xs wq hq hk R hR
                  obtain ⟨hk0, hk1⟩ := hk
                  have f0 := hq.cell d0 (by omega); have f1 := hq.cell d1 (by omega); have f2 := hq.cell d2 (by omega); have f3 := hq.cell d3 (by omega); have f4 := hq.cell d4 (by omega); have f5 := hq.cell d5 (by omega); have f6 := hq.cell d6 (by omega); have f7 := hq.cell c59 hbne
                  go_simp
                  exact hR _ _ (Late.refl _ _ _) rfl
                · intro xs wq hq hk R hR
                  have f0 := hq.cell d0 (by omega); have f1 := hq.cell d1 (by omega); have f2 := hq.cell d2 (by omega); have f3 := hq.cell d3 (by omega); have f4 := hq.cell d4 (by omega); have f5 := hq.cell d5 (by omega); have f6 := hq.cell d6 (by omega); have f7 := hq.cell c59 hbne
                  go_simp
                  exact hR _ _ (Late.refl _ _ _) rfl
                · intro xs wq hq hk R hR
                  have f0 := hq.cell d0 (by omega); have f1 := hq.cell d1 (by omega); have f2 := hq.cell d2 (by omega); have f3 := hq.cell d3 (by omega); have f4 := hq.cell d4 (by omega); have f5 := hq.cell d5 (by omega); have f6 := hq.cell d6 (by omega); have f7 := hq.cell c59 hbne
                  go_simp
                  exact hR _ _ (Late.refl _ _ _) rfl
                · intro xs wq hq hk R hR
                  obtain ⟨hk0, hk1⟩ := hk
                  have f0 := hq.cell d0 (by omega); have f1 := hq.cell d1 (by omega); have f2 := hq.cell d2 (by omega); have f3 := hq.cell d3 (by omega); have f4 := hq.cell d4 (by omega); have f5 := hq.cell d5 (by omega); have f6 := hq.cell d6 (by omega); have f7 := hq.cell c59 hbne
                  go_simp
                  exact hR _ _ (Late.refl _ _ _) rfl
                · intro xs wq hq hk R hR
                  obtain ⟨hk0, hk1⟩ := hk
                  have f0 := hq.cell d0 (by omega); have f1 := hq.cell d1 (by omega); have f2 := hq.cell d2 (by omega); have f3 := hq.cell d3 (by omega); have f4 := hq.cell d4 (by omega); have f5 := hq.cell d5 (by omega); have f6 := hq.cell d6 (by omega); have f7 := hq.cell c59 hbne
                  go_simp
                  exact hR _ _ (Late.refl _ _ _) rfl
                · intro xs wq hq hk R hR
                  obtain ⟨hk0, hk1⟩ := hk
                  have f0 := hq.cell d0 (by omega); have f1 := hq.cell d1 (by omega); have f2 := hq.cell d2 (by omega); have f3 := hq.cell d3 (by omega); have f4 := hq.cell d4 (by omega); have f5 := hq.cell d5 (by omega); have f6 := hq.cell d6 (by omega); have f7 := hq.cell c59 hbne
                  go_simp
                  exact hR _ _ (Late.refl _ _ _) rfl
                · intro xs wq hq hk R hR
                  obtain ⟨hk0, hk1⟩ := hk
                  have f0 := hq.cell d0 (by omega); have f1 := hq.cell d1 (by omega); have f2 := hq.cell d2 (by omega); have f3 := hq.cell d3 (by omega); have f4 := hq.cell d4 (by omega); have f5 := hq.cell d5 (by omega); have f6 := hq.cell d6 (by omega); have f7 := hq.cell c59 hbne
                  go_simp
                  exact hR _ _ (Late.refl _ _ _) rfl
                · intro xs wq hq hk R hR
                  obtain ⟨cur, hcur, hcs⟩ := hq.at HROW.out rfl
                  exact obl_store_row rfl 64 (.tmp 2) (.tmp 65) rfl w.heap.size #[.int .i64 m0, .int .i64 m1, .int .i64 m2, .int .i64 m3, .int .i64 m4, S8 q5, .slice va bd.length vc] rfl (by exact hk) 64 cur hcur sizeRe hcs (by simp [Value.oneCell']) (hR _ _ (Late.store hcur) (setRow_heap _ _ _ _ _ _ hcur))
              intro xs w10 hx10 hk
              simp only [heldV, Nat.zero_add, Nat.reduceAdd, and_true] at hk
              obtain ⟨q0, q1, q2, q3, q4, q5, q6, q7, q8, q9, q10, q11⟩ := hk
              simp (maxSteps := 1000000) only [List.take_succ_cons, List.take_zero, List.drop_succ_cons, List.drop_zero, fillFrom, Act.put, List.setIfInBounds_toArray, List.set_cons_zero, List.set_cons_succ, Nat.zero_add, Nat.reduceAdd, q0, q1, q2, q3, q4, q5, q6, q7, q8, q9, q10]
              clear q0 q1 q2 q3 q4 q5 q6 q7 q8 q9 q10
              generalize xs 11 = x11 at *
              go_wp2
              refine bodyPost_ret (results_row_tmp rfl _ _ w.heap.size 64 #[.int .i64 m0, .int .i64 m1, .int .i64 m2, .int .i64 m3, .int .i64 m4, S8 q5, .slice va bd.length vc] (0, 0) _ (.bool true) rfl rfl q11 Tryd.underlying64 sizeRe) rfl ?_
              exact ev_done (hx02.trans (hx27.trans HX9.out)) HROW.out (IsBytes.ext HB.out HX9.out) (Typed.keep HT.out (Keep.of_ext HX9.out)) hx10 (HI.out m0 (by simp)) (HI.out m1 (by simp)) (HI.out m2 (by simp)) (HI.out m3 (by simp)) (HI.out m4 (by simp)) HNL.out (by omega) true fun x' h1 h2 h3 => by
                obtain ⟨k1, k2, k3, k4⟩ := HFIN.out x' h1 h2 h3
                exact ⟨rfl, k4⟩

theorem reventOf_any (l : B8) (w : World) (hl : l.length ≤ 1000000) :
    Calls Tryd.prog 28 #[S8 l] w fun e w' => Evented l e w' ∧ Ext w w' := by
  by_cases h : (cut 58 l).length = 7
  · exact reventOf_yes l w hl h
  · exact reventOf_no l w hl h

end Go.Proofs.YthfkohppillflaaDoor
