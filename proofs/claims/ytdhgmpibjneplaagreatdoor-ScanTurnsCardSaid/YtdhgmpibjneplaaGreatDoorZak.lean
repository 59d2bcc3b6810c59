/- names: Pattern, takes, Ignored. Conditions: texts of at most 1000000 signs. -/
import Derived.Test.YtdhgmpibjneplaaGreatDoorZaj
import Derived.Deep.DeepCutAuto
import Derived.Test.YtdhgmpibjneplaaGreatDoorZae
import Derived.Test.YtdhgmpibjneplaaGreatDoorZai
import Derived.Test.YtdhgmpibjneplaaGreatDoorZaf
import Derived.Test.YtdhgmpibjneplaaGreatDoorZab
import Derived.Test.YtdhgmpibjneplaaGreatDoorZaa

set_option linter.unusedVariables false
set_option linter.unusedSimpArgs false
set_option linter.unusedSectionVars false

/-! obj.Encode. Conditions: as each theorem states. -/
namespace Go.Proofs.YtdhgmpibjneplaaGreatDoor
open Go Go.RowKit
set_option linter.unusedVariables false
set_option linter.unusedSimpArgs false
set_option linter.unusedSectionVars false

theorem enc_len {x : Itm} (h : itemOk x = true) : (encItem x).length ≤ 200 := by
  unfold itemOk at h
  simp only [Bool.and_eq_true, decide_eq_true_eq] at h
  have h1 := name_len h.2.2.1
  have h2 := (raw_of h.2.2.2).1
  have h3 := putN_len9 (n := x.name.length) (by unfold maxW; omega)
  unfold encItem
  simp only [List.length_cons, List.length_append]
  omega
theorem encs_len : ∀ (l : List Itm) (k : Nat), (∀ x ∈ l, itemOk x = true) → ((l.take k).flatMap encItem).length ≤ 200 * k
  | l, 0, _ => by simp
  | [], k + 1, _ => by simp
  | x :: l, k + 1, h => by
    have h1 := enc_len (h x (by simp))
    have h2 := encs_len l k (fun y hy => h y (by simp [hy]))
    rw [List.take_succ_cons, List.flatMap_cons, List.length_append]
    omega
theorem mode_u8 {m : Int} (h1 : 1 ≤ m) (h2 : m ≤ 4) : IntKind.u8.wrap m = (((UInt8.ofNat m.toNat).toNat : Nat) : Int) := by
  rw [IntKind.wrap_u8, UInt8.toNat_ofNat']
  omega
theorem put_int (n : Int) (h0 : 0 ≤ n) (h : n ≤ maxW) : (putW n).1 = putN n.toNat := by
  unfold putW
  rw [if_neg (by omega)]
theorem raws_len : ∀ (l : List B8) (k : Nat), l.all validB = true → ((l.take k).flatMap rawH).length ≤ 32 * k
  | l, 0, _ => by simp
  | [], k + 1, _ => by simp
  | x :: l, k + 1, h => by
    simp only [List.all_cons, Bool.and_eq_true] at h
    have h1 := (raw_of h.1).1
    have h2 := raws_len l k h.2
    rw [List.take_succ_cons, List.flatMap_cons, List.length_append]
    omega
theorem put_nat (n : Nat) (h : n ≤ maxW) : (putW (n : Int)).1 = putN n := by
  unfold putW
  rw [if_neg (by omega)]
  rfl

set_option maxRecDepth 100000 in
set_option maxHeartbeats 16000000 in
theorem oEnc_any (v : Value) (o : Ob) (w : World) (hv : IsOb w v o) (hs : ObSmall o) :
    Calls Tryz.prog 71 #[v] w fun e w' => (∃ u, e = .returned (.tuple #[u, .int .i64 (encodeM o).2]) ∧ Ow w.heap.size w' u (encodeM o).1) ∧ Ext w w' := by
  have hv0 := hv
  obtain ⟨vd, vi, vp, rfl, hd, hi, hp⟩ := hv
  obtain ⟨wa, hwa⟩ : ∃ wa, wa = w.alloc (.cells #[.int .i64 o.kind, vd, vi, S8 o.tree, vp, .int .i64 o.stamp, .int .i64 o.author, S8 o.msg] 72) := ⟨_, rfl⟩
  have hxa : Ext w wa := by rw [hwa]; exact (Ext.refl _).alloc _
  have hba : wa.heap[w.heap.size]? = some (.cells #[.int .i64 o.kind, vd, vi, S8 o.tree, vp, .int .i64 o.stamp, .int .i64 o.author, S8 o.msg] 72 (0, 0)) := by rw [hwa]; exact alloc_at _ _
  obtain ⟨gb, hgb⟩ : ∃ gb, w.heap.size = gb := ⟨_, rfl⟩
  have HMY : Hid (Calls Tryz.prog 114 #[obV o vd vi vp] wa fun e w' => e = .returned (.bool (mayO o)) ∧ Ext wa w') := oMay_any _ o wa (hv0.ext hxa) hs
  have HD : Hid (IsBytes w vd o.data) := hd
  have HI : Hid (IsItms w vi o.items) := hi
  have HP : Hid (IsStrs w vp o.parents) := hp
  obtain ⟨da, dc, rfl, -, -, -, -⟩ := hd.get
  obtain ⟨ia, ic, rfl, i1, i2, i3, hig⟩ := hi.get
  have HIG : Hid _ := hig
  obtain ⟨pa, pc, rfl, p1, p2, p3, hpg⟩ := hp.get
  have HPG : Hid _ := hpg
  obtain ⟨m0, hm0⟩ : ∃ m, mayO o = m := ⟨_, rfl⟩
  rw [hm0] at HMY
  have HM0 : Hid _ := hm0
  unfold obV at HMY
  rw [hgb] at hba
  have HBA : Hid _ := hba
  have HXA : Hid (Ext w wa) := hxa
  have HWA : Hid _ := hwa
  obtain ⟨c0, c1, c2, c3, c4, c5, c6, c7⟩ := cellsAt8 hba
  obtain ⟨⟨qb, qe⟩, hq⟩ : ∃ q, encodeM o = q := ⟨_, rfl⟩
  rw [hq]
  have HQ : Hid _ := hq
  clear hv0 hd hi hp hig hpg hs hm0 hba hxa hwa hq
  go_enter Tryz.func71, Tryz.ntmps71
  go_upto_region 1 with fail
  rw [← HWA.out]
  go_wp2_with fail
  go_at_call 114
  refine Calls.mono HMY.out ?_
  rintro e9 w1 ⟨rfl, hx1⟩
  have HX1 : Hid (Ext w w1) := HXA.out.trans hx1
  have HB1 : Hid _ := Ext.row hx1 HBA.out
  have hgb1 : gb < w1.heap.size := (Array.getElem?_eq_some_iff.1 HB1.out).1
  obtain ⟨d0, d1, d2, d3, d4, d5, d6, d7⟩ := cellsAt8 HB1.out
  clear hx1 HMY
  cases m0 with
  | false =>
    obtain ⟨rfl, rfl⟩ : qb = [] ∧ qe = 1 := by
      have h9 := HQ.out
      unfold encodeM at h9
      rw [HM0.out] at h9
      exact ⟨(Prod.mk.inj h9).1.symm, (Prod.mk.inj h9).2.symm⟩
    go_wp2
    go_ret2
    exact ⟨⟨_, rfl, World.ownsRow_nil _ _ _ _⟩, HX1.out⟩
  | true =>
    obtain ⟨hqb, rfl⟩ : qb = encO o ∧ qe = 0 := by
      have h9 := HQ.out
      unfold encodeM at h9
      rw [HM0.out, if_pos rfl] at h9
      exact ⟨(Prod.mk.inj h9).1.symm, (Prod.mk.inj h9).2.symm⟩
    have HQB : Hid _ := hqb
    clear hqb HQ
    clear c0 c1 c2 c3 c4 c5 c6 c7
    obtain ⟨kind, data, items, tree, parents, stamp, author, msg⟩ := o
    have hk := may_kind HM0.out
    have HQB2 : Hid (qb = encO ⟨kind, data, items, tree, parents, stamp, author, msg⟩) := HQB.out
    clear HQB
    dsimp only at hk d0 d1 d2 d3 d4 d5 d6 d7 i1 i2 p1 p2 HIG HPG HD HI HP HB1
    rcases hk with rfl | rfl | rfl
    · have hdl : data.length ≤ 20000 := by
        have h9 := HM0.out
        unfold mayO at h9
        rw [if_pos rfl] at h9
        simp only [Bool.and_eq_true, decide_eq_true_eq] at h9
        exact h9.1
      have HEO : Hid (qb = [1] ++ data) := HQB2.out
      have HOW : Hid (Ow w1.heap.size (w1.alloc (.cells #[.int .u8 1] 5)) (.slice (some ⟨w1.heap.size, 0, none⟩) 1 1) [1]) := World.ownsRow_lit w1 _ 1 (Nat.le_refl _) (by decide) rfl
      go_wp2_with (at_builtin; go_must (refine app_bs rfl _ _ rfl rfl w1.heap.size _ [1] rfl HOW.out _ data rfl (IsBytes.ext HD.out (HX1.out.alloc _)) (by simp; omega) (by simp) ?_; intro v' w2 hown2 hg2 hn2))
      go_ret2
      exact ⟨⟨_, rfl, by rw [HEO.out]; exact hown2.mono HX1.out.size⟩, HX1.out.trans (owns_ext_app ((Ext.refl w1).alloc _) HOW.out hg2)⟩
    · have hmi : items.length ≤ 256 ∧ ∀ x ∈ items, itemOk x = true := by
        have h9 := HM0.out
        unfold mayO at h9
        rw [if_neg (show ¬ (2 : Int) = 1 by decide), if_pos rfl] at h9
        simp only [Bool.and_eq_true, itemsOk, List.all_eq_true, decide_eq_true_eq] at h9
        exact ⟨h9.2.1.2.2, h9.2.1.1⟩
      obtain ⟨hil, hio⟩ := hmi
      have HIO : Hid _ := hio
      have HEO : Hid (qb = [2] ++ putN items.length ++ items.flatMap encItem) := by
        unfold Hid
        rw [HQB2.out]
        show UInt8.ofNat 2 :: (putN items.length ++ items.flatMap encItem) = _
        simp
      have hpl := putN_len9 (n := items.length) (by unfold maxW; omega)
      have HOW : Hid (Ow w1.heap.size (w1.alloc (.cells #[.int .u8 2] 5)) (.slice (some ⟨w1.heap.size, 0, none⟩) 1 1) [2]) := World.ownsRow_lit w1 _ 1 (Nat.le_refl _) (by decide) rfl
      clear hio HQB2
      go_wp2_with fail
      go_at_call 115
      refine (number_any _ [2] items.length w1.heap.size _ HOW.out (by simp) (by simp)).mono ?_
      rintro e9 w2 ⟨v2, rfl, hown2, hg2, hn2⟩
      rw [put_nat _ (by unfold maxW; omega)] at hown2
      have HOW2 : Hid (Ow w1.heap.size w2 v2 ([2] ++ putN items.length)) := hown2
      have HX2 : Hid (Ext w1 w2) := owns_ext_app ((Ext.refl w1).alloc _) HOW.out hg2
      have e2 := HX2.out.cell d2
      clear hown2 hg2 hn2 HOW
      go_wp2_with fail
      go_loopw [4, 34] (fun v i wr => ∃ k : Nat, k ≤ items.length ∧ i = .int .i64 k ∧ Hid (Ow w1.heap.size wr v ([2] ++ putN items.length ++ (items.take k).flatMap encItem)) ∧ Hid (Ext w1 wr)) (fun _ i _ => items.length - (intOf i).toNat)
      case atStart => exact ⟨0, Nat.zero_le _, rfl, by unfold Hid; simpa using HOW2.out, HX2⟩
      case round =>
      obtain ⟨k, hk, rfl, HO, HX⟩ := hrel
      by_cases hlt : k < items.length
      · obtain ⟨x, hx⟩ : ∃ x, items[k]? = some x := ⟨_, List.getElem?_eq_getElem hlt⟩
        have hxo := HIO.out x (List.mem_of_getElem? hx)
        have hell := encs_len items k HIO.out
        have HTK : Hid ((items.take (k + 1)).flatMap encItem = (items.take k).flatMap encItem ++ encItem x) := by
          unfold Hid
          rw [List.take_add_one, hx]
          simp
        obtain ⟨bb, oo, hia, hc0, hc1, hc2⟩ := HIG.out k x hx
        subst hia
        have y0 := HX.out.cell (HX1.out.cell hc0)
        have y1 := HX.out.cell (HX1.out.cell hc1)
        have y2 := HX.out.cell (HX1.out.cell hc2)
        obtain ⟨L0, hL0⟩ : ∃ l, [2] ++ putN items.length ++ (items.take k).flatMap encItem = l := ⟨_, rfl⟩
        have hL0l : L0.length ≤ 60000 := by rw [← hL0]; simp only [List.length_append, List.length_cons, List.length_nil]; omega
        have HL0 : Hid _ := hL0
        rw [hL0] at HO
        clear hL0 hell
        obtain ⟨mode, name, id⟩ := x
        have hxo2 := hxo
        unfold itemOk at hxo2
        simp only [Bool.and_eq_true, decide_eq_true_eq] at hxo2
        obtain ⟨hm1, hm2, hnb, hvb⟩ := hxo2
        have hnl := name_len hnb
        have hmod := mode_u8 hm1 hm2
        obtain ⟨cm, hcm⟩ : ∃ c, UInt8.ofNat mode.toNat = c := ⟨_, rfl⟩
        rw [hcm] at hmod
        have HVB : Hid _ := hvb
        have HEI : Hid (encItem ⟨mode, name, id⟩ = [cm] ++ putN name.length ++ (name ++ rawH id)) := by
          unfold Hid encItem
          rw [hcm]
          simp
        dsimp only at y0 y1 y2
        clear hxo hx hc0 hc1 hc2 hm1 hm2 hnb hvb hcm
        go_upto_region 12 with fail
        obtain ⟨w4, hw4⟩ : ∃ w4, w4 = wr.alloc (.cells #[.int .i64 mode, S8 name, S8 id] 155) := ⟨_, rfl⟩
        have hx4 : Ext wr w4 := by rw [hw4]; exact (Ext.refl _).alloc _
        have hb4 : w4.heap[wr.heap.size]? = some (.cells #[.int .i64 mode, S8 name, S8 id] 155 (0, 0)) := by rw [hw4]; exact alloc_at _ _
        rw [← hw4]
        obtain ⟨gi, hgi⟩ : ∃ gi, wr.heap.size = gi := ⟨_, rfl⟩
        have HO4 : Hid (Ow w1.heap.size w4 u4 L0) := owns_ext HO.out hx4
        have HGI : Hid (u4.ownBlock ≠ some gi) := fun e => by have := (HO.out.lt _ e).2; omega
        have HGL : Hid (gi < w4.heap.size) := by
          have := (Array.getElem?_eq_some_iff.1 hb4).1
          unfold Hid
          omega
        rw [hgi] at hb4 ⊢
        obtain ⟨z0, z1, z2⟩ := cellsAt3 hb4
        have HX4 : Hid (Ext w1 w4) := HX.out.trans hx4
        have hs4 := HX4.out.size
        clear hw4 hx4 hb4 hgi y0 y1 y2 HO HX
        apply wp_region_inv 10 (fun z w' => ChJ w4 w1.heap.size u4 cm L0 (L0 ++ [cm]) (L0 ++ [cm] ++ putN name.length) [] (z 4) (z 5) (z 9) none w') [false, false, false, false, true, true, false, false, false, true] [_, _, _, .int .u8 cm.toNat, undef, undef, _, _, _, undef] [none, none, none, none, none, none, none, none, none, none] [[], [], [1], [2], [3], [0, 4], [], [6], [7], [5, 8]] (by kernel_rfl) (by kernel_rfl) rfl
        · exact ChJ.start HO4.out ⟨rfl, rfl, rfl, Nat.le_refl _, fun _ _ => rfl⟩
        · simp (maxSteps := 1000000) only [oblI, stepI, knowsI, getP, mixP, List.getD_cons_zero, List.getD_cons_succ, Bool.false_eq_true, if_false, if_true, and_true, true_and, forall_const, Nat.zero_add, Nat.reduceAdd, List.take_succ_cons, List.take_zero, fillFrom, Act.put, List.setIfInBounds_toArray, List.set_cons_zero, List.set_cons_succ]
          refine ⟨?_, ?_, ?_, ?_, ?_, ?_, ?_, ?_, ?_, ?_⟩
          · intro xs z wq hj R hR
            have f0 := hj.cell HGI.out z0; have f1 := hj.cell HGI.out z1
            go_simp
            exact hR _ _ hj rfl
          · intro xs z wq hj R hR
            have f0 := hj.cell HGI.out z0; have f1 := hj.cell HGI.out z1
            go_simp
            exact hR _ _ hj rfl
          · intro xs z wq hj hk R hR
            have f0 := hj.cell HGI.out z0; have f1 := hj.cell HGI.out z1
            go_simp
            exact hR _ _ hj rfl
          · intro xs z wq hj hk R hR
            have f0 := hj.cell HGI.out z0; have f1 := hj.cell HGI.out z1
            go_simp
            exact hR _ _ hj rfl
          · intro xs z wq hj hz hk R hR
            rw [hz] at hj
            go_simp
            exact hR _ _ hj.setL
          · intro xs z wq hj hz hk R hR
            obtain ⟨hk0, hk1⟩ := hk
            rw [hz] at hj
            obtain ⟨v', w', hr, hj'⟩ := hj.appA hk1 hs4 (by omega)
            apply rel_append (.tmp 38) (.tmp 42) 35 (v := xs 0) (xv := xs 4) (v' := v') (w' := w')
            · rfl
            · rfl
            · rfl
            · rfl
            · rw [hk0]; exact hr
            · exact hR _ _ hj'
          · intro xs z wq hj R hR
            have f0 := hj.cell HGI.out z0; have f1 := hj.cell HGI.out z1
            go_simp
            exact hR _ _ hj rfl
          · intro xs z wq hj hk R hR
            have f0 := hj.cell HGI.out z0; have f1 := hj.cell HGI.out z1
            go_simp
            exact hR _ _ hj rfl
          · intro xs z wq hj hk R hR
            have f0 := hj.cell HGI.out z0; have f1 := hj.cell HGI.out z1
            go_simp
            exact hR _ _ hj rfl
          · intro xs z wq hj hz hk R hR
            obtain ⟨hk0, hk1⟩ := hk
            rw [hz] at hj
            go_simp
            exact (number_any (xs 5) (L0 ++ [cm]) name.length w1.heap.size wq (hj.ownA hk0) (Nat.le_trans hs4 hj.size) (by simp; omega)).mono (by rintro e' w' ⟨v', rfl, h1, h2, h3⟩; rw [put_nat _ (by unfold maxW; omega)] at h1; exact ⟨_, rfl, hR _ _ (hj.setB hk0 h1 h2 h3)⟩)
        intro xs w5 hj5 hk
        simp only [zAll, List.getD_cons_zero, List.getD_cons_succ, Bool.false_eq_true, if_false, if_true] at hj5
        simp only [heldI, Nat.zero_add, Nat.reduceAdd, and_true] at hk
        obtain ⟨q0, q1, q2, q3, q6, q7, q8⟩ := hk
        simp (maxSteps := 1000000) only [List.drop_succ_cons, List.drop_zero, Nat.zero_add, Nat.reduceAdd, List.take_succ_cons, List.take_zero, fillFrom, Act.put, List.setIfInBounds_toArray, List.set_cons_zero, List.set_cons_succ, q0, q1, q2, q3, q6, q7, q8]
        clear q0 q1 q2 q3 q6 q7 q8
        generalize xs 4 = x4 at *
        generalize xs 5 = x5 at *
        generalize xs 9 = x9 at *
        have HO5 : Hid (Ow w1.heap.size w5 x9 (L0 ++ [cm] ++ putN name.length)) := hj5.ownB rfl
        have HGI5 : Hid (x9.ownBlock ≠ some gi) := fun e => by
          rcases hj5.nearB rfl gi e with h | h
          · exact HGI.out h
          · have := HGL.out; omega
        have t1 := hj5.cell HGI.out z1
        have t2 := hj5.cell HGI.out z2
        have HX5 : Hid (Ext w1 w5) := Below.grown HX4.out hj5.ext hs4 (fun k hk => (HO4.out.lt k hk).1)
        have hs5 := HX5.out.size
        obtain ⟨L1, hL1⟩ : ∃ l, L0 ++ [cm] ++ putN name.length = l := ⟨_, rfl⟩
        have hL1l : L1.length ≤ 70000 := by
          have h9 := putN_len9 (n := name.length) (by unfold maxW; omega)
          rw [← hL1]
          simp only [List.length_append, List.length_cons, List.length_nil]
          omega
        have HL1 : Hid _ := hL1
        rw [hL1] at HO5
        clear hL1 hj5 z0 z1 z2 HO4 HX4 HGI HGL hs4
        go_upto_region 13 with fail
        apply wp_region_inv 7 (fun z w' => ChJ w5 w1.heap.size x9 0 L1 (L1 ++ name) (L1 ++ name ++ rawH id) [] none (z 3) (z 6) none w') [false, false, false, true, false, false, true] [_, _, _, undef, _, _, undef] [none, none, none, none, none, none, none] [[], [], [1], [0, 2], [], [4], [3, 5]] (by kernel_rfl) (by kernel_rfl) rfl
        · exact ChJ.start HO5.out ⟨rfl, rfl, rfl, Nat.le_refl _, fun _ _ => rfl⟩
        · simp (maxSteps := 1000000) only [oblI, stepI, knowsI, getP, mixP, List.getD_cons_zero, List.getD_cons_succ, Bool.false_eq_true, if_false, if_true, and_true, true_and, forall_const, Nat.zero_add, Nat.reduceAdd, List.take_succ_cons, List.take_zero, fillFrom, Act.put, List.setIfInBounds_toArray, List.set_cons_zero, List.set_cons_succ]
          refine ⟨?_, ?_, ?_, ?_, ?_, ?_, ?_⟩
          · intro xs z wq hj R hR
            have f1 := hj.cell HGI5.out t1; have f2 := hj.cell HGI5.out t2
            go_simp
            exact hR _ _ hj rfl
          · intro xs z wq hj R hR
            have f1 := hj.cell HGI5.out t1; have f2 := hj.cell HGI5.out t2
            go_simp
            exact hR _ _ hj rfl
          · intro xs z wq hj hk R hR
            have f1 := hj.cell HGI5.out t1; have f2 := hj.cell HGI5.out t2
            go_simp
            exact hR _ _ hj rfl
          · intro xs z wq hj hz hk R hR
            obtain ⟨hk0, hk1⟩ := hk
            rw [hz] at hj
            obtain ⟨v', w', hr, hj'⟩ := hj.appT hs5 (by omega) (by omega)
            apply rel_append2 (.tmp 48) (.tmp 50) 35 9 (v := xs 0) (xv := xs 2) (v' := v') (w' := w')
            · rfl
            · rfl
            · rfl
            · rfl
            · rw [hk0, hk1]; exact hr
            · exact hR _ _ hj'
          · intro xs z wq hj R hR
            have f1 := hj.cell HGI5.out t1; have f2 := hj.cell HGI5.out t2
            go_simp
            exact hR _ _ hj rfl
          · intro xs z wq hj hk R hR
            have f1 := hj.cell HGI5.out t1; have f2 := hj.cell HGI5.out t2
            go_simp
            exact hR _ _ hj rfl
          · intro xs z wq hj hz hk R hR
            obtain ⟨hk0, hk1⟩ := hk
            rw [hz] at hj
            go_simp
            exact (hashO_any (xs 3) (L1 ++ name) id w1.heap.size wq (hj.ownA hk0) (Nat.le_trans hs5 hj.size) (by simp; omega) HVB.out).mono (by rintro e' w' ⟨v', rfl, h1, h2, h3⟩; exact ⟨_, rfl, hR _ _ (hj.setB hk0 h1 h2 h3)⟩)
        intro xs w6 hj6 hk
        simp only [zAll, List.getD_cons_zero, List.getD_cons_succ, Bool.false_eq_true, if_false, if_true] at hj6
        simp only [heldI, Nat.zero_add, Nat.reduceAdd, and_true] at hk
        obtain ⟨q0, q1, q2, q4, q5⟩ := hk
        simp (maxSteps := 1000000) only [List.drop_succ_cons, List.drop_zero, Nat.zero_add, Nat.reduceAdd, List.take_succ_cons, List.take_zero, fillFrom, Act.put, List.setIfInBounds_toArray, List.set_cons_zero, List.set_cons_succ, q0, q1, q2, q4, q5]
        clear q0 q1 q2 q4 q5
        generalize xs 3 = x3 at *
        generalize xs 6 = x6 at *
        have HX6 : Hid (Ext w1 w6) := Below.grown HX5.out hj6.ext hs5 (fun k hk => (HO5.out.lt k hk).1)
        have HO6 : Hid (Ow w1.heap.size w6 x6 ([2] ++ putN items.length ++ (items.take (k + 1)).flatMap encItem)) := by
          have h9 := hj6.ownB rfl
          unfold Hid
          rw [HTK.out, HEI.out]
          have e : [2] ++ putN items.length ++ ((items.take k).flatMap encItem ++ ([cm] ++ putN name.length ++ (name ++ rawH id))) = L1 ++ name ++ rawH id := by
            rw [← HL1.out, ← HL0.out]
            simp
          rw [e]
          exact h9
        clear hj6
        go_wp2_with fail
        go_roundw
        case rel => exact ⟨k + 1, by omega, by go_num, HO6, HX6⟩
        case measure => simp [intOf]; omega
      · have hkl : k = items.length := by omega
        have HOF : Hid (Ow w1.heap.size wr u4 qb) := by
          have h9 := HO.out
          rw [hkl, List.take_length] at h9
          unfold Hid
          rw [HEO.out]
          exact h9
        clear hk
        go_wp2
        go_ret2
        exact ⟨⟨_, rfl, HOF.out.mono HX1.out.size⟩, HX1.out.trans HX.out⟩
    · have hmi : validB tree = true ∧ ((parents.all validB = true ∧ parents.length ≤ 2) ∧ ((0 ≤ stamp ∧ stamp ≤ 1099511627776) ∧ ((0 ≤ author ∧ author ≤ 255) ∧ msg.length ≤ 200))) := by
        have h9 := HM0.out
        unfold mayO at h9
        rw [if_neg (show ¬ (3 : Int) = 1 by decide), if_neg (show ¬ (3 : Int) = 2 by decide), if_pos rfl] at h9
        simp only [Bool.and_eq_true, parsOk, msgOk, decide_eq_true_eq] at h9
        exact ⟨h9.2.2.1, ⟨h9.2.2.2.1.1, h9.2.2.2.1.2.2⟩, h9.2.2.2.2.1, h9.2.2.2.2.2.1, h9.2.2.2.2.2.2.2⟩
      obtain ⟨hvt, ⟨hpv, hpl⟩, ⟨hs0, hs1⟩, ⟨ha0, ha1⟩, hml⟩ := hmi
      have HVT : Hid _ := hvt
      have HPV : Hid _ := hpv
      obtain ⟨cp, hcp⟩ : ∃ c, UInt8.ofNat parents.length = c := ⟨_, rfl⟩
      have hcw : IntKind.u8.wrap (parents.length : Int) = (cp.toNat : Int) := by
        rw [← hcp, IntKind.wrap_u8, UInt8.toNat_ofNat']
        omega
      have HEO : Hid (qb = [3] ++ rawH tree ++ [cp] ++ parents.flatMap rawH ++ putN stamp.toNat ++ putN author.toNat ++ putN msg.length ++ msg) := by
        unfold Hid
        rw [HQB2.out, ← hcp]
        show UInt8.ofNat 3 :: (rawH tree ++ (UInt8.ofNat parents.length :: (parents.flatMap rawH ++ (putN stamp.toNat ++ (putN author.toNat ++ (putN msg.length ++ msg)))))) = _
        simp
      have ht32 := (raw_of hvt).1
      clear hvt hpv hcp HQB2
      obtain ⟨wL, hwL⟩ : ∃ wL, wL = w1.alloc (.cells #[.int .u8 3] 5) := ⟨_, rfl⟩
      have hxL : Ext w1 wL := by rw [hwL]; exact (Ext.refl _).alloc _
      have HOW : Hid (Ow w1.heap.size wL (.slice (some ⟨w1.heap.size, 0, none⟩) 1 1) [3]) := by rw [hwL]; exact World.ownsRow_lit w1 _ 1 (Nat.le_refl _) (by decide) rfl
      have HXL : Hid (Ext w1 wL) := hxL
      have l3 := hxL.cell d3
      have l4 := hxL.cell d4
      have hsL := hxL.size
      have HGN : Hid ((Value.slice (some ⟨w1.heap.size, 0, none⟩) 1 1).ownBlock ≠ some gb) := fun e => by
        simp only [Value.ownBlock, Option.some.injEq] at e
        omega
      have HWL : Hid _ := hwL
      clear hxL hwL
      go_upto_region 16 with fail
      rw [← HWL.out]
      apply wp_region_inv 10 (fun z w' => ChJ wL w1.heap.size (.slice (some ⟨w1.heap.size, 0, none⟩) 1 1) cp [3] ([3] ++ rawH tree) ([3] ++ rawH tree ++ [cp]) [] (z 8) (z 3) (z 9) none w') [false, false, false, true, false, false, false, false, true, true] [_, _, _, undef, _, _, _, .int .u8 cp.toNat, undef, undef] [none, none, none, none, none, none, none, none, none, none] [[], [], [1], [0, 2], [], [4], [5], [6], [7], [3, 8]] (by kernel_rfl) (by kernel_rfl) rfl
      · exact ChJ.start HOW.out ⟨rfl, rfl, rfl, Nat.le_refl _, fun _ _ => rfl⟩
      · simp (maxSteps := 1000000) only [oblI, stepI, knowsI, getP, mixP, List.getD_cons_zero, List.getD_cons_succ, Bool.false_eq_true, if_false, if_true, and_true, true_and, forall_const, Nat.zero_add, Nat.reduceAdd, List.take_succ_cons, List.take_zero, fillFrom, Act.put, List.setIfInBounds_toArray, List.set_cons_zero, List.set_cons_succ]
        refine ⟨?_, ?_, ?_, ?_, ?_, ?_, ?_, ?_, ?_, ?_⟩
        · intro xs z wq hj R hR
          have f3 := hj.cell HGN.out l3; have f4 := hj.cell HGN.out l4
          go_simp
          exact hR _ _ hj rfl
        · intro xs z wq hj R hR
          have f3 := hj.cell HGN.out l3; have f4 := hj.cell HGN.out l4
          go_simp
          exact hR _ _ hj rfl
        · intro xs z wq hj hk R hR
          have f3 := hj.cell HGN.out l3; have f4 := hj.cell HGN.out l4
          go_simp
          exact hR _ _ hj rfl
        · intro xs z wq hj hz hk R hR
          obtain ⟨hk0, hk1⟩ := hk
          rw [hz] at hj
          go_simp
          exact (hashO_any _ [3] tree w1.heap.size wq hj.ownZ (Nat.le_trans hsL hj.size) (by simp) HVT.out).mono (by rintro e' w' ⟨v', rfl, h1, h2, h3⟩; exact ⟨_, rfl, hR _ _ (hj.setA h1 h2 h3)⟩)
        · intro xs z wq hj R hR
          have f3 := hj.cell HGN.out l3; have f4 := hj.cell HGN.out l4
          go_simp
          exact hR _ _ hj rfl
        · intro xs z wq hj hk R hR
          have f3 := hj.cell HGN.out l3; have f4 := hj.cell HGN.out l4
          go_simp
          exact hR _ _ hj rfl
        · intro xs z wq hj hk R hR
          have f3 := hj.cell HGN.out l3; have f4 := hj.cell HGN.out l4
          go_simp
          exact hR _ _ hj rfl
        · intro xs z wq hj hk R hR
          have f3 := hj.cell HGN.out l3; have f4 := hj.cell HGN.out l4
          go_simp
          exact hR _ _ hj rfl
        · intro xs z wq hj hz hk R hR
          rw [hz] at hj
          go_simp
          exact hR _ _ hj.setL
        · intro xs z wq hj hz hk R hR
          obtain ⟨hk0, hk1⟩ := hk
          rw [hz] at hj
          obtain ⟨v', w', hr, hj'⟩ := hj.appB hk1 hk0 hsL (by simp; omega)
          apply rel_append (.tmp 60) (.tmp 65) 35 (v := xs 3) (xv := xs 8) (v' := v') (w' := w')
          · rfl
          · rfl
          · rfl
          · rfl
          · exact hr
          · exact hR _ _ hj'
      intro xs w2 hj2 hk
      simp only [zAll, List.getD_cons_zero, List.getD_cons_succ, Bool.false_eq_true, if_false, if_true] at hj2
      simp only [heldI, Nat.zero_add, Nat.reduceAdd, and_true] at hk
      obtain ⟨q0, q1, q2, q4, q5, q6, q7⟩ := hk
      simp (maxSteps := 1000000) only [List.drop_succ_cons, List.drop_zero, Nat.zero_add, Nat.reduceAdd, List.take_succ_cons, List.take_zero, fillFrom, Act.put, List.setIfInBounds_toArray, List.set_cons_zero, List.set_cons_succ, q0, q1, q2, q4, q5, q6, q7]
      clear q0 q1 q2 q4 q5 q6 q7
      generalize xs 3 = x3 at *
      generalize xs 8 = x8 at *
      generalize xs 9 = x9 at *
      have HX2 : Hid (Ext w1 w2) := Below.grown HXL.out hj2.ext hsL (fun k hk => (HOW.out.lt k hk).1)
      have HO2 : Hid (Ow w1.heap.size w2 x9 ([3] ++ rawH tree ++ [cp])) := hj2.ownB rfl
      have m4 := HX2.out.cell d4
      clear hj2 l3 l4
      go_wp2_with fail
      go_loopw [4, 70] (fun v i wr => ∃ k : Nat, k ≤ parents.length ∧ i = .int .i64 k ∧ Hid (Ow w1.heap.size wr v ([3] ++ rawH tree ++ [cp] ++ (parents.take k).flatMap rawH)) ∧ Hid (Ext w1 wr)) (fun _ i _ => parents.length - (intOf i).toNat)
      case atStart => exact ⟨0, Nat.zero_le _, rfl, by unfold Hid; simpa using HO2.out, HX2⟩
      case round =>
      obtain ⟨k, hk, rfl, HO, HX⟩ := hrel
      have HLN : Hid (([3] ++ rawH tree ++ [cp] ++ (parents.take k).flatMap rawH).length ≤ 1000) := by
        unfold Hid
        have h9 := raws_len parents k HPV.out
        simp only [List.length_append, List.length_cons, List.length_nil]
        omega
      by_cases hlt : k < parents.length
      · obtain ⟨x, hx⟩ : ∃ x, parents[k]? = some x := ⟨_, List.getElem?_eq_getElem hlt⟩
        obtain ⟨bb, oo, hpa, hc⟩ := HPG.out k hlt
        subst hpa
        have y1 := HX.out.cell (HX1.out.cell (hc k hlt))
        rw [show parents.getD k [] = x by rw [List.getD_eq_getElem?_getD, hx]; rfl] at y1
        have HXV : Hid (validB x = true) := List.all_eq_true.1 HPV.out x (List.mem_of_getElem? hx)
        have HTK : Hid ((parents.take (k + 1)).flatMap rawH = (parents.take k).flatMap rawH ++ rawH x) := by
          unfold Hid
          rw [List.take_add_one, hx]
          simp
        have hss := HX.out.size
        clear hx hc
        go_wp2_with fail
        go_at_call 116
        refine (hashO_any _ _ x w1.heap.size wr HO.out hss (by have := HLN.out; omega) HXV.out).mono ?_
        rintro e9 w3 ⟨v3, rfl, hown3, hg3, hn3⟩
        have HX3 : Hid (Ext w1 w3) := owns_ext_app HX.out HO.out hg3
        have HO3 : Hid (Ow w1.heap.size w3 v3 ([3] ++ rawH tree ++ [cp] ++ (parents.take (k + 1)).flatMap rawH)) := by
          unfold Hid
          rw [HTK.out, ← List.append_assoc]
          exact hown3
        clear hown3 hg3 hn3
        go_wp2_with fail
        go_roundw
        case rel => exact ⟨k + 1, by omega, by go_num, HO3, HX3⟩
        case measure => simp [intOf]; omega
      · have hkl : k = parents.length := by omega
        subst hkl
        rw [List.take_length] at HO HLN
        have n5 := HX.out.cell d5
        have n6 := HX.out.cell d6
        have n7 := HX.out.cell d7
        obtain ⟨L0, hL0⟩ : ∃ l, [3] ++ rawH tree ++ [cp] ++ parents.flatMap rawH = l := ⟨_, rfl⟩
        rw [hL0] at HO HLN
        have HL0 : Hid _ := hL0
        have hL0l := HLN.out
        have HGU : Hid (u4.ownBlock ≠ some gb) := fun e => by have := (HO.out.lt _ e).1; omega
        have hss := HX.out.size
        have hp1 := putN_len9 (n := stamp.toNat) (by unfold maxW; omega)
        have hp2 := putN_len9 (n := author.toNat) (by unfold maxW; omega)
        have hp3 := putN_len9 (n := msg.length) (by unfold maxW; omega)
        clear hL0 hk
        go_upto_region 22 with fail
        apply wp_region_inv 11 (fun z w' => ChJ wr w1.heap.size u4 0 L0 (L0 ++ putN stamp.toNat) (L0 ++ putN stamp.toNat ++ putN author.toNat) (L0 ++ putN stamp.toNat ++ putN author.toNat ++ putN msg.length) none (z 3) (z 6) (z 10) w') [false, false, false, true, false, false, true, false, false, false, true] [_, _, _, undef, _, _, undef, _, _, _, undef] [none, none, none, none, none, none, none, none, none, none, none] [[], [], [1], [0, 2], [], [4], [3, 5], [], [7], [8], [6, 9]] (by kernel_rfl) (by kernel_rfl) rfl
        · exact ChJ.start HO.out ⟨rfl, rfl, rfl, Nat.le_refl _, fun _ _ => rfl⟩
        · simp (maxSteps := 1000000) only [oblI, stepI, knowsI, getP, mixP, List.getD_cons_zero, List.getD_cons_succ, Bool.false_eq_true, if_false, if_true, and_true, true_and, forall_const, Nat.zero_add, Nat.reduceAdd, List.take_succ_cons, List.take_zero, fillFrom, Act.put, List.setIfInBounds_toArray, List.set_cons_zero, List.set_cons_succ]
          refine ⟨?_, ?_, ?_, ?_, ?_, ?_, ?_, ?_, ?_, ?_, ?_⟩
          · intro xs z wq hj R hR
            have f5 := hj.cell HGU.out n5; have f6 := hj.cell HGU.out n6; have f7 := hj.cell HGU.out n7
            go_simp
            exact hR _ _ hj rfl
          · intro xs z wq hj R hR
            have f5 := hj.cell HGU.out n5; have f6 := hj.cell HGU.out n6; have f7 := hj.cell HGU.out n7
            go_simp
            exact hR _ _ hj rfl
          · intro xs z wq hj hk R hR
            have f5 := hj.cell HGU.out n5; have f6 := hj.cell HGU.out n6; have f7 := hj.cell HGU.out n7
            go_simp
            exact hR _ _ hj rfl
          · intro xs z wq hj hz hk R hR
            obtain ⟨hk0, hk1⟩ := hk
            rw [hz] at hj
            go_simp
            exact (number_any _ L0 stamp w1.heap.size wq hj.ownZ (Nat.le_trans hss hj.size) (by omega)).mono (by rintro e' w' ⟨v', rfl, h1, h2, h3⟩; rw [put_int _ (by omega) (by unfold maxW; omega)] at h1; exact ⟨_, rfl, hR _ _ (hj.setA h1 h2 h3)⟩)
          · intro xs z wq hj R hR
            have f5 := hj.cell HGU.out n5; have f6 := hj.cell HGU.out n6; have f7 := hj.cell HGU.out n7
            go_simp
            exact hR _ _ hj rfl
          · intro xs z wq hj hk R hR
            have f5 := hj.cell HGU.out n5; have f6 := hj.cell HGU.out n6; have f7 := hj.cell HGU.out n7
            go_simp
            exact hR _ _ hj rfl
          · intro xs z wq hj hz hk R hR
            obtain ⟨hk0, hk1⟩ := hk
            rw [hz] at hj
            go_simp
            exact (number_any _ (L0 ++ putN stamp.toNat) author w1.heap.size wq (hj.ownA hk0) (Nat.le_trans hss hj.size) (by simp only [List.length_append]; omega)).mono (by rintro e' w' ⟨v', rfl, h1, h2, h3⟩; rw [put_int _ (by omega) (by unfold maxW; omega)] at h1; exact ⟨_, rfl, hR _ _ (hj.setB hk0 h1 h2 h3)⟩)
          · intro xs z wq hj R hR
            have f5 := hj.cell HGU.out n5; have f6 := hj.cell HGU.out n6; have f7 := hj.cell HGU.out n7
            go_simp
            exact hR _ _ hj rfl
          · intro xs z wq hj hk R hR
            have f5 := hj.cell HGU.out n5; have f6 := hj.cell HGU.out n6; have f7 := hj.cell HGU.out n7
            go_simp
            exact hR _ _ hj rfl
          · intro xs z wq hj hk R hR
            have f5 := hj.cell HGU.out n5; have f6 := hj.cell HGU.out n6; have f7 := hj.cell HGU.out n7
            go_simp
            exact hR _ _ hj rfl
          · intro xs z wq hj hz hk R hR
            obtain ⟨hk0, hk1⟩ := hk
            rw [hz] at hj
            go_simp
            exact (number_any _ (L0 ++ putN stamp.toNat ++ putN author.toNat) msg.length w1.heap.size wq (hj.ownB hk0) (Nat.le_trans hss hj.size) (by simp only [List.length_append]; omega)).mono (by rintro e' w' ⟨v', rfl, h1, h2, h3⟩; rw [put_nat _ (by unfold maxW; omega)] at h1; exact ⟨_, rfl, hR _ _ (hj.setC hk0 h1 h2 h3)⟩)
        intro xs w3 hj3 hk
        simp only [zAll, List.getD_cons_zero, List.getD_cons_succ, Bool.false_eq_true, if_false, if_true] at hj3
        simp only [heldI, Nat.zero_add, Nat.reduceAdd, and_true] at hk
        obtain ⟨q0, q1, q2, q4, q5, q7, q8, q9⟩ := hk
        simp (maxSteps := 1000000) only [List.drop_succ_cons, List.drop_zero, Nat.zero_add, Nat.reduceAdd, List.take_succ_cons, List.take_zero, fillFrom, Act.put, List.setIfInBounds_toArray, List.set_cons_zero, List.set_cons_succ, q0, q1, q2, q4, q5, q7, q8, q9]
        clear q0 q1 q2 q4 q5 q7 q8 q9
        generalize xs 3 = x3 at *
        generalize xs 6 = x6 at *
        generalize xs 10 = x10 at *
        have HX3 : Hid (Ext w1 w3) := Below.grown HX.out hj3.ext hss (fun k hk => (HO.out.lt k hk).1)
        have hown3 := hj3.ownC rfl
        obtain ⟨L3, hL3⟩ : ∃ l, L0 ++ putN stamp.toNat ++ putN author.toNat ++ putN msg.length = l := ⟨_, rfl⟩
        have hL3l : L3.length ≤ 1100 := by
          rw [← hL3]
          simp only [List.length_append]
          omega
        have HL3 : Hid _ := hL3
        rw [hL3] at hown3
        have HO3 : Hid (Ow w1.heap.size w3 x10 L3) := hown3
        have q7 := HX3.out.cell d7
        have hs3 := HX3.out.size
        clear hL3 hown3 hj3 n5 n6 n7
        go_wp2_with (at_builtin; go_must (refine app_tx rfl _ _ rfl rfl w1.heap.size _ L3 rfl HO3.out msg rfl (by omega) hs3 ?_; intro v' w4 hown4 hg4 hn4))
        go_ret2
        refine ⟨⟨_, rfl, ?_⟩, HX1.out.trans (owns_ext_app HX3.out HO3.out hg4)⟩
        have h9 := hown4.mono HX1.out.size
        rw [HEO.out, HL0.out, HL3.out]
        exact h9

end Go.Proofs.YtdhgmpibjneplaaGreatDoor

/-! store: PutObj, Get, Has, Drop, Clean, Reads. Conditions: as each theorem states. -/
namespace Go.Proofs.YtdhgmpibjneplaaGreatDoor
open Go Go.RowKit
set_option linter.unusedVariables false
set_option linter.unusedSimpArgs false
set_option linter.unusedSectionVars false

theorem encM_len (o : Ob) : (encodeM o).1.length ≤ 140737488355328 := by
  unfold encodeM
  split
  · rename_i hm
    obtain ⟨kind, data, items, tree, parents, stamp, author, msg⟩ := o
    have hk := may_kind hm
    unfold mayO at hm
    dsimp only at hk hm ⊢
    unfold encO encTail
    dsimp only
    rcases hk with rfl | rfl | rfl
    · rw [if_pos rfl] at hm
      simp only [Bool.and_eq_true, decide_eq_true_eq] at hm
      rw [if_pos rfl, List.length_cons]
      omega
    · rw [if_neg (show ¬ (2 : Int) = 1 by decide), if_pos rfl] at hm
      simp only [Bool.and_eq_true, itemsOk, List.all_eq_true, decide_eq_true_eq] at hm
      have h1 := encs_len items items.length hm.2.1.1
      have h2 := putN_len9 (n := items.length) (by unfold maxW; omega)
      rw [List.take_length] at h1
      rw [if_neg (show ¬ (2 : Int) = 1 by decide), if_pos rfl, List.length_cons, List.length_append]
      omega
    · rw [if_neg (show ¬ (3 : Int) = 1 by decide), if_neg (show ¬ (3 : Int) = 2 by decide), if_pos rfl] at hm
      simp only [Bool.and_eq_true, parsOk, msgOk, decide_eq_true_eq] at hm
      have h1 := raws_len parents parents.length hm.2.2.2.1.1
      have h2 := (raw_of hm.2.2.1).1
      have h3 := putN_len9 (n := stamp.toNat) (by unfold maxW; omega)
      have h4 := putN_len9 (n := author.toNat) (by unfold maxW; omega)
      have h5 := putN_len9 (n := msg.length) (by unfold maxW; omega)
      rw [List.take_length] at h1
      rw [if_neg (show ¬ (3 : Int) = 1 by decide), if_neg (show ¬ (3 : Int) = 2 by decide)]
      simp only [List.length_cons, List.length_append]
      omega
  · simp
variable [Inhabited BaseW] [KW : Inhabited KeptW]
set_option maxRecDepth 100000 in
set_option maxHeartbeats 2000000 in
theorem storePutObj_any {w0 w : World} {S O : Nat → Prop} {f : Value} {gs gc : Nat} {m : Fs} {n : Int} {k : Nat} (v : Value) (o : Ob) (h : St w0 S O w f gs gc m n) (hE : Env w0) (hS : EnvS w0) (hg : Good k m) (hk : k ≤ 79800) (hn0 : 0 ≤ n) (hn1 : n ≤ 100000) (hv : IsOb w v o) (hs : ObSmall o) :
    Calls Tryz.prog 35 #[.pointer (some ⟨gs, 0, none⟩), v] w fun e w' => ∃ (O' : Nat → Prop) (n' : Int), e = .returned (.tuple #[S8 (putObjM m o).2.1, .int .i64 (putObjM m o).2.2]) ∧ (n ≤ n' ∧ n' ≤ n + 1) ∧ St w0 S O' w' f gs gc (putObjM m o).1 n' := by
  have H : Hid (St w0 S O w f gs gc m n) := h
  have HE : Hid (Env w0) := hE
  have HS : Hid (EnvS w0) := hS
  have HG : Hid (Good k m) := hg
  obtain ⟨vd, vi, vp, rfl, hd, hi, hp⟩ := hv
  obtain ⟨wa, hwa⟩ : ∃ wa, wa = w.alloc (.cells #[.int .i64 o.kind, vd, vi, S8 o.tree, vp, .int .i64 o.stamp, .int .i64 o.author, S8 o.msg] 72) := ⟨_, rfl⟩
  have hxa : Ext w wa := by rw [hwa]; exact (Ext.refl _).alloc _
  have hba : wa.heap[w.heap.size]? = some (.cells #[.int .i64 o.kind, vd, vi, S8 o.tree, vp, .int .i64 o.stamp, .int .i64 o.author, S8 o.msg] 72 (0, 0)) := by rw [hwa]; exact alloc_at _ _
  have HEN : Hid _ := oEnc_any (obV o vd vi vp) o wa ⟨vd, vi, vp, rfl, hd.ext hxa, hi.ext hxa, hp.ext hxa⟩ hs
  obtain ⟨gb, hgb⟩ : ∃ gb, w.heap.size = gb := ⟨_, rfl⟩
  rw [hgb] at hba
  obtain ⟨c0, c1, c2, c3, c4, c5, c6, c7⟩ := cellsAt8 hba
  have HXA : Hid (Ext w wa) := hxa
  have HWA : Hid _ := hwa
  obtain ⟨⟨b, er⟩, hq⟩ : ∃ q, encodeM o = q := ⟨_, rfl⟩
  have hpo : putObjM m o = if er ≠ 0 then (m, [], er) else putO m b := by unfold putObjM; rw [hq]
  have HPO : Hid _ := hpo
  obtain ⟨⟨m2, id, e2⟩, hm2⟩ : ∃ q, putObjM m o = q := ⟨_, rfl⟩
  have HM2 : Hid _ := hm2
  have hbl : b.length ≤ 140737488355328 := by
    have h9 := HEN.out
    rw [hq] at h9
    by_cases h0 : b.length ≤ 140737488355328
    · exact h0
    · exfalso
      have hb : (encodeM o).1.length ≤ 140737488355328 := encM_len o
      rw [hq] at hb
      exact h0 hb
  rw [hq] at HEN
  rw [hm2]
  unfold obV at HEN ⊢
  clear h hE hS hg hd hi hp hwa hxa hba hpo hm2 hq hs
  go_enter Tryz.func35, Tryz.ntmps35
  go_upto_region 1 with fail
  rw [← HWA.out]
  go_wp2_with fail
  go_at_call 71
  refine Calls.mono HEN.out ?_
  rintro e9 w1 ⟨⟨u, rfl, hu⟩, hx1⟩
  have H1 : Hid (St w0 S O w1 f gs gc m n) := H.out.more (HXA.out.trans hx1)
  have HU : Hid (Arg w0 w1 u b) := .inr ⟨by unfold IsBytes; exact Row.of_owns hu hbl, TypB.of_owns hu⟩
  clear hx1 hu HEN
  try dsimp only
  by_cases her : er = 0
  · have herb : (er == 0) = true := by simpa using her
    have HPE : Hid (putO m b = (m2, id, e2)) := by
      unfold Hid
      rw [← HM2.out, HPO.out, if_neg (by simpa using her)]
    have hc := storePut_any u b H1.out HE.out HS.out HG.out hk hn0 hn1 HU.out hbl
    rw [HPE.out] at hc
    have HC : Hid _ := hc
    clear hc her
    go_wp2_with fail
    go_at_call 72
    refine Calls.mono HC.out ?_
    rintro e9 w2 ⟨O2, n2, rfl, hn, hst⟩
    have HST : Hid _ := hst
    clear hst HC
    go_wp2
    go_ret2
    exact ⟨O2, n2, rfl, hn, HST.out⟩
  · have herb : (er == 0) = false := by simpa using her
    obtain ⟨rfl, rfl, rfl⟩ : m = m2 ∧ [] = id ∧ er = e2 := by
      have h9 := HPO.out
      rw [if_pos her, HM2.out] at h9
      have h8 := Prod.mk.inj h9
      have h7 := Prod.mk.inj h8.2
      exact ⟨h8.1.symm, h7.1.symm, h7.2.symm⟩
    clear her
    go_wp2
    go_ret2
    exact ⟨O, n, rfl, ⟨by omega, by omega⟩, H1.out⟩

set_option maxRecDepth 100000 in
set_option maxHeartbeats 2000000 in
theorem storeGet_any {w0 w : World} {S O : Nat → Prop} {f : Value} {gs gc : Nat} {m : Fs} {n : Int} {k : Nat} (id : B8) (h : St w0 S O w f gs gc m n) (hE : Env w0) (hS : EnvS w0) (hg : Good k m) (hk : k ≤ 79800) (hn0 : 0 ≤ n) (hn1 : n ≤ 100000) (hid : id.length ≤ 10000000) :
    Calls Tryz.prog 88 #[.pointer (some ⟨gs, 0, none⟩), S8 id] w fun e w' => ∃ (v : Value) (O' : Nat → Prop) (n' : Int), e = .returned (.tuple #[v, .int .i64 (getO m id).2.2]) ∧ (IsBytes w' v (getO m id).2.1 ∧ TypB w' v) ∧ KeepB w w' ∧ n' = gotN n id ∧ St w0 S O' w' f gs gc (getO m id).1 n' := by
  have H : Hid (St w0 S O w f gs gc m n) := h
  have HE : Hid (Env w0) := hE
  have HS : Hid (EnvS w0) := hS
  have HG : Hid (Good k m) := hg
  obtain ⟨vb, hvb⟩ : ∃ c, validB id = c := ⟨_, rfl⟩
  have HVB : Hid _ := hvb
  obtain ⟨⟨m2, d2, e2⟩, hm2⟩ : ∃ q, getO m id = q := ⟨_, rfl⟩
  have HM2 : Hid _ := hm2
  rw [hm2]
  obtain ⟨n2, hn2⟩ : ∃ x, gotN n id = x := ⟨_, rfl⟩
  have HN2 : Hid _ := hn2
  rw [hn2]
  clear h hE hS hg hm2 hvb hn2
  go_enter Tryz.func88, Tryz.ntmps88
  go_wp2_with fail
  go_at_call 65
  refine (valid_any id w (by omega)).mono ?_
  rw [HVB.out]
  rintro e9 w1 ⟨rfl, hx1⟩
  have H1 : Hid (St w0 S O w1 f gs gc m n) := H.out.more hx1
  have HK1 : Hid (KeepB w w1) := KeepB.of_ext hx1
  clear hx1
  cases vb with
  | false =>
    obtain ⟨rfl, rfl, rfl⟩ : m = m2 ∧ [] = d2 ∧ 6 = e2 := by
      have h9 := HM2.out
      unfold getO at h9
      rw [if_pos HVB.out] at h9
      have h8 := Prod.mk.inj h9
      exact ⟨h8.1, (Prod.mk.inj h8.2).1, (Prod.mk.inj h8.2).2⟩
    have hn : n2 = n := by rw [← HN2.out]; unfold gotN; rw [HVB.out]; rfl
    go_wp2
    go_ret2
    exact ⟨_, O, n, rfl, ⟨IsBytes.nil _, TypB.nil _ _ _⟩, HK1.out, hn.symm, H1.out⟩
  | true =>
    have h64 : id.length = 64 := by
      have h9 := HVB.out
      unfold validB at h9
      cases hu : unhexM id with
      | none => rw [hu] at h9; cases h9
      | some b =>
        rw [hu] at h9
        have h8 := (unhex_len id hu).1
        have : b.length = 32 := by simpa using h9
        omega
    have hn : n2 = n + 1 := by rw [← HN2.out]; unfold gotN; rw [HVB.out]; rfl
    have HN : Hid _ := hn
    obtain ⟨⟨m1, fx, er⟩, hr⟩ : ∃ q, readM m (placeO id) = q := ⟨_, rfl⟩
    have HR : Hid _ := hr
    have hgo : getO m id = if er ≠ 0 then (m1, [], er) else if shaM fx.data ≠ id then (m1, [], 5) else (m1, fx.data, 0) := by
      unfold getO
      rw [if_neg (by rw [HVB.out]; simp), hr]
    have HGO : Hid _ := hgo
    have hrd := readT_any id H1.out HE.out HG.out (by omega) hn0 hn1 (by omega)
    have hdl := read_len (p := placeO id) HG.out.ok HG.out.plan
    rw [hr] at hrd hdl
    simp only at hdl
    have HRD : Hid _ := hrd
    clear hr hrd hgo hn
    go_wp2_with fail
    go_at_call 119
    refine Calls.mono HRD.out ?_
    rintro e9 w3 ⟨v3, O3, rfl, hd3, hk3, h3⟩
    have HK3 : Hid (KeepB w w3) := HK1.out.trans hk3
    have HD3 : Hid _ := hd3
    have H3 : Hid (St w0 S O3 w3 f gs gc m1 (n + 1)) := h3
    have hd3b := hd3.1
    obtain ⟨s3, t3, rfl, -⟩ := hd3b
    clear hk3 hd3 h3 HRD
    try dsimp only
    by_cases her : er = 0
    case neg =>
      have herb : (er == 0) = false := by simpa using her
      obtain ⟨rfl, rfl, rfl⟩ : m1 = m2 ∧ [] = d2 ∧ er = e2 := by
        have h9 := HGO.out
        rw [HM2.out, if_pos her] at h9
        have h8 := Prod.mk.inj h9
        exact ⟨h8.1.symm, (Prod.mk.inj h8.2).1.symm, (Prod.mk.inj h8.2).2.symm⟩
      clear her
      go_wp2
      go_ret2
      exact ⟨_, O3, n + 1, rfl, ⟨IsBytes.nil _, TypB.nil _ _ _⟩, HK3.out, HN.out.symm, H3.out⟩
    have herb : (er == 0) = true := by simpa using her
    have HGO2 : Hid ((m2, d2, e2) = if shaM fx.data ≠ id then (m1, [], 5) else (m1, fx.data, 0)) := by
      unfold Hid
      rw [← HM2.out, HGO.out, if_neg (by simpa using her)]
    clear her
    go_wp2_with fail
    go_at_call 117
    refine (newLazy_any _ fx.data w3 HD3.out.1 (by omega)).mono ?_
    rintro e w4 ⟨⟨u1, rfl, hz1⟩, hx4⟩
    have HZ1 : Hid _ := hz1
    have HX4 : Hid (Ext w3 w4) := hx4
    have hw2 : 3 ≤ w3.heap.size := by have := H3.out.one.ext.size; have := HS.out.two; omega
    clear hz1 hx4
    go_wp2_with fail
    go_at_call 118
    refine (lazyID_any w3 w4 fx.data u1 (EnvS.ext HS.out (H3.out.one.ext.trans HX4.out)) hw2 HX4.out HZ1.out (by omega)).mono ?_
    rintro e w5 ⟨rfl, hx5⟩
    have H5 : Hid (St w0 S O3 w5 f gs gc m1 (n + 1)) := H3.out.more hx5
    have HK5 : Hid (KeepB w w5) := HK3.out.trans (KeepB.of_ext hx5)
    have HD5 : Hid (IsBytes w5 (.slice s3 fx.data.length t3) fx.data ∧ TypB w5 (.slice s3 fx.data.length t3)) := ⟨IsBytes.ext HD3.out.1 hx5, HD3.out.2.keep (KeepB.of_ext hx5)⟩
    clear hx5 HX4 HZ1
    obtain ⟨sx, hsx⟩ : ∃ s, shaM fx.data = s := ⟨_, rfl⟩
    rw [hsx] at HGO2 ⊢
    by_cases hq : sx = id
    · have hqb : (sx == id) = true := by simpa using hq
      obtain ⟨rfl, rfl, rfl⟩ : m1 = m2 ∧ fx.data = d2 ∧ 0 = e2 := by
        have h9 := HGO2.out
        rw [if_neg (by simpa using hq)] at h9
        have h8 := Prod.mk.inj h9
        exact ⟨h8.1.symm, (Prod.mk.inj h8.2).1.symm, (Prod.mk.inj h8.2).2.symm⟩
      clear hq hsx
      go_wp2
      go_ret2
      exact ⟨_, O3, n + 1, rfl, HD5.out, HK5.out, HN.out.symm, H5.out⟩
    · have hqb : (sx == id) = false := by simpa using hq
      obtain ⟨rfl, rfl, rfl⟩ : m1 = m2 ∧ [] = d2 ∧ 5 = e2 := by
        have h9 := HGO2.out
        rw [if_pos hq] at h9
        have h8 := Prod.mk.inj h9
        exact ⟨h8.1.symm, (Prod.mk.inj h8.2).1.symm, (Prod.mk.inj h8.2).2.symm⟩
      clear hq hsx
      go_wp2
      go_ret2
      exact ⟨_, O3, n + 1, rfl, ⟨IsBytes.nil _, TypB.nil _ _ _⟩, HK5.out, HN.out.symm, H5.out⟩

set_option maxRecDepth 100000 in
set_option maxHeartbeats 2000000 in
theorem storeHas_any {w0 w : World} {S O : Nat → Prop} {f : Value} {gs gc : Nat} {m : Fs} {n : Int} {k : Nat} (id : B8) (h : St w0 S O w f gs gc m n) (hE : Env w0) (hS : EnvS w0) (hg : Good k m) (hk : k ≤ 79800) (hn0 : 0 ≤ n) (hn1 : n ≤ 100000) (hid : id.length ≤ 10000000) :
    Calls Tryz.prog 49 #[.pointer (some ⟨gs, 0, none⟩), S8 id] w fun e w' => ∃ (O' : Nat → Prop) (n' : Int), e = .returned (.bool (hasO m id)) ∧ KeepB w w' ∧ n' = gotN n id ∧ St w0 S O' w' f gs gc (getO m id).1 n' := by
  have HC : Hid _ := storeGet_any id h hE hS hg hk hn0 hn1 hid
  obtain ⟨⟨m2, d2, e2⟩, hm2⟩ : ∃ q, getO m id = q := ⟨_, rfl⟩
  have hh : hasO m id = decide (e2 = 0) := by unfold hasO; rw [hm2]
  rw [hh]
  rw [hm2] at HC ⊢
  obtain ⟨bq, hbq⟩ : ∃ b, (e2 == 0) = b := ⟨_, rfl⟩
  have hdq : decide (e2 = 0) = bq := by rw [← hbq]; rfl
  obtain ⟨n2, hn2⟩ : ∃ x, gotN n id = x := ⟨_, rfl⟩
  rw [hdq, hn2]
  rw [hn2] at HC
  clear hh hm2 h hE hS hg hdq hn2
  go_enter Tryz.func49, Tryz.ntmps49
  go_wp2_with fail
  go_at_call 88
  refine Calls.mono HC.out ?_
  rintro e9 w1 ⟨v, O1, n1, rfl, -, hk1, hn, hst⟩
  have HST : Hid _ := hst
  have HK1 : Hid _ := hk1
  have HN1 : Hid _ := hn
  clear hst hk1 hn HC
  go_wp2
  go_ret
  exact ⟨O1, n1, rfl, HK1.out, HN1.out, HST.out⟩

end Go.Proofs.YtdhgmpibjneplaaGreatDoor

/-! The store's calls, all blocks apart from the store's own kept. Conditions: as each theorem states. -/
namespace Go.Proofs.YtdhgmpibjneplaaGreatDoor
open Go Go.RowKit
set_option linter.unusedVariables false
set_option linter.unusedSimpArgs false
set_option linter.unusedSectionVars false

open Classical in
noncomputable abbrev KwOf (w : World) (O : Nat → Prop) (gs gc : Nat) : Inhabited KeptW := ⟨⟨fun k => if ¬ O k ∧ k ≠ gs ∧ k ≠ gc then w.heap[k]? else none⟩⟩
/-- All blocks apart from the store's own are as they were, and apart still. -/
def FrS (O O' : Nat → Prop) (gs gc : Nat) (w w' : World) : Prop := ∀ k, k < w.heap.size → ¬ O k → k ≠ gs → k ≠ gc → w'.heap[k]? = w.heap[k]? ∧ ¬ O' k
section
variable {w0 w w' : World} {S O O' : Nat → Prop} {f : Value} {gs gc : Nat} {m m' : Fs} {n n' : Int}
theorem FrS.refl (O : Nat → Prop) (gs gc : Nat) (w : World) : FrS O O gs gc w w := fun k _ hO _ _ => ⟨rfl, hO⟩
theorem FrS.trans {O1 O2 O3 : Nat → Prop} {w1 w2 w3 : World} (h : FrS O1 O2 gs gc w1 w2) (g : FrS O2 O3 gs gc w2 w3) : FrS O1 O3 gs gc w1 w3 := fun k hk hO h1 h2 => by
  obtain ⟨a, b⟩ := h k hk hO h1 h2
  have hk2 : k < w2.heap.size := by
    have : w2.heap[k]? = some (w1.heap[k]'hk) := a.trans (Array.getElem?_eq_getElem hk)
    exact (Array.getElem?_eq_some_iff.1 this).1
  obtain ⟨c, d⟩ := g k hk2 b h1 h2
  exact ⟨c.trans a, d⟩
theorem FrS.ext {w1 : World} (h : Ext w w1) : FrS O O gs gc w w1 := fun k hk hO _ _ => ⟨h.block k hk, hO⟩
theorem FrS.fr (h : FsPost S O (fun k => k < w.heap.size) w f m' w') : FrS O (Nw O w w') gs gc w w' := fun k hk hO _ _ => ⟨h.fr.block k hk (.inl hO), fun ho => by
  rcases ho with ho | ho
  · exact hO ho
  · omega⟩
theorem FrS.row (h : FrS O O' gs gc w w') {k : Nat} {o : Obj} (hk : w.heap[k]? = some o) (hO : ¬ O k) (h1 : k ≠ gs) (h2 : k ≠ gc) : w'.heap[k]? = some o ∧ ¬ O' k := by
  obtain ⟨a, b⟩ := h k (Array.getElem?_eq_some_iff.1 hk).1 hO h1 h2
  exact ⟨a.trans hk, b⟩
end
section
variable [Inhabited BaseW] [KW : Inhabited KeptW] {w0 w w' : World} {S O O' : Nat → Prop} {f : Value} {gs gc : Nat} {m m' : Fs} {n n' : Int}
open Classical in
theorem St.toK (h : St w0 S O w f gs gc m n) : St (KW := KwOf w O gs gc) w0 S O w f gs gc m n :=
  St.mk (KW := KwOf w O gs gc) h.one h.row h.cnt h.lo h.out (fun k o hk => by
    have hk : (if ¬ O k ∧ k ≠ gs ∧ k ≠ gc then w.heap[k]? else none) = some o := hk
    split at hk
    · rename_i hc; exact ⟨hk, hc⟩
    · cases hk)
open Classical in
theorem St.ofK (hkp : ∀ k, keptW k = none) (h : St (KW := KwOf w O gs gc) w0 S O' w' f gs gc m' n') : FrS O O' gs gc w w' ∧ St w0 S O' w' f gs gc m' n' := by
  refine ⟨fun k hk hO h1 h2 => ?_, St.mk (KW := KW) (St.one (KW := KwOf w O gs gc) h) (St.row (KW := KwOf w O gs gc) h) (St.cnt (KW := KwOf w O gs gc) h) (St.lo (KW := KwOf w O gs gc) h) (St.out (KW := KwOf w O gs gc) h) (fun k o hk => by rw [hkp] at hk; cases hk)⟩
  have hb : w.heap[k]? = some (w.heap[k]'hk) := Array.getElem?_eq_getElem hk
  obtain ⟨q1, q2, -⟩ := St.kp (KW := KwOf w O gs gc) h k (w.heap[k]'hk) (by
    show (if ¬ O k ∧ k ≠ gs ∧ k ≠ gc then w.heap[k]? else none) = _
    rw [if_pos ⟨hO, h1, h2⟩, hb])
  exact ⟨q1.trans hb.symm, q2⟩
theorem putObjF_any (hkp : ∀ k, keptW k = none) {k : Nat} (v : Value) (o : Ob) (h : St w0 S O w f gs gc m n) (hE : Env w0) (hS : EnvS w0) (hg : Good k m) (hk : k ≤ 79800) (hn0 : 0 ≤ n) (hn1 : n ≤ 100000) (hv : IsOb w v o) (hs : ObSmall o) :
    Calls Tryz.prog 35 #[.pointer (some ⟨gs, 0, none⟩), v] w fun e w' => ∃ (O' : Nat → Prop) (n' : Int), e = .returned (.tuple #[S8 (putObjM m o).2.1, .int .i64 (putObjM m o).2.2]) ∧ (n ≤ n' ∧ n' ≤ n + 1) ∧ St w0 S O' w' f gs gc (putObjM m o).1 n' ∧ FrS O O' gs gc w w' := by
  refine (storePutObj_any (KW := KwOf w O gs gc) v o h.toK hE hS hg hk hn0 hn1 hv hs).mono ?_
  rintro e w' ⟨O', n', he, hn, hst⟩
  obtain ⟨h1, h2⟩ := St.ofK hkp hst
  exact ⟨O', n', he, hn, h2, h1⟩
theorem hasF_any (hkp : ∀ k, keptW k = none) {k : Nat} (id : B8) (h : St w0 S O w f gs gc m n) (hE : Env w0) (hS : EnvS w0) (hg : Good k m) (hk : k ≤ 79800) (hn0 : 0 ≤ n) (hn1 : n ≤ 100000) (hid : id.length ≤ 1000000) :
    Calls Tryz.prog 49 #[.pointer (some ⟨gs, 0, none⟩), S8 id] w fun e w' => ∃ (O' : Nat → Prop) (n' : Int), e = .returned (.bool (hasO m id)) ∧ KeepB w w' ∧ (n ≤ n' ∧ n' ≤ n + 1) ∧ St w0 S O' w' f gs gc (getO m id).1 n' ∧ FrS O O' gs gc w w' := by
  refine (storeHas_any (KW := KwOf w O gs gc) id h.toK hE hS hg hk hn0 hn1 (by omega)).mono ?_
  rintro e w' ⟨O', n', he, hkb, hn, hst⟩
  obtain ⟨h1, h2⟩ := St.ofK hkp hst
  refine ⟨O', n', he, hkb, ?_, h2, h1⟩
  subst hn
  unfold gotN
  split <;> omega
end

end Go.Proofs.YtdhgmpibjneplaaGreatDoor

/-! scan: an index in memory; NewIndex, hash. Conditions: as each theorem states. -/
namespace Go.Proofs.YtdhgmpibjneplaaGreatDoor
open Go Go.RowKit Go.Sort
set_option linter.unusedVariables false
set_option linter.unusedSimpArgs false
set_option linter.unusedSectionVars false

def knV (f : Fi) : Value := .agg #[.int .i64 f.time, S8 f.data]
theorem zero_kn (w : World) : (zeroValue 101).run Tryz.prog w = .ok (.agg #[.int .i64 0, S8 []]) w := by kernel_rfl
/-- An index of the call's own, apart from the store. -/
structure Ixs (w0 : World) (O : Nat → Prop) (gs gc : Nat) (w : World) (gi gx : Nat) (ix : Files) (wr : Int) : Prop where
  row : w.heap[gi]? = some (.cells #[.map (some gx), .int .i64 wr] 91 (0, 0))
  map : IsMG knV w gx ix
  lo : w0.heap.size ≤ gi ∧ w0.heap.size ≤ gx
  oi : ¬ O gi ∧ gi ≠ gs ∧ gi ≠ gc
  ox : ¬ O gx ∧ gx ≠ gs ∧ gx ≠ gc
section
variable {w0 w w' : World} {O O' : Nat → Prop} {gs gc gi gx : Nat} {ix : Files} {wr : Int}
theorem Ixs.frs (h : Ixs w0 O gs gc w gi gx ix wr) (hf : FrS O O' gs gc w w') : Ixs w0 O' gs gc w' gi gx ix wr := by
  obtain ⟨a, b⟩ := hf.row h.row h.oi.1 h.oi.2.1 h.oi.2.2
  obtain ⟨es, ck, hk⟩ := h.map.kind
  obtain ⟨c, d⟩ := hf.row hk h.ox.1 h.ox.2.1 h.ox.2.2
  exact ⟨a, h.map.stay (c.trans hk.symm), h.lo, ⟨b, h.oi.2⟩, ⟨d, h.ox.2⟩⟩
theorem Ixs.ext (h : Ixs w0 O gs gc w gi gx ix wr) (hx : Ext w w') : Ixs w0 O gs gc w' gi gx ix wr := h.frs (FrS.ext hx)
theorem Ixs.lt (h : Ixs w0 O gs gc w gi gx ix wr) : gi < w.heap.size ∧ gx < w.heap.size := ⟨(Array.getElem?_eq_some_iff.1 h.row).1, h.map.lt⟩
end
set_option maxRecDepth 100000 in
theorem newIndex_any (w : World) : Calls Tryz.prog 13 #[] w fun e w' => (∃ gi gx, e = .returned (.pointer (some ⟨gi, 0, none⟩)) ∧ w'.heap[gi]? = some (.cells #[.map (some gx), .int .i64 0] 91 (0, 0)) ∧ IsMG knV w' gx [] ∧ w.heap.size = gx ∧ gi = gx + 1 ∧ w'.heap.size = gi + 1) ∧ Ext w w' := by
  have hmm := @run_makeMap Tryz.prog
  go_enter Tryz.func13, Tryz.ntmps13
  go_wp2
  go_ret
  obtain ⟨wa, hwa⟩ : ∃ wa, wa = w.alloc (.map #[] 0) := ⟨_, rfl⟩
  have hxa : Ext w wa := by rw [hwa]; exact (Ext.refl _).alloc _
  have hma : IsMG knV wa w.heap.size [] := by rw [hwa]; exact mg_made _ _
  rw [← hwa]
  have hsz : wa.heap.size = w.heap.size + 1 := by rw [hwa]; exact Array.size_push ..
  refine ⟨⟨w.heap.size + 1, w.heap.size, rfl, by rw [← hsz]; exact alloc_at _ _, hma.ext ((Ext.refl _).alloc _), rfl, rfl, ?_⟩, hxa.alloc _⟩
  show (wa.heap.push _).size = _
  rw [Array.size_push]; omega

/-- All blocks but X are as they were, and apart from the file system still. -/
def FrX (X O O' : Nat → Prop) (w w' : World) : Prop := ∀ k, k < w.heap.size → ¬ O k → ¬ X k → w'.heap[k]? = w.heap[k]? ∧ ¬ O' k
section
variable {X Y O O1 O2 O' : Nat → Prop} {w w1 w2 w' : World} {gs gc : Nat}
theorem FrX.of (h : FrS O O' gs gc w w') (h1 : X gs) (h2 : X gc) : FrX X O O' w w' := fun k hk hO hX => h k hk hO (fun e => hX (e ▸ h1)) (fun e => hX (e ▸ h2))
theorem FrX.ext (h : Ext w w1) : FrX X O O w w1 := fun k hk hO _ => ⟨h.block k hk, hO⟩
theorem FrX.lt (h : FrX X O O' w w') {k : Nat} (hk : k < w.heap.size) (hO : ¬ O k) (hX : ¬ X k) : k < w'.heap.size := by
  have : w'.heap[k]? = some (w.heap[k]'hk) := (h k hk hO hX).1.trans (Array.getElem?_eq_getElem hk)
  exact (Array.getElem?_eq_some_iff.1 this).1
theorem FrX.trans (h : FrX X O O1 w w1) (g : FrX X O1 O2 w1 w2) : FrX X O O2 w w2 := fun k hk hO hX => by
  obtain ⟨a, b⟩ := h k hk hO hX
  obtain ⟨c, d⟩ := g k (h.lt hk hO hX) b hX
  exact ⟨c.trans a, d⟩
theorem FrX.mono (h : FrX X O O' w w') (hXY : ∀ k, X k → Y k) : FrX Y O O' w w' := fun k hk hO hY => h k hk hO (fun hX => hY (hXY k hX))
theorem FrX.but {b : Nat} (h : w.grownBy w' (some b)) (hb : X b) : FrX X O O w w' := fun k hk hO hX => ⟨h.block k hk (fun e => hX (by cases e; exact hb)), hO⟩
theorem FrX.row (h : FrX X O O' w w') {k : Nat} {o : Obj} (hk : w.heap[k]? = some o) (hO : ¬ O k) (hX : ¬ X k) : w'.heap[k]? = some o ∧ ¬ O' k := by
  obtain ⟨a, b⟩ := h k (Array.getElem?_eq_some_iff.1 hk).1 hO hX
  exact ⟨a.trans hk, b⟩
end
theorem Ixs.frx {w0 w w' : World} {X O O' : Nat → Prop} {gs gc gi gx : Nat} {ix : Files} {wr : Int} (h : Ixs w0 O gs gc w gi gx ix wr) (hf : FrX X O O' w w') (h1 : ¬ X gi) (h2 : ¬ X gx) : Ixs w0 O' gs gc w' gi gx ix wr := by
  obtain ⟨a, b⟩ := hf.row h.row h.oi.1 h1
  obtain ⟨es, ck, hk⟩ := h.map.kind
  obtain ⟨c, d⟩ := hf.row hk h.ox.1 h2
  exact ⟨a, h.map.stay (c.trans hk.symm), h.lo, ⟨b, h.oi.2⟩, ⟨d, h.ox.2⟩⟩
def trM (m : Fs) (ix : Files) (wr : Int) (p : B8) (f : Fi) : Fs × Bool := if trustX ix wr p f.time = true then ((getO m (lookD ix p)).1, hasO m (lookD ix p)) else (m, false)
theorem hashX_eq (m : Fs) (ix : Files) (wr : Int) (p : B8) (f : Fi) : hashX m ix wr p f = if (trM m ix wr p f).2 = true then ((trM m ix wr p f).1, 0, lookD ix p, 0) else hashX1 (trM m ix wr p f).1 f.data := by
  unfold hashX trM
  split
  · rfl
  · rfl
def kn0 : Fi := ⟨0, [], 0⟩
def lookK (ix : Files) (p : B8) : Fi := (look ix p).getD kn0
theorem lookG_kn (ix : Files) (p : B8) : lookG knV (.agg #[.int .i64 0, S8 []]) ix p = .agg #[.int .i64 (lookK ix p).time, S8 (lookK ix p).data] := by
  unfold lookG lookK
  cases look ix p <;> rfl
theorem lookK_d (ix : Files) (p : B8) : lookD ix p = (lookK ix p).data := by
  unfold lookD lookK
  cases look ix p <;> rfl
theorem trust_eq (ix : Files) (wr : Int) (p : B8) (t : Int) : trustX ix wr p t = ((look ix p).isSome && (((lookK ix p).time == t) && decide ((lookK ix p).time < wr))) := by
  unfold trustX lookK
  cases look ix p with
  | none => rfl
  | some k => simp; rfl
theorem size_kn : (Tryz.prog.info? 101).map (·.size) = some 2 := by kernel_rfl

variable [Inhabited BaseW] [KW : Inhabited KeptW]
set_option maxRecDepth 100000 in
set_option maxHeartbeats 4000000 in
theorem hash_any (hkp : ∀ k, keptW k = none) {w0 w : World} {S O : Nat → Prop} {f : Value} {gs gc gi gx gw : Nat} {m : Fs} {n c wr : Int} {k : Nat} {ix : Files} (path : B8) (fi : Fi) (v : Value) (h : St w0 S O w f gs gc m n) (hE : Env w0) (hS : EnvS w0) (hg : Good k m) (hk : k ≤ 79000) (hn0 : 0 ≤ n) (hn1 : n ≤ 90000)
    (hI : Ixs w0 O gs gc w gi gx ix wr) (hw : w.heap[gw]? = some (.cells #[.int .i64 c] 128 (0, 0))) (hwo : w0.heap.size ≤ gw ∧ ¬ O gw ∧ gw ≠ gs ∧ gw ≠ gc ∧ ¬ S gw) (hc0 : 0 ≤ c) (hc1 : c ≤ 100000) (hp : path.length ≤ 1000000) (hv : IsBytes w v fi.data ∧ TypB w v) (hdl : fi.data.length ≤ 20000) (hid : ∀ p e, look ix p = some e → e.data.length ≤ 1000000) :
    Calls Tryz.prog 42 #[.pointer (some ⟨gi, 0, none⟩), .pointer (some ⟨gs, 0, none⟩), S8 path, fiV fi v, .pointer (some ⟨gw, 0, none⟩)] w fun e w' => ∃ (O' : Nat → Prop) (n' : Int), e = .returned (.tuple #[S8 (hashX m ix wr path fi).2.2.1, .int .i64 (hashX m ix wr path fi).2.2.2]) ∧ (n ≤ n' ∧ n' ≤ n + 2) ∧ St w0 S O' w' f gs gc (hashX m ix wr path fi).1 n' ∧ w'.heap[gw]? = some (.cells #[.int .i64 (c + (hashX m ix wr path fi).2.1)] 128 (0, 0)) ∧ ¬ O' gw ∧ FrX (fun j => j = gs ∨ j = gc ∨ j = gw) O O' w w' := by
  obtain ⟨hvb, hvt⟩ := hv
  obtain ⟨s1, t1, rfl, -⟩ := id hvb
  obtain ⟨wa, hwa⟩ : ∃ wa, wa = w.alloc (.cells #[.int .i64 fi.mode, .slice s1 fi.data.length t1, .int .i64 fi.time] 96) := ⟨_, rfl⟩
  have hxa : Ext w wa := by rw [hwa]; exact (Ext.refl _).alloc _
  have hba : wa.heap[w.heap.size]? = some (.cells #[.int .i64 fi.mode, .slice s1 fi.data.length t1, .int .i64 fi.time] 96 (0, 0)) := by rw [hwa]; exact alloc_at _ _
  have hIa := hI.ext hxa
  obtain ⟨hlk, -⟩ := hIa.map.look_run 89 101 _ Tryz.underlying89 (zero_kn wa) path hp
  rw [lookG_kn] at hlk
  have hdd := lookK_d ix path
  have htq := trust_eq ix wr path fi.time
  have hkl : (lookK ix path).data.length ≤ 1000000 := by
    unfold lookK
    cases hq : look ix path with
    | none => exact Nat.zero_le _
    | some e => exact hid path e hq
  have hHX := hashX_eq m ix wr path fi
  unfold trM at hHX
  rw [hdd, htq] at hHX
  obtain ⟨r, hr⟩ : ∃ r, hashX m ix wr path fi = r := ⟨_, rfl⟩
  rw [hr] at hHX ⊢
  generalize lookK ix path = e0 at hlk hkl hHX
  generalize (look ix path).isSome = ok at hlk hHX
  have i0 : wa.cell? ⟨gi, 0, none⟩ = some (.map (some gx)) := (cell_of_row _ _ 0 _ _ _ hIa.row).trans rfl
  have HHX : Hid _ := hHX
  have HI : Hid (Ixs w0 O gs gc w gi gx ix wr) := hI
  have H : Hid (St w0 S O w f gs gc m n) := h
  have HE : Hid (Env w0) := hE
  have HS : Hid (EnvS w0) := hS
  have HG : Hid (Good k m) := hg
  have HW : Hid _ := hw
  have HWO : Hid _ := hwo
  have HVB : Hid (IsBytes w (.slice s1 fi.data.length t1) fi.data) := hvb
  have HVT : Hid (TypB w (.slice s1 fi.data.length t1)) := hvt
  have HXA : Hid (Ext w wa) := hxa
  have HBA : Hid _ := hba
  have HWA : Hid _ := hwa
  have HKP : Hid (∀ k, keptW k = none) := hkp
  clear hI h hE hS hg hw hwo hvb hvt hxa hba hwa hIa hdd htq hHX hr hid hkp
  unfold fiV
  go_enter Tryz.func42, Tryz.ntmps42
  go_upto_region 1 with fail
  rw [← HWA.out]
  go_wp2_with (refine wpList_store_row rfl 101 (.tmp 12) (.tmp 21) rfl _ #[.int .i64 e0.time, S8 e0.data] rfl rfl 101 _ (alloc_at _ _) size_kn rfl (by simp [Value.oneCell']) ?_)
  obtain ⟨w2, hw2⟩ : ∃ w2, w2 = (wa.alloc (.cells #[.int .i64 0, .string ⟨#[]⟩] 101)).setRow wa.heap.size #[.int .i64 e0.time, S8 e0.data] := ⟨_, rfl⟩
  rw [← hw2]
  have hxk : Ext wa (wa.alloc (.cells #[.int .i64 0, .string ⟨#[]⟩] 101)) := (Ext.refl _).alloc _
  have hx2 : Ext w w2 := by rw [hw2]; exact (HXA.out.trans hxk).setRow _ _ HXA.out.size
  have hb2 : w2.heap[wa.heap.size]? = some (.cells #[.int .i64 e0.time, S8 e0.data] 101 (0, 0)) := by rw [hw2]; exact setRow_heap _ _ _ _ _ _ (alloc_at _ _)
  have ha2 : w2.heap[w.heap.size]? = some (.cells #[.int .i64 fi.mode, .slice s1 fi.data.length t1, .int .i64 fi.time] 96 (0, 0)) := by
    rw [hw2]
    exact but_row (setRow_grown _ _ _) (Ext.row hxk HBA.out) (by have := (Array.getElem?_eq_some_iff.1 HBA.out).1; omega)
  obtain ⟨gk, hgk⟩ : ∃ gk, wa.heap.size = gk := ⟨_, rfl⟩
  have hgk1 : w.heap.size < gk := by rw [← hgk]; exact (Array.getElem?_eq_some_iff.1 HBA.out).1
  rw [hgk] at hb2 ⊢
  clear hw2 hxk hlk i0 HWA HBA HXA hgk
  have HX2 : Hid (Ext w w2) := hx2
  have HB2 : Hid _ := hb2
  have HA2 : Hid _ := ha2
  have H2 : Hid (St w0 S O w2 f gs gc m n) := H.out.more hx2
  have hI2 := HI.out.ext hx2
  have hsz2 := hx2.size
  have c1 : w2.cell? ⟨gi, 1, none⟩ = some (.int .i64 wr) := (cell_of_row _ _ 1 _ _ _ hI2.row).trans rfl
  have k0 : w2.cell? ⟨gk, 0, none⟩ = some (.int .i64 e0.time) := (cell_of_row _ _ 0 _ _ _ hb2).trans rfl
  have k1 : w2.cell? ⟨gk, 1, none⟩ = some (S8 e0.data) := (cell_of_row _ _ 1 _ _ _ hb2).trans rfl
  have f2 : w2.cell? ⟨w.heap.size, 2, none⟩ = some (.int .i64 fi.time) := (cell_of_row _ _ 2 _ _ _ ha2).trans rfl
  clear hx2 hb2 ha2 hI2
  go_cut [45] (fun cb wx => ∃ (O1 : Nat → Prop) (n1 : Int) (b : Bool) (M1 : Fs), cb = .bool b ∧ Hid (St w0 S O1 wx f gs gc M1 n1) ∧ Hid (FrS O O1 gs gc w2 wx) ∧ Hid (KeepB w2 wx) ∧ (n ≤ n1 ∧ n1 ≤ n + 1) ∧ Hid (Good (k + 1) M1) ∧ Hid (r = if b = true then (M1, 0, e0.data, 0) else hashX1 M1 fi.data))
  case first =>
    by_cases htr : ok = true ∧ e0.time = fi.time ∧ e0.time < wr
    · obtain ⟨rfl, h1, h2⟩ := htr
      have h1b : (e0.time == fi.time) = true := by simpa using h1
      have hHR : r = if hasO m e0.data = true then ((getO m e0.data).1, 0, e0.data, 0) else hashX1 (getO m e0.data).1 fi.data := by
        have h9 := HHX.out
        rw [h1b, decide_eq_true h2] at h9
        exact h9
      obtain ⟨hb, hhb⟩ : ∃ b, hasO m e0.data = b := ⟨_, rfl⟩
      obtain ⟨m1, hm1⟩ : ∃ m1, (getO m e0.data).1 = m1 := ⟨_, rfl⟩
      have hgm : Good (k + 1) m1 := by rw [← hm1]; exact good_getO HG.out _
      rw [hhb, hm1] at hHR
      have HR : Hid _ := hHR
      have HGM : Hid _ := hgm
      have HHB : Hid _ := hhb
      have HM1 : Hid _ := hm1
      clear hHR hgm hhb hm1 h1
      apply wp_region_mix 21 [_, _, _, .int .i64 e0.time, _, .int .i64 fi.time, .bool true, _, _, _, .int .i64 e0.time, _, _, _, .int .i64 wr, .bool true, _, _, _, _, S8 e0.data] [none, none, none, none, none, none, none, none, none, none, none, none, none, none, none, none, none, none, none, none, none] [[], [0], [1], [1, 2], [1], [1, 4], [1, 3, 5], [1, 6], [7], [8], [8, 9], [8], [8, 11], [8, 12], [8, 13], [8, 10, 14], [8, 15], [16], [17], [17], [17, 19]] (by kernel_rfl) (by kernel_rfl) (by simp [mixV])
      · trivial
      · simp (maxSteps := 1000000) only [List.take_succ_cons, List.take_zero, oblFrom, stepObl, fillFrom, Act.put, List.setIfInBounds_toArray, List.set_cons_zero, List.set_cons_succ, knows, getV, mixV, List.getD_cons_zero, List.getD_cons_succ, and_true, true_and, forall_const]
        refine ⟨?_, ?_, ?_, ?_, ?_, ?_, ?_, ?_, ?_, ?_, ?_, ?_, ?_, ?_, ?_, ?_, ?_, ?_, ?_, ?_, ?_⟩
        · intro xs wq hq R hR
          have g1 := hq.cell c1; have g2 := hq.cell k0; have g3 := hq.cell k1; have g4 := hq.cell f2
          go_simp
          exact hR _ _ (Ext.refl _) rfl
        · intro xs wq hq hk R hR
          have g1 := hq.cell c1; have g2 := hq.cell k0; have g3 := hq.cell k1; have g4 := hq.cell f2
          go_simp
          exact hR _ _ (Ext.refl _) rfl
        · intro xs wq hq hk R hR
          have g1 := hq.cell c1; have g2 := hq.cell k0; have g3 := hq.cell k1; have g4 := hq.cell f2
          go_simp
          exact hR _ _ (Ext.refl _) rfl
        · intro xs wq hq hk R hR
          obtain ⟨hk0, hk1⟩ := hk
          have g1 := hq.cell c1; have g2 := hq.cell k0; have g3 := hq.cell k1; have g4 := hq.cell f2
          go_simp
          exact hR _ _ (Ext.refl _) rfl
        · intro xs wq hq hk R hR
          have g1 := hq.cell c1; have g2 := hq.cell k0; have g3 := hq.cell k1; have g4 := hq.cell f2
          go_simp
          exact hR _ _ (Ext.refl _) rfl
        · intro xs wq hq hk R hR
          obtain ⟨hk0, hk1⟩ := hk
          have g1 := hq.cell c1; have g2 := hq.cell k0; have g3 := hq.cell k1; have g4 := hq.cell f2
          go_simp
          exact hR _ _ (Ext.refl _) rfl
        · intro xs wq hq hk R hR
          obtain ⟨hk0, hk1, hk2⟩ := hk
          have g1 := hq.cell c1; have g2 := hq.cell k0; have g3 := hq.cell k1; have g4 := hq.cell f2
          go_simp
          exact hR _ _ (Ext.refl _) rfl
        · intro xs wq hq hk R hR
          obtain ⟨hk0, hk1⟩ := hk
          have g1 := hq.cell c1; have g2 := hq.cell k0; have g3 := hq.cell k1; have g4 := hq.cell f2
          go_simp
          exact hR _ _ (Ext.refl _) rfl
        · intro xs wq hq hk R hR
          have g1 := hq.cell c1; have g2 := hq.cell k0; have g3 := hq.cell k1; have g4 := hq.cell f2
          go_simp
          exact hR _ _ (Ext.refl _) rfl
        · intro xs wq hq hk R hR
          have g1 := hq.cell c1; have g2 := hq.cell k0; have g3 := hq.cell k1; have g4 := hq.cell f2
          go_simp
          exact hR _ _ (Ext.refl _) rfl
        · intro xs wq hq hk R hR
          obtain ⟨hk0, hk1⟩ := hk
          have g1 := hq.cell c1; have g2 := hq.cell k0; have g3 := hq.cell k1; have g4 := hq.cell f2
          go_simp
          exact hR _ _ (Ext.refl _) rfl
        · intro xs wq hq hk R hR
          have g1 := hq.cell c1; have g2 := hq.cell k0; have g3 := hq.cell k1; have g4 := hq.cell f2
          go_simp
          exact hR _ _ (Ext.refl _) rfl
        · intro xs wq hq hk R hR
          obtain ⟨hk0, hk1⟩ := hk
          have g1 := hq.cell c1; have g2 := hq.cell k0; have g3 := hq.cell k1; have g4 := hq.cell f2
          go_simp
          exact hR _ _ (Ext.refl _) rfl
        · intro xs wq hq hk R hR
          obtain ⟨hk0, hk1⟩ := hk
          have g1 := hq.cell c1; have g2 := hq.cell k0; have g3 := hq.cell k1; have g4 := hq.cell f2
          go_simp
          exact hR _ _ (Ext.refl _) rfl
        · intro xs wq hq hk R hR
          obtain ⟨hk0, hk1⟩ := hk
          have g1 := hq.cell c1; have g2 := hq.cell k0; have g3 := hq.cell k1; have g4 := hq.cell f2
          go_simp
          exact hR _ _ (Ext.refl _) rfl
        · intro xs wq hq hk R hR
          obtain ⟨hk0, hk1, hk2⟩ := hk
          have g1 := hq.cell c1; have g2 := hq.cell k0; have g3 := hq.cell k1; have g4 := hq.cell f2
          go_simp
          exact hR _ _ (Ext.refl _) rfl
        · intro xs wq hq hk R hR
          obtain ⟨hk0, hk1⟩ := hk
          have g1 := hq.cell c1; have g2 := hq.cell k0; have g3 := hq.cell k1; have g4 := hq.cell f2
          go_simp
          exact hR _ _ (Ext.refl _) rfl
        · intro xs wq hq hk R hR
          have g1 := hq.cell c1; have g2 := hq.cell k0; have g3 := hq.cell k1; have g4 := hq.cell f2
          go_simp
          exact hR _ _ (Ext.refl _) rfl
        · intro xs wq hq hk R hR
          have g1 := hq.cell c1; have g2 := hq.cell k0; have g3 := hq.cell k1; have g4 := hq.cell f2
          go_simp
          exact hR _ _ (Ext.refl _) rfl
        · intro xs wq hq hk R hR
          have g1 := hq.cell c1; have g2 := hq.cell k0; have g3 := hq.cell k1; have g4 := hq.cell f2
          go_simp
          exact hR _ _ (Ext.refl _) rfl
        · intro xs wq hq hk R hR
          obtain ⟨hk0, hk1⟩ := hk
          have g1 := hq.cell c1; have g2 := hq.cell k0; have g3 := hq.cell k1; have g4 := hq.cell f2
          go_simp
          exact hR _ _ (Ext.refl _) rfl
      intro xs w3 hx3 hk
      simp only [heldV, Nat.zero_add, Nat.reduceAdd, and_true] at hk
      have q0 := hk.1
      replace hk := hk.2
      have q1 := hk.1
      replace hk := hk.2
      have q2 := hk.1
      replace hk := hk.2
      have q3 := hk.1
      replace hk := hk.2
      have q4 := hk.1
      replace hk := hk.2
      have q5 := hk.1
      replace hk := hk.2
      have q6 := hk.1
      replace hk := hk.2
      have q7 := hk.1
      replace hk := hk.2
      have q8 := hk.1
      replace hk := hk.2
      have q9 := hk.1
      replace hk := hk.2
      have q10 := hk.1
      replace hk := hk.2
      have q11 := hk.1
      replace hk := hk.2
      have q12 := hk.1
      replace hk := hk.2
      have q13 := hk.1
      replace hk := hk.2
      have q14 := hk.1
      replace hk := hk.2
      have q15 := hk.1
      replace hk := hk.2
      have q16 := hk.1
      replace hk := hk.2
      have q17 := hk.1
      replace hk := hk.2
      have q18 := hk.1
      replace hk := hk.2
      have q19 := hk.1
      replace hk := hk.2
      have q20 := hk
      clear hk
      simp (maxSteps := 1000000) only [List.take_succ_cons, List.take_zero, List.drop_succ_cons, List.drop_zero, fillFrom, Act.put, List.setIfInBounds_toArray, List.set_cons_zero, List.set_cons_succ, Nat.zero_add, Nat.reduceAdd, q0, q1, q2, q3, q4, q5, q6, q7, q8, q9, q10, q11, q12, q13, q14, q15, q16, q17, q18, q19, q20]
      clear q0 q1 q2 q3 q4 q5 q6 q7 q8 q9 q10 q11 q12 q13 q14 q15 q16 q17 q18 q19 q20
      have HX3 : Hid (Ext w2 w3) := hx3
      have hc := hasF_any HKP.out e0.data (H2.out.more hx3) HE.out HS.out HG.out (by omega) hn0 (by omega) hkl
      rw [HHB.out, HM1.out] at hc
      have HC : Hid _ := hc
      clear hx3 hc c1 k0 k1 f2 HHX
      go_wp2_with fail
      go_at_call 49
      refine Calls.mono HC.out ?_
      rintro e w4 ⟨O4, n4, rfl, hkb, hn4, hst, hfr⟩
      go_wp2_with fail
      go_meet
      case rel => exact ⟨O4, n4, hb, m1, rfl, hst, (FrS.ext HX3.out).trans hfr, (KeepB.of_ext HX3.out).trans hkb, hn4, HGM.out, HR.out⟩
    · have hfl : (ok && ((e0.time == fi.time) && decide (e0.time < wr))) = false := by
        cases ok with
        | false => rfl
        | true =>
          rw [Bool.true_and, Bool.and_eq_false_iff]
          by_cases h1 : e0.time = fi.time
          · exact .inr (decide_eq_false fun h2 => htr ⟨rfl, h1, h2⟩)
          · exact .inl (by simpa using h1)
      have HR : Hid (r = hashX1 m fi.data) := by
        have h9 := HHX.out
        rw [hfl] at h9
        exact h9
      have v0 := fun d os => cell_regrown c1 d os
      have v1 := fun d os => cell_regrown k0 d os
      have v2 := fun d os => cell_regrown f2 d os
      clear c1 k0 k1 f2
      have fin : ∀ d os, ∃ (O1 : Nat → Prop) (n1 : Int) (b : Bool) (M1 : Fs), Value.bool false = .bool b ∧ Hid (St w0 S O1 (grow (redrawn w2 d) os) f gs gc M1 n1) ∧ Hid (FrS O O1 gs gc w2 (grow (redrawn w2 d) os)) ∧ Hid (KeepB w2 (grow (redrawn w2 d) os)) ∧ (n ≤ n1 ∧ n1 ≤ n + 1) ∧ Hid (Good (k + 1) M1) ∧ Hid (r = if b = true then (M1, 0, e0.data, 0) else hashX1 M1 fi.data) :=
        fun d os => ⟨O, n, false, m, rfl, H2.out.more (Ext.regrown _ _ _), FrS.ext (Ext.regrown _ _ _), KeepB.of_ext (Ext.regrown _ _ _), ⟨by omega, by omega⟩, HG.out.mono (by omega), HR.out⟩
      have FIN : Hid _ := fin
      clear fin hfl
      cases ok with
      | false =>
        clear htr
        refine qw_below (by kernel_rfl) (by kernel_rfl) ?_
        repeat (refine qw_step (fun K hK => ?_); go_simp; (refine hK _ ?_; clear hK K))
        refine qw_nil ?_
        intro _ hw'
        obtain ⟨⟨dq, osq⟩, hw''⟩ := hw'
        subst hw''
        go_wp2_with fail
        go_meet
        case rel => exact FIN.out _ _
      | true =>
        by_cases h1 : e0.time = fi.time
        · have h1b : (e0.time == fi.time) = true := by simpa using h1
          have h2 : ¬ e0.time < wr := fun h2 => htr ⟨rfl, h1, h2⟩
          clear htr h1
          refine qw_below (by kernel_rfl) (by kernel_rfl) ?_
          repeat (refine qw_step (fun K hK => ?_); go_simp; (refine hK _ ?_; clear hK K))
          refine qw_nil ?_
          intro _ hw'
          obtain ⟨⟨dq, osq⟩, hw''⟩ := hw'
          subst hw''
          go_wp2_with fail
          go_meet
          case rel => exact FIN.out _ _
        · have h1b : (e0.time == fi.time) = false := by simpa using h1
          clear htr h1
          refine qw_below (by kernel_rfl) (by kernel_rfl) ?_
          repeat (refine qw_step (fun K hK => ?_); go_simp; (refine hK _ ?_; clear hK K))
          refine qw_nil ?_
          intro _ hw'
          obtain ⟨⟨dq, osq⟩, hw''⟩ := hw'
          subst hw''
          go_wp2_with fail
          go_meet
          case rel => exact FIN.out _ _
  case rest =>
  obtain ⟨O1, n1, b, M1, rfl, HST, HFR, HKB, ⟨hn2, hn3⟩, HGM, HR⟩ := hcut
  obtain ⟨wx, hwx⟩ : ∃ wx : World, wx = wc := ⟨_, rfl⟩
  subst hwx
  have hno : ∀ j, w.heap.size ≤ j → ¬ O j ∧ j ≠ gs ∧ j ≠ gc := fun j hj => by
    have h1 := H.out.lt
    exact ⟨fun ho => by have := (H.out.one.lo j ho).2; omega, by omega, by omega⟩
  obtain ⟨q1, q2, q3⟩ := hno gk (by omega)
  obtain ⟨p1, p2, p3⟩ := hno w.heap.size (Nat.le_refl _)
  obtain ⟨hbx, -⟩ := HFR.out.row HB2.out q1 q2 q3
  obtain ⟨hax, -⟩ := HFR.out.row HA2.out p1 p2 p3
  obtain ⟨hwx, hwo⟩ := HFR.out.row (Ext.row HX2.out HW.out) HWO.out.2.1 HWO.out.2.2.1 HWO.out.2.2.2.1
  have hvx : IsBytes wx (.slice s1 fi.data.length t1) fi.data := Row.keepB (IsBytes.ext HVB.out HX2.out) (HVT.out.keep (KeepB.of_ext HX2.out)) HKB.out
  have hvtx : TypB wx (.slice s1 fi.data.length t1) := (HVT.out.keep (KeepB.of_ext HX2.out)).keep HKB.out
  have kk1 : wx.cell? ⟨gk, 1, none⟩ = some (S8 e0.data) := (cell_of_row _ _ 1 _ _ _ hbx).trans rfl
  have ff1 : wx.cell? ⟨w.heap.size, 1, none⟩ = some (.slice s1 fi.data.length t1) := (cell_of_row _ _ 1 _ _ _ hax).trans rfl
  have HAX : Hid _ := hax
  have HWX : Hid _ := hwx
  have HWOX : Hid (¬ O1 gw) := hwo
  have HVX : Hid _ := hvx
  have HVTX : Hid _ := hvtx
  have HF2 : Hid (FrX (fun j => j = gs ∨ j = gc ∨ j = gw) O O1 w wx) := (FrX.ext HX2.out).trans (FrX.of HFR.out (.inl rfl) (.inr (.inl rfl)))
  clear hbx hax hwx hvx hvtx c1 k0 k1 f2 HFR HKB HA2 HB2 hwo hno q1 q2 q3 p1 p2 p3
  cases b with
  | true =>
    have hr : r = (M1, 0, e0.data, 0) := HR.out
    have HRR : Hid _ := hr
    clear hr HR
    go_wp2
    go_ret2
    rw [HRR.out]
    exact ⟨O1, n1, rfl, ⟨hn2, by omega⟩, HST.out, by simpa using HWX.out, HWOX.out, HF2.out⟩
  | false =>
    have hr : r = hashX1 M1 fi.data := HR.out
    unfold hashX1 at hr
    by_cases hl : 4096 < fi.data.length
    · have hlb : (4096 : Int) < (fi.data.length : Int) := by omega
      rw [if_pos hl] at hr
      have HRR : Hid _ := hr
      clear HR hl hr
      go_wp2
      go_ret2
      rw [HRR.out]
      exact ⟨O1, n1, rfl, ⟨hn2, by omega⟩, HST.out, by simpa using HWX.out, HWOX.out, HF2.out⟩
    · have hlb : ¬ (4096 : Int) < (fi.data.length : Int) := by omega
      rw [if_neg hl] at hr
      have HRR : Hid _ := hr
      clear HR hl hr
      go_wp2_with fail
      go_at_call 82
      refine (counterAdd_any HWX.out hc0 (by omega)).mono ?_
      rintro e w6 ⟨rfl, hc6, hg6⟩
      have hu6 : ¬ IsU8 wx gw := cells_u8 HWX.out (by kernel_rfl)
      have hS6 : ¬ S gw := HWO.out.2.2.2.2
      have hwr := HWO.out
      have H6 : Hid (St w0 S O1 w6 f gs gc M1 n1) := HST.out.but hg6 hwr.1 HWOX.out hS6 hu6 (fun e => hwr.2.2.1 e.symm) (fun e => hwr.2.2.2.1 e.symm) (HKP.out gw)
      have hk6 : KeepB wx w6 := KeepB.of_grown hg6 HWX.out (by kernel_rfl)
      have hv6 : IsBytes w6 (.slice s1 fi.data.length t1) fi.data := Row.keepB HVX.out HVTX.out hk6
      have hne6 : w.heap.size ≠ gw := by have := (Array.getElem?_eq_some_iff.1 HW.out).1; omega
      have ff6 : w6.cell? ⟨w.heap.size, 1, none⟩ = some (.slice s1 fi.data.length t1) := (cell_of_row _ _ 1 _ _ _ (but_row hg6 HAX.out hne6)).trans rfl
      have hob : IsOb w6 (obV (blobO fi.data) (.slice s1 fi.data.length t1) (.slice none 0 0) (.slice none 0 0)) (blobO fi.data) := ⟨_, _, _, rfl, hv6, Row.nil _, IsStrs.nil _⟩
      have hsm : ObSmall (blobO fi.data) := ⟨(fun x hx => by cases hx), (fun x hx => by cases hx), Nat.zero_le _, Nat.zero_le _⟩
      have hpc := putObjF_any HKP.out _ (blobO fi.data) H6.out HE.out HS.out HGM.out (by omega) (by omega) (by omega) hob hsm
      have HPC : Hid _ := hpc
      have HC6 : Hid _ := hc6
      have HG6 : Hid (wx.grownBy w6 (some gw)) := hg6
      clear hpc hob hsm hk6 hc6 hg6 hu6 hv6 hS6 kk1 ff1 hwr hne6
      go_wp2_with fail
      go_at_call 35
      refine Calls.mono HPC.out ?_
      rintro e w7 ⟨O7, n7, rfl, hn7, hst7, hfr7⟩
      obtain ⟨hw7, ho7⟩ := hfr7.row HC6.out HWOX.out HWO.out.2.2.1 HWO.out.2.2.2.1
      have HF7 : Hid (FrX (fun j => j = gs ∨ j = gc ∨ j = gw) O O7 w w7) := (HF2.out.trans (FrX.but HG6.out (.inr (.inr rfl)))).trans (FrX.of hfr7 (.inl rfl) (.inr (.inl rfl)))
      have H7 : Hid _ := hst7
      have HW7 : Hid _ := hw7
      have HO7 : Hid (¬ O7 gw) := ho7
      clear hst7 hw7 ho7 hfr7
      go_wp2
      go_ret2
      rw [HRR.out]
      exact ⟨O7, n7, rfl, ⟨by omega, by omega⟩, H7.out, by simpa using HW7.out, HO7.out, HF7.out⟩

end Go.Proofs.YtdhgmpibjneplaaGreatDoor

/-! names: Pattern, takes, Ignored. Conditions: texts of at most 1000000 signs. -/
namespace Go.Proofs.YtdhgmpibjneplaaGreatDoor
open Go Go.RowKit
set_option linter.unusedVariables false
set_option linter.unusedSimpArgs false
set_option linter.unusedSectionVars false

theorem patS_len (p : B8) : (patS p).length ≤ p.length := by
  unfold patS Lib.trimSuffix
  split
  · rw [List.length_take]; omega
  · exact Nat.le_refl _
theorem trimS_any (p : B8) (w : World) (hp : p.length ≤ 1000000) : Calls Tryz.prog 127 #[S8 p, .string ⟨#[47]⟩] w fun e w' => e = .returned (S8 (patS p)) ∧ w' = w :=
  Tryz.strings_TrimSuffix ⟨p.toArray⟩ ⟨#[47]⟩ w (by simp [ByteArray.size]; omega)
theorem count_any (q : B8) (w : World) : Calls Tryz.prog 128 #[S8 q, .string ⟨#[42]⟩] w fun e w' => e = .returned (.int .i64 (q.count 42 : Nat)) ∧ w' = w :=
  Tryz.strings_Count_one ⟨q.toArray⟩ 42 w
theorem scutS_s (s p : ByteArray) (w : World) (hs : s.size ≤ 9223372036854775807) :
    Calls Tryz.prog 129 #[.string s, .string p] w fun e w' => e = .returned (.tuple #[.string ⟨(Lib.trimSuffix s.data.toList p.data.toList).toArray⟩, .bool (Lib.hasSuffix s.data.toList p.data.toList)]) ∧ w' = w := by
  by_cases h1 : p.size ≤ s.size
  · cases h2 : ((s.extract (s.size - p.size) s.size).toList == p.toList)
    · have hh : Lib.hasSuffix s.data.toList p.data.toList = false := by rw [← Lib.hasSuffix_raw, h2]; simp
      go_enter Tryz.func129, Tryz.ntmps129
      go_wp2_with (go_at_call 166; refine (Tryz.stringslite_HasSuffix _ _ _ hs).mono ?_; rintro e w' ⟨rfl, hw⟩; rw [hw, hh])
      go_ret2
      refine ⟨?_, rfl⟩
      rw [Lib.trimSuffix_miss s p (by rw [h2]; simp), hh]
      rfl
    · have hh : Lib.hasSuffix s.data.toList p.data.toList = true := by rw [← Lib.hasSuffix_raw, h2]; simp [h1]
      go_enter Tryz.func129, Tryz.ntmps129
      go_wp2_with (go_at_call 166; refine (Tryz.stringslite_HasSuffix _ _ _ hs).mono ?_; rintro e w' ⟨rfl, hw⟩; rw [hw, hh])
      go_ret2
      refine ⟨?_, rfl⟩
      rw [Lib.trimSuffix_hit s p h1 h2, hh]
      rfl
  · have hh : Lib.hasSuffix s.data.toList p.data.toList = false := by rw [← Lib.hasSuffix_raw]; simp [h1]
    go_enter Tryz.func129, Tryz.ntmps129
    go_wp2_with (go_at_call 166; refine (Tryz.stringslite_HasSuffix _ _ _ hs).mono ?_; rintro e w' ⟨rfl, hw⟩; rw [hw, hh])
    go_ret2
    refine ⟨?_, rfl⟩
    rw [Lib.trimSuffix_miss s p (by simp [h1]), hh]
    rfl
theorem cutS_any (p q : B8) (w : World) (hs : p.length ≤ 1000000) :
    Calls Tryz.prog 80 #[S8 p, S8 q] w fun e w' => e = .returned (.tuple #[S8 (Lib.trimSuffix p q), .bool (q.isSuffixOf p)]) ∧ w' = w := by
  have hc := scutS_s ⟨p.toArray⟩ ⟨q.toArray⟩ w (by simp [ByteArray.size]; omega)
  have HC : Hid _ := hc
  clear hc
  go_enter Tryz.func80, Tryz.ntmps80
  go_wp2_with (go_at_call 129; refine Calls.mono HC.out ?_; rintro e w' ⟨rfl, hw⟩; rw [hw])
  go_ret2
  exact ⟨rfl, rfl⟩
theorem scutP_s (s p : ByteArray) (w : World) :
    Calls Tryz.prog 167 #[.string s, .string p] w fun e w' => e = .returned (.tuple #[.string ⟨(Lib.trimPrefix s.data.toList p.data.toList).toArray⟩, .bool (Lib.hasPrefix s.data.toList p.data.toList)]) ∧ w' = w := by
  by_cases h1 : p.size ≤ s.size
  · cases h2 : ((s.extract 0 p.size).toList == p.toList)
    · have hh : Lib.hasPrefix s.data.toList p.data.toList = false := by rw [← Lib.hasPrefix_raw, h2]; simp
      go_enter Tryz.func167, Tryz.ntmps167
      go_wp2_with (go_at_call 111; refine (Tryz.stringslite_HasPrefix _ _ _).mono ?_; rintro e w' ⟨rfl, hw⟩; rw [hw, hh])
      go_ret2
      refine ⟨?_, rfl⟩
      rw [Lib.trimPrefix_miss s p (by rw [h2]; simp), hh]
      rfl
    · have hh : Lib.hasPrefix s.data.toList p.data.toList = true := by rw [← Lib.hasPrefix_raw, h2]; simp [h1]
      go_enter Tryz.func167, Tryz.ntmps167
      go_wp2_with (go_at_call 111; refine (Tryz.stringslite_HasPrefix _ _ _).mono ?_; rintro e w' ⟨rfl, hw⟩; rw [hw, hh])
      go_ret2
      refine ⟨?_, rfl⟩
      rw [Lib.trimPrefix_hit s p h1 h2, hh]
      rfl
  · have hh : Lib.hasPrefix s.data.toList p.data.toList = false := by rw [← Lib.hasPrefix_raw]; simp [h1]
    go_enter Tryz.func167, Tryz.ntmps167
    go_wp2_with (go_at_call 111; refine (Tryz.stringslite_HasPrefix _ _ _).mono ?_; rintro e w' ⟨rfl, hw⟩; rw [hw, hh])
    go_ret2
    refine ⟨?_, rfl⟩
    rw [Lib.trimPrefix_miss s p (by simp [h1]), hh]
    rfl
theorem cutP_any (p q : B8) (w : World) :
    Calls Tryz.prog 130 #[S8 p, S8 q] w fun e w' => e = .returned (.tuple #[S8 (Lib.trimPrefix p q), .bool (q.isPrefixOf p)]) ∧ w' = w := by
  have hc := scutP_s ⟨p.toArray⟩ ⟨q.toArray⟩ w
  have HC : Hid _ := hc
  clear hc
  go_enter Tryz.func130, Tryz.ntmps130
  go_wp2_with (go_at_call 167; refine Calls.mono HC.out ?_; rintro e w' ⟨rfl, hw⟩; rw [hw])
  go_ret2
  exact ⟨rfl, rfl⟩
theorem patB_eq (p : B8) : patB p = (nameB (patS p) && (decide ((patS p).count 42 = 0) || (decide ((patS p).count 42 = 1) && (decide (1 < (patS p).length) && (decide ((patS p).head? = some 42) || decide ((patS p).getLast? = some 42)))))) := rfl
theorem sign_at (q : B8) (k : Nat) (h : k < q.length) : ((((⟨q.toArray⟩ : ByteArray)[k]'(by simpa [ByteArray.size] using h)).toNat : Int) == 42) = decide (q[k]? = some 42) := by
  rw [List.getElem?_eq_getElem h, Bool.eq_iff_iff, beq_iff_eq, decide_eq_true_eq, Option.some.injEq]
  show ((q[k]'h).toNat : Int) = 42 ↔ _
  constructor
  · intro e
    exact UInt8.toNat_inj.1 (by show _ = 42; omega)
  · intro e
    rw [e]
    rfl
set_option maxRecDepth 100000 in
theorem pattern_any (p : B8) (w : World) (hp : p.length ≤ 1000000) : Calls Tryz.prog 79 #[S8 p] w fun e w' => e = .returned (.bool (patB p)) ∧ w' = w := by
  have hq := patS_len p
  have HT : Hid _ := trimS_any p w hp
  rw [patB_eq]
  generalize patS p = q at hq HT ⊢
  obtain ⟨nb, hnb⟩ : ∃ nb, nameB q = nb := ⟨_, rfl⟩
  have HNB : Hid _ := hnb
  rw [hnb]
  obtain ⟨c, hc⟩ : ∃ c, q.count 42 = c := ⟨_, rfl⟩
  have HC : Hid _ := hc
  have hcl : c ≤ q.length := by rw [← hc]; exact List.count_le_length
  rw [hc]
  clear hnb hc
  go_enter Tryz.func79, Tryz.ntmps79
  go_wp2_with fail
  go_at_call 127
  refine Calls.mono HT.out ?_
  rintro e w1 ⟨rfl, rfl⟩
  go_wp2_with fail
  go_at_call 107
  refine (name_any q _ (by omega)).mono ?_
  rw [HNB.out]
  rintro e w2 ⟨rfl, rfl⟩
  cases nb with
  | false =>
    go_wp2
    go_ret
    exact ⟨rfl, rfl⟩
  | true =>
    go_wp2_with fail
    go_at_call 128
    refine (count_any q _).mono ?_
    rw [HC.out]
    rintro e w3 ⟨rfl, rfl⟩
    by_cases h0 : c = 0
    · subst h0
      go_wp2
      go_ret
      exact ⟨rfl, rfl⟩
    have h0b : ((c : Int) == 0) = false := by simpa using h0
    by_cases h1 : c = 1
    case neg =>
      have h1b : ((c : Int) == 1) = false := by simpa using (by omega : ¬ (c : Int) = 1)
      go_wp2
      go_ret
      exact ⟨by simp [h0, h1], rfl⟩
    subst h1
    by_cases h2 : 1 < q.length
    case neg =>
      have h2b : ¬ (1 : Int) < (q.length : Int) := by omega
      go_wp2
      go_ret
      exact ⟨by simp [h2], rfl⟩
    have h2b : (1 : Int) < (q.length : Int) := by omega
    obtain ⟨x, hx⟩ : ∃ x, decide (q[0]? = some 42) = x := ⟨_, rfl⟩
    obtain ⟨y, hy⟩ : ∃ y, decide (q[q.length - 1]? = some 42) = y := ⟨_, rfl⟩
    have e0 := (sign_at q 0 (by omega)).trans hx
    have e1 := (sign_at q (q.length - 1) (by omega)).trans hy
    have HR : Hid ((decide (q.head? = some 42) || decide (q.getLast? = some 42)) = (x || y)) := by
      unfold Hid
      rw [List.head?_eq_getElem?, List.getLast?_eq_getElem?, hx, hy]
    have hl1 : ((q.length - 1 : Nat) : Int) = (q.length : Int) - 1 := by omega
    clear hx hy
    cases x with
    | true =>
      go_wp2
      go_ret
      exact ⟨ret_b (by rw [HR.out]; simp [h2]), rfl⟩
    | false =>
      cases y with
      | true =>
        go_wp2
        go_ret
        exact ⟨ret_b (by rw [HR.out]; simp [h2]), rfl⟩
      | false =>
        go_wp2
        go_ret
        exact ⟨ret_b (by rw [HR.out]; simp [h2]), rfl⟩
theorem trimP_len (s p : B8) : (Lib.trimPrefix s p).length ≤ s.length := by
  unfold Lib.trimPrefix
  split
  · rw [List.length_drop]; omega
  · exact Nat.le_refl _
theorem takesB_eq (p s : B8) : takesB p s = if ([42] : B8).isPrefixOf p = true then (Lib.trimPrefix p [42]).isSuffixOf s else if ([42] : B8).isSuffixOf p = true then (Lib.trimSuffix p [42]).isPrefixOf s else p == s := by
  unfold takesB
  by_cases h1 : ([42] : B8).isPrefixOf p = true
  · rw [if_pos h1, if_pos h1]
    unfold Lib.trimPrefix Lib.hasPrefix
    rw [if_pos h1]
    rfl
  · rw [if_neg h1, if_neg h1]
    by_cases h2 : ([42] : B8).isSuffixOf p = true
    · rw [if_pos h2, if_pos h2]
      unfold Lib.trimSuffix Lib.hasSuffix
      rw [if_pos h2]
      rfl
    · rw [if_neg h2, if_neg h2]
set_option maxRecDepth 100000 in
theorem takes_any (p s : B8) (w : World) (hp : p.length ≤ 1000000) (hs : s.length ≤ 1000000) : Calls Tryz.prog 81 #[S8 p, S8 s] w fun e w' => e = .returned (.bool (takesB p s)) ∧ w' = w := by
  rw [takesB_eq]
  have HP : Hid _ := cutP_any p [42] w
  have HS : Hid _ := cutS_any p [42] w hp
  have h1 := trimP_len p [42]
  obtain ⟨t1, ht1⟩ : ∃ t, Lib.trimPrefix p [42] = t := ⟨_, rfl⟩
  obtain ⟨t2, ht2⟩ : ∃ t, Lib.trimSuffix p [42] = t := ⟨_, rfl⟩
  obtain ⟨b1, hb1⟩ : ∃ b, ([42] : B8).isPrefixOf p = b := ⟨_, rfl⟩
  obtain ⟨b2, hb2⟩ : ∃ b, ([42] : B8).isSuffixOf p = b := ⟨_, rfl⟩
  rw [ht1] at HP h1 ⊢
  rw [ht2] at HS ⊢
  rw [hb1] at HP ⊢
  rw [hb2] at HS ⊢
  clear ht1 ht2 hb1 hb2
  go_enter Tryz.func81, Tryz.ntmps81
  go_wp2_with fail
  go_at_call 130
  refine Calls.mono HP.out ?_
  rintro e w1 ⟨rfl, rfl⟩
  cases b1 with
  | true =>
    go_wp2_with fail
    go_at_call 131
    refine (Tryz.strings_HasSuffix ⟨s.toArray⟩ ⟨t1.toArray⟩ _ (by simp [ByteArray.size]; omega)).mono ?_
    rintro e w2 ⟨rfl, rfl⟩
    go_wp2
    go_ret
    exact ⟨rfl, rfl⟩
  | false =>
    go_wp2_with fail
    go_at_call 80
    refine Calls.mono HS.out ?_
    rintro e w2 ⟨rfl, rfl⟩
    cases b2 with
    | true =>
      go_wp2_with fail
      go_at_call 69
      refine (prefix_any ⟨s.toArray⟩ ⟨t2.toArray⟩ _).mono ?_
      rintro e w3 ⟨rfl, rfl⟩
      go_wp2
      go_ret
      exact ⟨rfl, rfl⟩
    | false =>
      obtain ⟨q, hq⟩ : ∃ q, (p == s) = q := ⟨_, rfl⟩
      have HQ : Hid _ := hq
      clear hq
      go_wp2
      go_ret
      exact ⟨by simp, rfl⟩

def hitF (rest : B8) (dir : Bool) (n : Nat) (x : B8 × Nat) : Bool := takesB rest x.1 && !(dir && decide (x.2 + 1 = n))
theorem hitL_eq (rest : B8) (dir : Bool) (l : List B8) : hitL rest dir l = (l.zipIdx).any (hitF rest dir l.length) := rfl
theorem hit_snoc {rest : B8} {dir : Bool} {n : Nat} {l : List B8} {k : Nat} {x : B8} (h : l[k]? = some x) : ((l.zipIdx).take (k + 1)).any (hitF rest dir n) = (((l.zipIdx).take k).any (hitF rest dir n) || hitF rest dir n (x, k)) := by
  have : (l.zipIdx)[k]? = some (x, k) := by rw [List.getElem?_zipIdx, h]; simp
  rw [List.take_add_one, this, List.any_append]
  simp
theorem hit_at {rest : B8} {dir : Bool} {l : List B8} {k : Nat} {x : B8} (h : l[k]? = some x) (hh : hitF rest dir l.length (x, k) = true) : hitL rest dir l = true := by
  rw [hitL_eq, List.any_eq_true]
  have : (l.zipIdx)[k]? = some (x, k) := by rw [List.getElem?_zipIdx, h]; simp
  exact ⟨(x, k), List.mem_of_getElem? this, hh⟩
theorem hit_all {rest : B8} {dir : Bool} {l : List B8} (h : ((l.zipIdx).take l.length).any (hitF rest dir l.length) = false) : hitL rest dir l = false := by
  rw [hitL_eq]
  rwa [List.take_of_length_le (by simp)] at h
theorem ign_at {L : List B8} {pats : List B8} {k : Nat} {p : B8} (h : pats[k]? = some p) (hh : ign1 L p = true) : pats.any (ign1 L) = true := List.any_eq_true.2 ⟨p, List.mem_of_getElem? h, hh⟩
theorem ign_snoc {L : List B8} {pats : List B8} {k : Nat} {p : B8} (h : pats[k]? = some p) (h0 : (pats.take k).any (ign1 L) = false) (hh : ign1 L p = false) : (pats.take (k + 1)).any (ign1 L) = false := by
  rw [List.take_add_one, h, List.any_append, h0]
  simpa using hh
theorem split_len (s : B8) (hs : s.length ≤ 1000000) : (splitL s).length ≤ 8 ∧ ∀ x ∈ splitL s, x.length ≤ 64 := by
  unfold splitL
  split
  · rename_i hp
    unfold pathB at hp
    simp only [Bool.and_eq_true, decide_eq_true_eq] at hp
    refine ⟨hp.2.2, fun x hx => ?_⟩
    have := List.all_eq_true.1 hp.2.1 x hx
    unfold nameB at this
    simp only [Bool.and_eq_true, decide_eq_true_eq] at this
    exact this.2.2.1
  · exact ⟨Nat.zero_le _, fun x hx => by cases hx⟩
set_option maxRecDepth 100000 in
set_option maxHeartbeats 4000000 in
theorem ign_any (v : Value) (pats : List B8) (s : B8) (w : World) (hv : IsStrs w v pats) (hE : Env w) (hp : ∀ p ∈ pats, p.length ≤ 1000000) (hs : s.length ≤ 1000000) :
    Calls Tryz.prog 40 #[v, S8 s] w fun e w' => e = .returned (.bool (ignB pats s)) ∧ Ext w w' := by
  obtain ⟨a, cap, rfl, l1, l2, l3, -⟩ := hv.get
  have HV : Hid (IsStrs w (.slice a pats.length cap) pats) := hv
  have HE : Hid (Env w) := hE
  have HP : Hid (∀ p ∈ pats, p.length ≤ 1000000) := hp
  obtain ⟨hL8, hL64⟩ := split_len s hs
  have HI : ignB pats s = pats.any (ign1 (splitL s)) := rfl
  rw [HI]
  have HSP : Hid _ := nsplit_any s w hE (by omega)
  generalize splitL s = L at hL8 hL64 HSP ⊢
  have HL64 : Hid (∀ x ∈ L, x.length ≤ 64) := hL64
  clear hv hE hp hL64 HI
  go_enter Tryz.func40, Tryz.ntmps40
  go_wp2_with fail
  go_at_call 78
  refine Calls.mono HSP.out ?_
  rintro e w1 ⟨⟨vq, rfl, hvq⟩, hx1⟩
  obtain ⟨qa, qc, rfl, q1, q2, q3, -⟩ := hvq.get
  have HVQ : Hid (IsStrs w1 (.slice qa L.length qc) L) := hvq
  have HX1 : Hid (Ext w w1) := hx1
  clear hvq hx1 HSP
  go_wp2_with fail
  go_loopw [16] (fun i wr => ∃ k : Nat, k ≤ pats.length ∧ i = .int .i64 k ∧ Hid ((pats.take k).any (ign1 L) = false) ∧ Hid (Ext w1 wr)) (fun i _ => pats.length - (intOf i).toNat)
  case atStart => exact ⟨0, Nat.zero_le _, rfl, rfl, Ext.refl _⟩
  case round =>
  obtain ⟨k, hk, rfl, HN, HX⟩ := hrel
  by_cases hlt : k < pats.length
  case neg =>
    have hkk : k = pats.length := by omega
    subst hkk
    have HR : Hid (pats.any (ign1 L) = false) := by have h9 := HN.out; rwa [List.take_length] at h9
    have HXF : Hid _ := HX1.out.trans HX.out
    go_wp2
    go_ret
    exact ⟨by rw [HR.out]; rfl, HXF.out⟩
  obtain ⟨p, hpe⟩ : ∃ p, pats[k]? = some p := ⟨_, List.getElem?_eq_getElem hlt⟩
  have hpl := HP.out p (List.mem_of_getElem? hpe)
  obtain ⟨_, _, he, -, -, -, hg⟩ := (IsStrs.ext HV.out (HX1.out.trans HX.out)).get
  cases he
  obtain ⟨bb, oo, rfl, hc⟩ := hg k hlt
  have y1 := hc k hlt
  rw [show pats.getD k [] = p by rw [List.getD_eq_getElem?_getD, hpe]; rfl] at y1
  have HPE : Hid _ := hpe
  obtain ⟨pb, hpb⟩ : ∃ b, patB p = b := ⟨_, rfl⟩
  have HPB : Hid _ := hpb
  clear hg hc hpe hpb
  go_wp2_with fail
  go_at_call 79
  refine (pattern_any p _ hpl).mono ?_
  rw [HPB.out]
  rintro e w2 ⟨rfl, rfl⟩
  cases pb with
  | false =>
    have HNX : Hid ((pats.take (k + 1)).any (ign1 L) = false) := ign_snoc HPE.out HN.out (by unfold ign1; rw [HPB.out]; rfl)
    go_wp2_with fail
    go_roundw
    case rel => exact ⟨k + 1, by omega, by go_num, HNX, HX⟩
    case measure => simp [intOf]; omega
  | true =>
  obtain ⟨rest, hrs⟩ : ∃ r, patS p = r := ⟨_, rfl⟩
  obtain ⟨dir, hdr⟩ : ∃ d, patD p = d := ⟨_, rfl⟩
  have hrl : rest.length ≤ p.length := by rw [← hrs]; exact patS_len p
  have HI1 : Hid (ign1 L p = hitL rest dir L) := by unfold Hid ign1; rw [HPB.out, hrs, hdr]; rfl
  have HCS : Hid _ := cutS_any p [47] w2 hpl
  have hcs2 : Lib.trimSuffix p [47] = rest := hrs
  have hcd2 : ([47] : B8).isSuffixOf p = dir := hdr
  rw [hcs2, hcd2] at HCS
  clear hrs hdr hcs2 hcd2
  go_wp2_with fail
  go_at_call 80
  refine Calls.mono HCS.out ?_
  rintro e w3 ⟨rfl, rfl⟩
  clear HCS
  go_wp2_with fail
  go_loopw [30] (fun i wr => ∃ j : Nat, j ≤ L.length ∧ i = .int .i64 j ∧ Hid ((L.zipIdx.take j).any (hitF rest dir L.length) = false) ∧ wr = w3) (fun i _ => L.length - (intOf i).toNat)
  case atStart => exact ⟨0, Nat.zero_le _, rfl, rfl, rfl⟩
  case round =>
  obtain ⟨j, hj, rfl, HJ, rfl⟩ := hrel
  by_cases hltj : j < L.length
  case neg =>
    have hkk : j = L.length := by omega
    subst hkk
    have HNX : Hid ((pats.take (k + 1)).any (ign1 L) = false) := ign_snoc HPE.out HN.out (by rw [HI1.out]; exact hit_all HJ.out)
    go_wp2_with fail
    go_roundw
    case rel => exact ⟨k + 1, by omega, by go_num, HNX, HX⟩
    case measure => simp [intOf]; omega
  obtain ⟨x, hxe⟩ : ∃ x, L[j]? = some x := ⟨_, List.getElem?_eq_getElem hltj⟩
  have hxl := HL64.out x (List.mem_of_getElem? hxe)
  obtain ⟨_, _, he, -, -, -, hg⟩ := (IsStrs.ext HVQ.out HX.out).get
  cases he
  obtain ⟨bq, oq, rfl, hc⟩ := hg j hltj
  have z1 := hc j hltj
  rw [show L.getD j [] = x by rw [List.getD_eq_getElem?_getD, hxe]; rfl] at z1
  obtain ⟨tk, htk⟩ : ∃ b, takesB rest x = b := ⟨_, rfl⟩
  have HTK : Hid _ := htk
  have HXE : Hid _ := hxe
  clear hg hc htk hxe
  go_wp2_with fail
  go_at_call 81
  refine (takes_any rest x _ (by omega) (by omega)).mono ?_
  rw [HTK.out]
  rintro e w4 ⟨rfl, rfl⟩
  cases tk with
  | false =>
    have HJX : Hid ((L.zipIdx.take (j + 1)).any (hitF rest dir L.length) = false) := by
      unfold Hid
      rw [hit_snoc HXE.out, HJ.out]
      unfold hitF
      simp only [HTK.out]
      rfl
    go_wp2_with fail
    go_roundw
    case rel => exact ⟨j + 1, by omega, by go_num, HJX, trivial⟩
    case measure => simp [intOf]; omega
  | true =>
    by_cases hds : dir = true ∧ j + 1 = L.length
    · obtain ⟨hd, hjl⟩ := hds
      subst hd
      have HJX : Hid ((L.zipIdx.take (j + 1)).any (hitF rest true L.length) = false) := by
        unfold Hid
        rw [hit_snoc HXE.out, HJ.out]
        unfold hitF
        simp only [HTK.out, hjl]
        simp
      have hb : ((j : Int) == (L.length : Int) - 1) = true := by simp; omega
      clear hjl
      go_wp2_with fail
      go_roundw
      case rel => exact ⟨j + 1, by omega, by go_num, HJX, trivial⟩
      case measure => simp [intOf]; omega
    · have HR : Hid (pats.any (ign1 L) = true) := ign_at HPE.out (by
        rw [HI1.out]
        refine hit_at HXE.out ?_
        unfold hitF
        simp only [HTK.out, Bool.true_and, Bool.not_eq_true', Bool.and_eq_false_iff, decide_eq_false_iff_not]
        cases dir with
        | false => exact .inl rfl
        | true => exact .inr fun e => hds ⟨rfl, e⟩)
      have HXF : Hid _ := HX1.out.trans HX.out
      cases dir with
      | false =>
        clear hds
        go_wp2
        go_ret
        exact ⟨by rw [HR.out]; rfl, HXF.out⟩
      | true =>
        have hb : ((j : Int) == (L.length : Int) - 1) = false := by
          have : ¬ j + 1 = L.length := fun e => hds ⟨rfl, e⟩
          simp; omega
        clear hds
        go_wp2
        go_ret
        exact ⟨by rw [HR.out]; rfl, HXF.out⟩

end Go.Proofs.YtdhgmpibjneplaaGreatDoor
