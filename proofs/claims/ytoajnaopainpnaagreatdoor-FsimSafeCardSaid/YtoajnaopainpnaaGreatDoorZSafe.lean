/- marlaw5.FsimSafe: whatever the input, the law returns true, and the input reads as it did: its row's statement and its tied card. Conditions: what the row lists: the library's variables hold what the program's text lays. -/
import Derived.Test.YtoajnaopainpnaaGreatDoorZaj
import Derived.Test.YtoajnaopainpnaaGreatDoorZai

set_option linter.unusedVariables false
set_option linter.unusedSimpArgs false
set_option linter.unusedSectionVars false

/-! marlaw5.FsimSafe: true at any room, any operations, any kept part. Conditions: as each theorem states. -/
namespace Go.Proofs.YtoajnaopainpnaaGreatDoor
open Go Go.RowKit
variable [Inhabited BaseW]

def SafeRel (w wr : World) (f was x vo nv : Value) (css : List (List Value)) (m0 : Fs) (L : List Opn) (k : Nat) : Prop :=
  ∃ m mx : Fs, Pile w wr [(4, .row 9 1 nv (2 * k) ((namedL (L.take k)).map S8)), (2, .ref x mx), (3, .row 48 8 vo L.length css.flatten), (1, .fs was m0), (0, .fs f m)] ∧ Safe m0 k (namedL (L.take k)) m ∧ Good (101 + k) mx

set_option maxRecDepth 100000 in
set_option maxHeartbeats 16000000 in
theorem safeLaw_any (room : Int) (v : Value) (l : List Opn) (v2 : Value) (l2 : List Opn) (keep torn : Int) (w : World) (hb : Ext baseW w) (hE : Env w) (hv : IsOps w v l) (hi : ∀ o ∈ l, I64 o.keep ∧ I64 o.torn ∧ ∀ e ∈ o.plan, I64 e.keep ∧ I64 e.torn) (hv2 : IsOps w v2 l2) (hi2 : ∀ o ∈ l2, I64 o.keep ∧ I64 o.torn ∧ ∀ e ∈ o.plan, I64 e.keep ∧ I64 e.torn) (hk64 : I64 keep) (ht64 : I64 torn) :
    Calls Tryz.prog 8 #[.int .i64 room, v, v2, .int .i64 keep, .int .i64 torn] w fun e w' => e = .returned (.bool true) ∧ Ext w w' := by
  have HK64 : Hid _ := hk64
  have HT64 : Hid _ := ht64
  clear hk64 ht64
  obtain ⟨a0, cap, rfl, h1, h2, h3, -⟩ := ops_cells hv
  obtain ⟨a1, cap1, rfl, j1, j2, j3, -⟩ := ops_cells hv2
  have HV : Hid _ := hv
  have HI : Hid _ := hi
  have HV2 : Hid _ := hv2
  have HI2 : Hid _ := hi2
  have HE : Hid _ := hE
  have HB : Hid _ := hb
  clear hv hi hE hb hv2 hi2
  go_enter Tryz.func8, Tryz.ntmps8
  go_wp2_with fail
  go_at_call 10
  refine (first_any w HE.out).mono ?_
  rintro e w1 ⟨rfl, hx1⟩
  have HE1 : Hid _ := HE.out.ext hx1
  go_wp2_with fail
  go_at_call 11
  refine (played_any room _ l w1 (Ext.trans HB.out hx1) HE1.out (IsOps.ext HV.out hx1) HI.out).mono ?_
  rintro e w2 ⟨hr, hx2⟩
  have HE2 : Hid _ := HE1.out.ext hx2
  have hx02 := hx1.trans hx2
  rcases hr with rfl | ⟨g, S, O, rfl, hOne, hG, hF, hR⟩
  · go_wp2_with fail
    go_at_call 10
    refine (first_any _ HE2.out).mono ?_
    rintro e wz ⟨rfl, hxz⟩
    go_wp2
    go_ret
    exact ⟨rfl, hx02.trans hxz⟩
  · obtain ⟨m, hm⟩ : ∃ m, playM room l = m := ⟨_, rfl⟩
    rw [hm] at hOne hG hF hR
    have HP0 : Hid (Pile w w2 [(0, .fs (.pointer (some ⟨g, 0, none⟩)) m)]) := Pile.base (Pile.one hOne 0) hx1
    have HX02 : Hid _ := hx02
    have HG : Hid _ := hG
    clear hm hOne hG hF hR hx1 hx2
    go_wp2_with fail
    go_at_call 22
    refine (fewOps_any hx02 HV2.out).mono ?_
    obtain ⟨fe, hfe⟩ : ∃ fe, fewOps l2 = fe := ⟨_, rfl⟩
    rw [hfe]
    have HFE : Hid _ := hfe
    clear hfe hx02
    rintro e w2b ⟨rfl, hx2b⟩
    have HP0b : Hid _ := Pile.more HP0.out hx2b
    have HE2b : Hid _ := HE2.out.ext hx2b
    have HX2b : Hid _ := Ext.trans HX02.out hx2b
    clear hx2b
    cases fe with
    | false =>
      go_wp2_with fail
      go_at_call 10
      refine (first_any _ HE2b.out).mono ?_
      rintro e wz ⟨rfl, hxz⟩
      go_wp2
      go_ret
      exact ⟨rfl, Ext.trans HX2b.out hxz⟩
    | true =>
      have HFEW : Hid _ := few_ops HFE.out HI2.out
      have hl100 := HFEW.out.1
      obtain ⟨S1, O1, hO1, hbk1, hbl1⟩ := Pile.post HP0b.out 0 (f := (.pointer (some ⟨g, 0, none⟩))) (m := m) (by simp)
      go_wp2_with fail
      go_at_call 27
      refine (plan_any hO1.fs (fun k hk => (hO1.lo k hk).2) (readB_nil _) (Nat.zero_le _)).mono ?_
      rintro e w3 ⟨rfl, hf3, hfr3⟩
      have HP3 : Hid (Pile w w3 [(0, .fs (.pointer (some ⟨g, 0, none⟩)) (planM m []))]) := hbl1 _ _ _ hf3 hfr3 (by intro y hy; simp only [List.mem_cons, List.not_mem_nil, or_false] at hy ⊢; rcases hy with rfl <;> simp)
      clear hf3 hfr3
      clear hO1 hbk1 hbl1
      obtain ⟨S1, O1, hO1, hbk1, hbl1⟩ := Pile.post HP3.out 0 (f := (.pointer (some ⟨g, 0, none⟩))) (m := planM m []) (by simp)
      go_wp2_with fail
      go_at_call 28
      refine (reboot_any hO1.fs).mono ?_
      rintro e w4 ⟨rfl, h4⟩
      have HP4 : Hid (Pile w w4 [(0, .fs (.pointer (some ⟨g, 0, none⟩)) (rebootM (planM m [])))]) := hbk1 _ _ _ h4 (by intro y hy; simp only [List.mem_cons, List.not_mem_nil, or_false] at hy ⊢; rcases hy with rfl <;> simp)
      clear h4
      clear hO1 hbk1 hbl1
      have HG1 : Hid (Good 100 (rebootM (planM m []))) := good_reboot (good_plan HG.out (L := []) (Nat.zero_le _) (fun e he => by cases he))
      have HI1 : Hid (Idle (rebootM (planM m []))) := ⟨rfl, rfl⟩
      generalize rebootM (planM m []) = m1 at *
      have HG2 : Hid (Good 101 (syncM m1).1) := HG1.out.left (left_syncN HG1.out.ok HG1.out.few) (by rw [sync_idle HI1.out]; have := HG1.out.calls; exact Nat.add_le_add_right this 1)
      obtain ⟨S1, O1, hO1, hbk1, hbl1⟩ := Pile.post HP4.out 0 (f := (.pointer (some ⟨g, 0, none⟩))) (m := m1) (by simp)
      go_wp2_with fail
      go_at_call 29
      refine (sync_any (One.fin hO1 HE.out HG1.out (by omega))).mono ?_
      rw [sync_idle HI1.out] at HG2 ⊢
      have HI2x : Hid (Idle (settle { m1 with calls := m1.calls + 1 })) := ⟨HI1.out.plan, HI1.out.down⟩
      have HSP : Hid ((settle { m1 with calls := m1.calls + 1 }).pend = [] ∧ (settle { m1 with calls := m1.calls + 1 }).sure = (settle { m1 with calls := m1.calls + 1 }).now) := ⟨rfl, rfl⟩
      dsimp only at HG2 ⊢
      generalize settle { m1 with calls := m1.calls + 1 } = m2 at *
      rintro e w5 ⟨rfl, h5⟩
      have HP5 : Hid (Pile w w5 [(0, .fs (.pointer (some ⟨g, 0, none⟩)) m2)]) := hbk1 _ _ _ h5 (by intro y hy; simp only [List.mem_cons, List.not_mem_nil, or_false] at hy ⊢; rcases hy with rfl <;> simp)
      clear h5
      clear hO1 hbk1 hbl1
      obtain ⟨S1, O1, hO1, hbk1, hbl1⟩ := Pile.post HP5.out 0 (f := (.pointer (some ⟨g, 0, none⟩))) (m := m2) (by simp)
      go_wp2_with fail
      go_at_call 30
      refine (copy_any hO1.fs HG2.out.ok (by have := HG2.out.time; omega) (by have := HG2.out.calls; omega)).mono ?_
      rintro e w6 ⟨⟨p', S', O9, rfl, hf', hS', hO'⟩, hx6⟩
      obtain ⟨-, -, g5, rfl⟩ := hf'.rise
      have HP6 : Hid (Pile w w6 [(1, .fs (.pointer (some ⟨g5, 0, none⟩)) m2), (0, .fs (.pointer (some ⟨g, 0, none⟩)) m2)]) := Pile.addCopy HP5.out 1 (by simp) hx6 hf' hS' hO'
      clear hf' hS' hO' hx6
      clear hO1 hbk1 hbl1
      have HL : Hid (∀ o ∈ calmL l2, OpOk o ∧ 0 ≤ o.kind ∧ o.kind ≤ 7) := fun o ho => by
        have h9 := calm_mem ho
        exact ⟨HFEW.out.2 o h9.1, h9.2⟩
      have hL100 : (calmL l2).length ≤ 100 := Nat.le_trans (calm_len l2) hl100
      go_wp2_with fail
      go_at_call 31
      refine (calm_any (w0 := w) HP6.out.ext HV2.out (by omega)).mono ?_
      rintro e w7 ⟨⟨v', rfl, css, hown, heach⟩, hx7⟩
      generalize calmL l2 = L at *
      obtain ⟨cp, cc, rfl, -⟩ := Row.of_owns hown (by omega)
      have HEA : Hid _ := heach
      have HP7 : Hid (Pile w w7 [(3, .row 48 8 (.slice cp L.length cc) L.length css.flatten), (1, .fs (.pointer (some ⟨g5, 0, none⟩)) m2), (0, .fs (.pointer (some ⟨g, 0, none⟩)) m2)]) := Pile.addRow HP6.out 3 (by simp) hx7 hown
      clear hown heach hx7
      go_wp2_with fail
      go_at_call 21
      refine (newR_yes 1073741824 _ (by omega) (by omega)).mono ?_
      rintro e w8 ⟨⟨q, rfl, hq⟩, hx8⟩
      obtain ⟨gx, rfl⟩ := hq.ptr
      have HGX : Hid (Good 0 (newM 1073741824)) := good_new (by omega) (by omega)
      have HP8 : Hid (Pile w w8 [(2, .ref (.pointer (some ⟨gx, 0, none⟩)) (newM 1073741824)), (3, .row 48 8 (.slice cp L.length cc) L.length css.flatten), (1, .fs (.pointer (some ⟨g5, 0, none⟩)) m2), (0, .fs (.pointer (some ⟨g, 0, none⟩)) m2)]) := Pile.addRef HP7.out 2 (by simp) hx8 hq
      clear hq hx8
      dsimp only
      go_wp2_with fail
      go_loopw [16, 17] (fun nv i wr => ∃ k : Nat, k ≤ L.length ∧ i = .int .i64 k ∧ Hid (SafeRel w wr (.pointer (some ⟨g, 0, none⟩)) (.pointer (some ⟨g5, 0, none⟩)) (.pointer (some ⟨gx, 0, none⟩)) (.slice cp L.length cc) nv css m2 L k)) (fun _ i _ => L.length - (intOf i).toNat)
      case atStart => exact ⟨0, Nat.zero_le _, rfl, m2, _, Pile.addRow HP8.out 4 (by simp) (Ext.refl _) (World.ownsRow_nil _ _ _ _), safe_start HG2.out HI2x.out HSP.out.1 HSP.out.2, HGX.out.mono (by omega)⟩
      case round =>
        obtain ⟨k, hk, rfl, hC⟩ := hrel
        obtain ⟨mk, mx, hP, hS, hGx⟩ := hC.out
        have HPk : Hid _ := hP
        have HS : Hid _ := hS
        have HGx : Hid _ := hGx
        clear hP hS hGx hC
        by_cases hlt : k < L.length
        · obtain ⟨E, he⟩ : ∃ e, L[k]? = some e := ⟨_, List.getElem?_eq_getElem hlt⟩
          have HK : Hid _ := he
          have HEL : Hid _ := HL.out E (List.mem_of_getElem? he)
          clear he
          obtain ⟨_, _, he1, -, -, -, hg1⟩ := readO_get 8 (fun c x hx => hx.length.1) (by omega) (ops_read (Pile.row (e := 48) (size := 8) (v := .slice cp L.length cc) (n := L.length) (xs := css.flatten) HPk.out 3 (by simp)) HEA.out (by omega))
          cases he1
          obtain ⟨b, o, cs1, rfl, hop1, hc1⟩ := hg1 k E HK.out
          have HOP1 : Hid _ := hop1
          obtain ⟨vd1, vp1, rfl, hd1, hpl1⟩ := id hop1
          obtain ⟨s11, s12, rfl, -⟩ := id hd1.bytes
          obtain ⟨_, ⟨p11, p12, rfl, -⟩, -⟩ := id hpl1
          have c4 := hc1 4 _ rfl
          have c5 := hc1 5 _ rfl
          clear hg1 hop1 hc1 hd1 hpl1
          have hnv := Pile.row (e := 9) (size := 1) (v := u16) (n := 2 * k) (xs := (namedL (L.take k)).map S8) HPk.out 4 (by simp)
          obtain ⟨na, nc, rfl, -⟩ := Row.of_owns hnv (by omega)
          have HNV : Hid _ := hnv
          clear hnv
          go_wp2_with fail
          apply wp_region_mix 12 [_, _, _, _, _, _, _, _, _, _, _, undef] [none, none, none, none, none, none, none, none, none, none, none, some (fun u w' => ∃ k, u = .slice (some ⟨k, 0, none⟩) 2 2 ∧ w'.heap[k]? = some (.cells #[S8 E.path, S8 E.dest] 9 (0, 0)))] [[], [], [], [1, 2], [3], [4], [], [], [6, 7], [8], [9], [5, 10]] (by kernel_rfl) (by kernel_rfl) (by simp [mixV])
          · refine ⟨?_, trivial⟩
            · exact fun _ _ _ he ⟨k, h1, h3⟩ => ⟨k, h1, he.row h3⟩
          · simp (maxSteps := 1000000) only [List.take_succ_cons, List.take_zero, oblFrom, stepObl, fillFrom, Act.put, List.setIfInBounds_toArray, List.set_cons_zero, List.set_cons_succ, knows, getV, mixV, List.getD_cons_zero, List.getD_cons_succ, and_true, true_and, forall_const]
            refine ⟨?_, ?_, ?_, ?_, ?_, ?_, ?_, ?_, ?_, ?_, ?_, ?_⟩
            · intro xs wq hq R hR
              have f4 := hq.cell c4; have f5 := hq.cell c5
              go_simp
              exact hR _ _ (Ext.refl _) rfl
            · intro xs wq hq R hR
              have f4 := hq.cell c4; have f5 := hq.cell c5
              go_simp
              exact hR _ _ (Ext.refl _) rfl
            · intro xs wq hq R hR
              have f4 := hq.cell c4; have f5 := hq.cell c5
              go_simp
              exact hR _ _ (Ext.refl _) rfl
            · intro xs wq hq hk R hR
              obtain ⟨hk0, hk1⟩ := hk
              have f4 := hq.cell c4; have f5 := hq.cell c5
              go_simp
              exact hR _ _ (Ext.refl _) rfl
            · intro xs wq hq hk R hR
              have f4 := hq.cell c4; have f5 := hq.cell c5
              go_simp
              exact hR _ _ (Ext.refl _) rfl
            · intro xs wq hq hk R hR
              have f4 := hq.cell c4; have f5 := hq.cell c5
              go_simp
              exact hR _ _ (Ext.refl _) rfl
            · intro xs wq hq R hR
              have f4 := hq.cell c4; have f5 := hq.cell c5
              go_simp
              exact hR _ _ (Ext.refl _) rfl
            · intro xs wq hq R hR
              have f4 := hq.cell c4; have f5 := hq.cell c5
              go_simp
              exact hR _ _ (Ext.refl _) rfl
            · intro xs wq hq hk R hR
              obtain ⟨hk0, hk1⟩ := hk
              have f4 := hq.cell c4; have f5 := hq.cell c5
              go_simp
              exact hR _ _ (Ext.refl _) rfl
            · intro xs wq hq hk R hR
              have f4 := hq.cell c4; have f5 := hq.cell c5
              go_simp
              exact hR _ _ (Ext.refl _) rfl
            · intro xs wq hq hk R hR
              have f4 := hq.cell c4; have f5 := hq.cell c5
              go_simp
              exact hR _ _ (Ext.refl _) rfl
            · intro xs wq hq hk R hR
              obtain ⟨hk0, hk1⟩ := hk
              go_simp
              exact hR _ _ ((Ext.refl _).alloc _) ⟨_, rfl, alloc_at _ _⟩
          intro xs wa hxa hk
          simp only [heldV, Nat.zero_add, Nat.reduceAdd, and_true] at hk
          obtain ⟨q0, q1, q2, q3, q4, q5, q6, q7, q8, q9, q10, q11⟩ := hk
          simp (maxSteps := 1000000) only [List.take_succ_cons, List.take_zero, List.drop_succ_cons, List.drop_zero, fillFrom, Act.put, List.setIfInBounds_toArray, List.set_cons_zero, List.set_cons_succ, Nat.zero_add, Nat.reduceAdd, q0, q1, q2, q3, q4, q5, q6, q7, q8, q9, q10]
          clear q0 q1 q2 q3 q4 q5 q6 q7 q8 q9 q10
          generalize xs 11 = x11 at *
          obtain ⟨kb, rfl, hkb⟩ := q11
          have hnva := owns_ext HNV.out hxa
          have HPa : Hid _ := Pile.more HPk.out hxa
          have HHX : Hid _ := hxa
          have HNA : Hid ((namedL (L.take k)).length = 2 * k) := by unfold Hid; rw [named_len, List.length_take]; omega
          clear c4 c5 hxa
          go_upto_region 20 with (at_builtin; go_must (refine app_str4 rfl _ _ rfl 0 (.slice na (2 * k) nc) (2 * k) (namedL (L.take k)) rfl hnva kb 2 2 [E.path, E.dest] rfl rfl hkb (by omega) (Nat.zero_le _) ?_; intro v9 wb hownb hgrb hvb))
          obtain ⟨nb, nd, rfl, -⟩ := Row.of_owns hownb (by omega)
          have hsn := named_snoc HK.out
          rw [← hsn] at hownb
          have HPb : Hid (Pile w wb [(4, .row 9 1 (.slice nb (2 * k + 2) nd) (2 * k + 2) ((namedL (L.take (k + 1))).map S8)), (2, .ref (.pointer (some ⟨gx, 0, none⟩)) mx), (3, .row 48 8 (.slice (some ⟨b, o, none⟩) L.length cc) L.length css.flatten), (1, .fs (.pointer (some ⟨g5, 0, none⟩)) m2), (0, .fs (.pointer (some ⟨g, 0, none⟩)) mk)]) := Pile.growRow (n := 2 * k) (xs := (namedL (L.take k)).map S8) HPa.out 4 (by simp) (by kernel_rfl) hownb hgrb hvb _ (by intro y hy; simp only [List.mem_cons, List.not_mem_nil, or_false] at hy ⊢; rcases hy with rfl | rfl | rfl | rfl | rfl <;> simp)
          clear hnva hkb hownb hgrb hvb hsn
          obtain ⟨_, _, he2, -, -, -, hg2⟩ := readO_get 8 (fun c x hx => hx.length.1) (by omega) (ops_read (Pile.row (e := 48) (size := 8) (v := .slice (some ⟨b, o, none⟩) L.length cc) (n := L.length) (xs := css.flatten) HPb.out 3 (by simp)) HEA.out (by omega))
          cases he2
          obtain ⟨b2, o2, cs2, hbo2, hop2, hc2⟩ := hg2 k E HK.out
          cases hbo2
          have HOP2 : Hid _ := hop2
          obtain ⟨vd2, vp2, rfl, hd2, hpl2⟩ := id hop2
          obtain ⟨s21, s22, rfl, -⟩ := id hd2.bytes
          obtain ⟨_, ⟨p21, p22, rfl, -⟩, -⟩ := id hpl2
          have c0 := hc2 0 _ rfl
          have c1 := hc2 1 _ rfl
          have c2 := hc2 2 _ rfl
          have c3 := hc2 3 _ rfl
          have c4 := hc2 4 _ rfl
          have c5 := hc2 5 _ rfl
          have c6 := hc2 6 _ rfl
          have c7 := hc2 7 _ rfl
          simp only [Nat.add_zero] at c0
          clear hg2 hop2 hc2 hd2 hpl2
          obtain ⟨S2, O2, O2', hT, hback⟩ := Pile.two HPb.out HB.out 0 2 (by decide) (f := (.pointer (some ⟨g, 0, none⟩))) (m := mk) (x := (.pointer (some ⟨gx, 0, none⟩))) (m2 := mx) (by simp) (by simp)
          have HT : Hid _ := hT
          have HBK : Hid _ := hback
          clear hT hback
          go_wp2_with fail
          go_at_call 25
          refine (doesOp_gen HT.out HE.out HS.out.good HGx.out (by omega) HOP2.out HEL.out.1).mono ?_
          rintro e wc ⟨⟨bb, rfl, -⟩, hTP⟩
          have HPc : Hid (Pile w wc [(4, .row 9 1 (.slice nb (2 * k + 2) nd) (2 * k + 2) ((namedL (L.take (k + 1))).map S8)), (2, .ref (.pointer (some ⟨gx, 0, none⟩)) (stepM mx E)), (3, .row 48 8 (.slice (some ⟨b, o, none⟩) L.length cc) L.length css.flatten), (1, .fs (.pointer (some ⟨g5, 0, none⟩)) m2), (0, .fs (.pointer (some ⟨g, 0, none⟩)) (stepM mk E))]) := HBK.out _ _ _ _ hTP (by intro y hy; simp only [List.mem_cons, List.not_mem_nil, or_false] at hy ⊢; rcases hy with rfl | rfl | rfl | rfl | rfl <;> simp)
          clear hTP
          go_wp2
          go_roundw
          case rel => exact ⟨k + 1, by omega, by go_num, _, _, HPc.out, by rw [named_snoc HK.out]; exact safe_step HS.out HEL.out.1 HEL.out.2.1 HEL.out.2.2, step_good HGx.out HEL.out.1⟩
          case measure => simp [intOf]; omega
        · have hkk : k = L.length := by omega
          subst hkk
          have hnv := Pile.row (e := 9) (size := 1) (v := u16) (n := 2 * L.length) (xs := (namedL (L.take L.length)).map S8) HPk.out 4 (by simp)
          obtain ⟨na, nc, rfl, -⟩ := Row.of_owns hnv (by omega)
          clear hnv
          obtain ⟨S1, O1, hO1, hbk1, hbl1⟩ := Pile.post HPk.out 0 (f := (.pointer (some ⟨g, 0, none⟩))) (m := mk) (by simp)
          go_wp2_with fail
          go_at_call 32
          refine (crash_any keep torn hO1.fs HS.out.good.ok (by have := HS.out.good.time; omega) HK64.out HT64.out).mono ?_
          rintro e wa ⟨rfl, ha⟩
          have HPa : Hid (Pile w wa [(4, .row 9 1 (.slice na (2 * L.length) nc) (2 * L.length) ((namedL (L.take L.length)).map S8)), (2, .ref (.pointer (some ⟨gx, 0, none⟩)) mx), (3, .row 48 8 (.slice cp L.length cc) L.length css.flatten), (1, .fs (.pointer (some ⟨g5, 0, none⟩)) m2), (0, .fs (.pointer (some ⟨g, 0, none⟩)) (crash mk keep torn))]) := hbk1 _ _ _ ha (by intro y hy; simp only [List.mem_cons, List.not_mem_nil, or_false] at hy ⊢; rcases hy with rfl | rfl | rfl | rfl | rfl <;> simp)
          clear ha
          clear hO1 hbk1 hbl1
          have HSC : Hid _ := safe_crash HS.out keep torn
          have HOK : Hid _ := ok_crash keep torn HS.out.good.ok
          have hct := crash_time mk keep torn
          have htm := HS.out.good.time
          obtain ⟨mc, hmc⟩ : ∃ x, crash mk keep torn = x := ⟨_, rfl⟩
          rw [hmc] at HPa HSC HOK hct
          clear hmc
          obtain ⟨N, hN⟩ : ∃ N, namedL (L.take L.length) = N := ⟨_, rfl⟩
          have HNL : Hid (N.length = 2 * L.length) := by unfold Hid; rw [← hN, named_len, List.length_take]; omega
          rw [hN] at HPa HSC
          clear hN
          have HNS : Hid (IsStrs wa (.slice na (2 * L.length) nc) N) := strs_own (Pile.row (e := 9) (size := 1) (v := .slice na (2 * L.length) nc) (n := 2 * L.length) (xs := N.map S8) HPa.out 4 (by simp)) HNL.out (by omega)
          obtain ⟨S1, O1, hO1, hbk1, hbl1⟩ := Pile.post HPa.out 1 (f := (.pointer (some ⟨g5, 0, none⟩))) (m := m2) (by simp)
          obtain ⟨S2, O2, hO2, hbk2, hbl2⟩ := Pile.post HPa.out 0 (f := (.pointer (some ⟨g, 0, none⟩))) (m := mc) (by simp)
          have hl2 : m2.now.length ≤ 1000000 := by have := HG2.out.ok.lnow; have := HG2.out.time; omega
          have HA0 : Hid _ := hO1.fs
          have HB0 : Hid _ := hO2.fs
          clear hO1 hbk1 hbl1
          clear hO2 hbk2 hbl2
          obtain ⟨hr1, hs1, -⟩ := IsFs.rise HA0.out
          have HR1 : Hid _ := hr1
          have HS1 : Hid _ := hs1
          clear hr1 hs1
          go_wp2_with fail
          go_at_call 12
          refine (paths_any HA0.out hl2).mono ?_
          rintro e wb ⟨⟨v1, rfl, ho1⟩, hxb⟩
          have hv1 := strs_paths ho1 hl2
          obtain ⟨a9, c9, rfl, l1, l2', l3, -⟩ := hv1.get
          have HV1 : Hid _ := hv1
          have hpl : (pathsL m2.now).length = m2.now.length := by simp [pathsL]
          have HPL : Hid _ := hpl
          rw [hpl] at l1 l2' ⊢
          have HXB : Hid _ := hxb
          clear ho1 hv1 hpl hxb
          go_wp2_with fail
          go_loopw [19] (fun i wr => ∃ k : Nat, k ≤ m2.now.length ∧ i = .int .i64 k ∧ Ext wb wr) (fun i _ => m2.now.length - (intOf i).toNat)
          case atStart => exact ⟨0, Nat.zero_le _, rfl, Ext.refl _⟩
          case round =>
            obtain ⟨k, hk, rfl, hx⟩ := hrel
            have HX : Hid _ := hx
            have HXA : Hid _ := Ext.trans HXB.out hx
            clear hx
            by_cases hlt : k < m2.now.length
            · obtain ⟨p, hp⟩ : ∃ p, (pathsL m2.now)[k]? = some p := ⟨_, List.getElem?_eq_getElem (by rw [HPL.out]; exact hlt)⟩
              obtain ⟨f1, hf1⟩ := paths_get hp
              obtain ⟨_, _, he, -, -, -, hg⟩ := (IsStrs.ext HV1.out HX.out).get
              cases he
              obtain ⟨bb, oo, rfl, hc⟩ := hg k (by rw [HPL.out]; exact hlt)
              have y1 := hc k (by rw [HPL.out]; exact hlt)
              rw [show (pathsL m2.now).getD k [] = p by rw [List.getD_eq_getElem?_getD, hp]; rfl] at y1
              have hps : p.length ≤ 1000000 := HS1.out _ (List.mem_of_getElem? hf1)
              have HLK : Hid (look m2.now p = some f1) := look_rise HR1.out hf1
              have HK1 : Hid _ := peek_at HR1.out hf1
              have HA : Hid _ := IsFs.ext HA0.out HXA.out
              have HB2 : Hid _ := IsFs.ext HB0.out HXA.out
              obtain ⟨⟨fb, okb⟩, hpk⟩ : ∃ q, peekM mc p = q := ⟨_, rfl⟩
              have HK2 : Hid _ := hpk
              clear hp hf1 hg hc hpk
              go_wp2_with fail
              go_at_call 13
              refine (peek_any p HA.out hps).mono ?_
              rw [HK1.out]
              rintro e w11 ⟨⟨u1, rfl, hdu1⟩, hxw11⟩
              obtain ⟨su1, tu1, rfl, -⟩ := id hdu1.bytes
              have HDu1 : Hid _ := hdu1
              clear hdu1
              dsimp only
              go_upto_region 27 with fail
              obtain ⟨w12, hww12⟩ : ∃ wq, wq = w11.alloc (.cells #[.int .i64 f1.mode, .slice su1 f1.data.length tu1, .int .i64 f1.time] 30) := ⟨_, rfl⟩
              rw [← hww12]
              have hxw12 : Ext w11 w12 := by rw [hww12]; exact (Ext.refl _).alloc _
              have hbw12 : w12.heap[w11.heap.size]? = some (.cells #[.int .i64 f1.mode, .slice su1 f1.data.length tu1, .int .i64 f1.time] 30 (0, 0)) := by rw [hww12]; exact alloc_at _ _
              have HBw12 : Hid _ := hbw12
              have HXAw12 : Hid _ := hxw11
              have HXBw12 : Hid _ := hxw12
              have HXw12 : Hid _ := Ext.trans hxw11 hxw12
              clear hww12 hbw12 hxw11 hxw12
              have y2 := Ext.cell HXw12.out y1
              have HB3 : Hid _ := IsFs.ext HB2.out HXw12.out
              clear y1
              go_wp2_with fail
              go_at_call 13
              refine (peek_any p HB3.out hps).mono ?_
              rw [HK2.out]
              rintro e w13 ⟨⟨u2, rfl, hdu2⟩, hxw13⟩
              obtain ⟨su2, tu2, rfl, -⟩ := id hdu2.bytes
              have HDu2 : Hid _ := hdu2
              clear hdu2
              dsimp only
              go_upto_region 28 with fail
              obtain ⟨w14, hww14⟩ : ∃ wq, wq = w13.alloc (.cells #[.int .i64 fb.mode, .slice su2 fb.data.length tu2, .int .i64 fb.time] 30) := ⟨_, rfl⟩
              rw [← hww14]
              have hxw14 : Ext w13 w14 := by rw [hww14]; exact (Ext.refl _).alloc _
              have hbw14 : w14.heap[w13.heap.size]? = some (.cells #[.int .i64 fb.mode, .slice su2 fb.data.length tu2, .int .i64 fb.time] 30 (0, 0)) := by rw [hww14]; exact alloc_at _ _
              have HBw14 : Hid _ := hbw14
              have HXAw14 : Hid _ := hxw13
              have HXBw14 : Hid _ := hxw14
              have HXw14 : Hid _ := Ext.trans hxw13 hxw14
              clear hww14 hbw14 hxw13 hxw14
              have y3 := Ext.cell HXw14.out y2
              clear y2
              obtain ⟨inn, hin⟩ : ∃ b, N.contains p = b := ⟨_, rfl⟩
              have HIN : Hid _ := hin
              clear hin
              go_wp2_with fail
              go_at_call 15
              refine (has_any _ N p _ (IsStrs.ext HNS.out (Ext.trans (Ext.trans HXA.out HXw12.out) HXw14.out))).mono ?_
              rw [HIN.out]
              rintro e w15 ⟨rfl, hx15⟩
              have HXZ : Hid _ := Ext.trans (Ext.trans HXw12.out HXw14.out) hx15
              cases inn with
              | true =>
                clear y3 hx15
                go_wp2
                go_roundw
                case rel => exact ⟨k + 1, by omega, by go_num, Ext.trans HX.out HXZ.out⟩
                case measure => simp [intOf]; omega
              | false =>
                have hq := HSC.out.2.2 p f1 (by have := HIN.out; simpa using this) HLK.out
                rw [HK2.out] at hq
                obtain ⟨rfl, rfl⟩ := Prod.mk.inj hq
                have hb14 := hx15.row HBw14.out
                have hb12 := hx15.row (Ext.row HXw14.out HBw12.out)
                obtain ⟨x0, x1, x2⟩ := cellsAt3 hb12
                obtain ⟨z0, z1, z2⟩ := cellsAt3 hb14
                have HE1 : Hid (IsBytes w15 (.slice su1 fb.data.length tu1) fb.data) := (IsData.ext (IsData.ext (IsData.ext HDu1.out HXBw12.out) HXw14.out) hx15).bytes
                have HE2 : Hid (IsBytes w15 (.slice su2 fb.data.length tu2) fb.data) := (IsData.ext (IsData.ext HDu2.out HXBw14.out) hx15).bytes
                clear hq hb14 hb12 hx15 y3
                go_wp2_with fail
                go_at_call 35
                refine (bytesEq_any _ _ _ _ _ HE1.out HE2.out).mono ?_
                rw [beq_self_eq_true]
                rintro e w16 ⟨rfl, rfl⟩
                go_wp2
                go_roundw
                case rel => exact ⟨k + 1, by omega, by go_num, Ext.trans HX.out HXZ.out⟩
                case measure => simp [intOf]; omega
            · have hkk : k = m2.now.length := by omega
              subst hkk
              have HPr : Hid _ := Pile.more HPa.out HXA.out
              go_wp2_with fail
              go_at_call 10
              refine (first_any _ (HE.out.ext HPr.out.ext)).mono ?_
              rintro e wy ⟨rfl, hxy⟩
              have HPy : Hid _ := Pile.more HPr.out hxy
              clear hxy
              obtain ⟨S1, O1, hO1, hbk1, hbl1⟩ := Pile.post HPy.out 0 (f := (.pointer (some ⟨g, 0, none⟩))) (m := mc) (by simp)
              have hpe := HSC.out.1
              have hdn := HSC.out.2.1
              have HPE : Hid _ := hpe
              have HDN : Hid _ := hdn
              clear hpe hdn
              go_wp2_with fail
              go_at_call 24
              refine (pending_any hO1.fs HOK.out (by omega)).mono ?_
              rw [HPE.out]
              rintro e wz ⟨rfl, rfl⟩
              go_wp2_with fail
              go_at_call 40
              refine (up_any hO1.fs).mono ?_
              rw [HDN.out]
              rintro e wz ⟨rfl, rfl⟩
              go_wp2
              go_ret
              exact ⟨rfl, HPy.out.ext⟩

end Go.Proofs.YtoajnaopainpnaaGreatDoor

/-! marlaw5.FsimSafe: whatever the input, the law returns true, and the input reads as it did: its row's statement and its tied card. Conditions: what the row lists: the library's variables hold what the program's text lays. -/
namespace Go.Proofs.YtoajnaopainpnaaGreatDoor.fsimSafe
open Go Go.ChangeShapes Go.WideShapes Go.ChangeAt Go.RowKit Go.Deep

set_option maxRecDepth 100000 in
theorem contract (H : Type) (enc : TypeId × Value → H) (W : World) (base : Nat) (args : Array Value) (ds gs : List (DataW H)) (before : List MemPlace)
    (hval : ∀ (j : Nat) t v, Tryz.f8.params[j]? = some t → args[j]? = some v → Value.okWide Tryz.prog W .any base t v)
    (hW : DataW.Whole enc Tryz.prog Tryz.f8.params.toList Rows.fsimSafeSpec.vars false W args.toList ds gs before)
    (hsz : (DataW.weightsEach Tryz.prog (Tryz.f8.params.toList ++ (OpenSpec.ofChange Rows.fsimSafeSpec).bare.plain.varTypes Tryz.prog) (ds ++ gs)).all (· ≤ reachBytes) = true)
    (hL : laidMetH Tryz.prog Rows.fsimSafeRow.laid W) (hS : W.ShapedOpen Tryz.prog) :
    Calls Tryz.prog 8 args W fun e W' => ∃ v, e = .returned v ∧ Rows.fsimSafeSpec.post enc Tryz.prog Tryz.f8 false true false false W args v W' := by
  have hW' := hW
  obtain ⟨p, q, hA0, hV, rfl, hfz, hnd⟩ := hW
  have hA : DataW.TrodAll enc Tryz.prog W 0 (fun _ => true) true Tryz.f8.params.toList args.toList ds p := hA0
  obtain ⟨rfl, rfl⟩ := trodVars_none hV
  clear hA0
  simp only [List.append_nil] at hW'
  have hE : Env W := env_of hS
  letI : Inhabited BaseW := ⟨⟨W⟩⟩
  have hBW : baseW = W := rfl
  have hBE : Ext baseW W := Ext.refl W
  have hAll := hA
  have hlt : ∀ x ∈ p, x.block < W.heap.size := fun x hx => by simpa using hW'.lt x (by simpa using hx)
  rw [Tryz.params8] at hA hval hsz
  obtain ⟨v0, vs0, d0, ds0, p0, q0, ha0, hd0, hp0, h0, hA⟩ := trodAll_cons hA
  obtain ⟨v1, vs1, d1, ds1, p1, q1, ha1, hd1, hp1, h1, hA⟩ := trodAll_cons hA
  obtain ⟨v2, vs2, d2, ds2, p2, q2, ha2, hd2, hp2, h2, hA⟩ := trodAll_cons hA
  obtain ⟨v3, vs3, d3, ds3, p3, q3, ha3, hd3, hp3, h3, hA⟩ := trodAll_cons hA
  obtain ⟨v4, vs4, d4, ds4, p4, q4, ha4, hd4, hp4, h4, hA⟩ := trodAll_cons hA
  obtain ⟨hn0, hn1, hn2⟩ := trodAll_nil hA
  subst hn0 hn1 hn2
  subst hp4 hd4 ha4
  subst hp3 hd3 ha3
  subst hp2 hd2 ha2
  subst hp1 hd1 ha1
  subst hp0 hd0
  obtain rfl : args = #[v0, v1, v2, v3, v4] := by cases args; simp_all
  clear ha0
  have hv0 := hval 0 3 v0 rfl rfl
  obtain ⟨n, rfl, -, -, hw0⟩ := open_int Tryz.underlying3 hv0 h0
  have hn : I64 n := i64_wf hw0
  have hv1 := hval 1 22 v1 rfl rfl
  obtain ⟨l, hl, hil⟩ := arg_ops (j := 1) hBW hv1 h1 hsz rfl rfl
  have hv2 := hval 2 22 v2 rfl rfl
  obtain ⟨l2, hl2, hil2⟩ := arg_ops (j := 2) hBW hv2 h2 hsz rfl rfl
  have hv3 := hval 3 3 v3 rfl rfl
  obtain ⟨keep, rfl, -, -, hw3⟩ := open_int Tryz.underlying3 hv3 h3
  have hkeep : I64 keep := i64_wf hw3
  have hv4 := hval 4 3 v4 rfl rfl
  obtain ⟨torn, rfl, -, -, hw4⟩ := open_int Tryz.underlying3 hv4 h4
  have htorn : I64 torn := i64_wf hw4
  refine (safeLaw_any n v1 l v2 l2 keep torn W hBE hE hl hil hl2 hil2 hkeep htorn).mono fun e W' ⟨he, hg⟩ => ?_
  subst he
  have harg := trodAll_below laidOut hg hAll hlt (by rw [Tryz.params8]; exact fun t ht => by simp only [List.mem_cons, List.not_mem_nil, or_false] at ht; rcases ht with rfl | rfl | rfl | rfl | rfl <;> exact ⟨by kernel_rfl, of_decide_eq_true (by kernel_rfl)⟩)
  exact ⟨_, rfl, _, _, _, [], _, [], hW', trodAll_mk1 (shut_bool Tryz.underlying4 _), harg, rfl, hg.frame _, fun h => by cases h⟩

theorem laid_met (os : Os) : laidMetH Tryz.prog Rows.fsimSafeRow.laid ((World.laidAll Tryz.prog os Rows.fsimSafeRow.laid).forCall (fun _ _ => 0) ⟨#[], #[.int .i64 0, .slice none 0 0, .slice none 0 0, .int .i64 0, .int .i64 0], []⟩).memory := by
  rw [MakeChecks.laidMetH_plain _ _ _ (by kernel_rfl)]
  exact laidMet_laidAll _ (by kernel_rfl) (by kernel_rfl)
theorem reads (os : Os) {H : Type} (enc : TypeId × Value → H) : ∃ places, DataW.whole enc Tryz.prog ((World.laidAll Tryz.prog os Rows.fsimSafeRow.laid).forCall (fun _ _ => 0) ⟨#[], #[.int .i64 0, .slice none 0 0, .slice none 0 0, .int .i64 0, .int .i64 0], []⟩).memory Tryz.f8.params.toList Rows.fsimSafeSpec.vars false #[.int .i64 0, .slice none 0 0, .slice none 0 0, .int .i64 0, .int .i64 0].toList 8 = some ([.lit (.int .i64 0), .nil, .nil, .lit (.int .i64 0), .lit (.int .i64 0)], [], places) :=
  ⟨[], by kernel_rfl⟩

set_option maxRecDepth 100000 in
theorem lifted (os : Os) (started : os.Started) (H : Type) (enc : TypeId × Value → H) (F : Stop.Interp) :
    ReturnsInHanded {} Tryz.checked os 8 .any ((OpenSpec.ofChange Rows.fsimSafeSpec).preRow enc Tryz.prog Tryz.f8 Rows.fsimSafeRow.domain false Rows.fsimSafeRow.laid) (((OpenSpec.ofChange Rows.fsimSafeSpec).at F).post enc Tryz.prog Tryz.f8 false true false false) := by
  obtain ⟨places, hx⟩ := reads os enc
  refine returnsInHanded_of_row (C := Tryz.checked) (s := OpenSpec.ofChange Rows.fsimSafeSpec) own started (by kernel_rfl) Tryz.func8
    (witness_row_at (enc := enc) (C := Tryz.checked) false (World.laidAll Tryz.prog os Rows.fsimSafeRow.laid) #[.int .i64 0, .slice none 0 0, .slice none 0 0, .int .i64 0, .int .i64 0] (World.laidAll_os _ _ _) (by kernel_rfl) (by kernel_rfl) (by kernel_rfl)
      (OpenSpec.preRow_of_cond 8 hx (by kernel_rfl) (fun k hk => by cases hk) (by kernel_rfl) (laid_met os))) ?_
  intro W base args ds gs before hval hW _ _ hsz hL hS _
  exact contract H enc W base args ds gs before hval hW hsz hL hS

theorem said : Rows.FsimSafeSaid :=
  OpenClaim.holds_of_cond 8 Tryz.f8 rfl rfl rfl rfl rfl rfl rfl ⟨rfl, rfl, rfl, rfl, rfl⟩ rfl rfl rfl rfl rfl (by kernel_rfl) Tryz.func8 (by kernel_rfl)
    (of_decide_eq_true (by kernel_rfl)) (by unfold Func.isWrapper; first | (rw [if_pos (by decide +kernel)]; kernel_rfl) | (rw [if_neg (by decide +kernel)]; exact ⟨rfl, rfl⟩))
    (fun os started H enc _ F => by rw [OpenClaim.pre_eq_preRow]; exact lifted os started H enc F)

theorem plain (f : FuncId) (fn : Func) (hf : Tryz.pinned.checked.prog.funcNamed "marline/marlaw5.FsimSafe" = some f) (hfn : Tryz.pinned.checked.prog.funcs[f]? = some fn) :
    false = Tryz.pinned.checked.prog.looks [] ∧ ∀ (j : Nat) t, fn.params[j]? = some t → Tryz.pinned.checked.prog.wantsStandIn t = false := by
  obtain rfl : f = 8 := Option.some.inj ((show Tryz.prog.funcNamed "marline/marlaw5.FsimSafe" = some 8 by kernel_rfl).symm.trans hf) |>.symm
  obtain rfl : fn = Tryz.f8 := (Option.some.inj (Tryz.func8.symm.trans hfn)).symm
  refine ⟨by kernel_rfl, fun j t ht => ?_⟩
  rw [Tryz.params8] at ht
  have hm : t ∈ [3, 22, 22, 3, 3] := by simpa using Array.mem_of_getElem? ht
  simp only [List.mem_cons, List.not_mem_nil, or_false] at hm
  rcases hm with rfl | rfl | rfl | rfl | rfl
  · exact (show Tryz.prog.wantsStandIn 3 = false by kernel_rfl)
  · exact (show Tryz.prog.wantsStandIn 22 = false by kernel_rfl)
  · exact (show Tryz.prog.wantsStandIn 22 = false by kernel_rfl)
  · exact (show Tryz.prog.wantsStandIn 3 = false by kernel_rfl)
  · exact (show Tryz.prog.wantsStandIn 3 = false by kernel_rfl)

/-- The card. -/
theorem card : Rows.FsimSafeCardSaid :=
  Claim7.holds_tied_plain_at .later [] _ _ _ _ said (fun _ h => by cases h) (by kernel_rfl) (fun _ h => by cases h) fsimSafe_row_tie rfl ⟨rfl, rfl⟩ (by kernel_rfl) rfl plain (by kernel_rfl)

end Go.Proofs.YtoajnaopainpnaaGreatDoor.fsimSafe
