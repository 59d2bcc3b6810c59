/- marlaw5.FsimKeeps: whatever the input, the law returns true, and the input reads as it did: its row's statement and its tied card. Conditions: what the row lists: the library's variables hold what the program's text lays. -/
import Derived.Test.YtoajnaopainpnaaGreatDoorZaj
import Derived.Test.YtoajnaopainpnaaGreatDoorZai

set_option linter.unusedVariables false
set_option linter.unusedSimpArgs false
set_option linter.unusedSectionVars false

/-! marlaw5.FsimKeeps: true at any room, any operations, any path, any data. Conditions: as each theorem states. -/
namespace Go.Proofs.YtoajnaopainpnaaGreatDoor
open Go Go.RowKit
variable [Inhabited BaseW]

theorem userWrite_calls (m : Fs) (path : B8) (mode : Int) (data : B8) : (userWrite m path mode data).1.calls = m.calls := by
  have hp : (putsM m path mode data true).1.calls = m.calls := by
    unfold putsM
    repeat' split
    all_goals rfl
  unfold userWrite
  repeat' split
  all_goals first | rfl | exact hp
def KeepRel (w wr : World) (f was x vo : Value) (css : List (List Value)) (m0 : Fs) (L : List Opn) (k : Nat) : Prop :=
  ∃ m mx : Fs, Pile w wr [(2, .ref x mx), (3, .row 48 8 vo L.length css.flatten), (1, .fs was m0), (0, .fs f m)] ∧ Keeps m0 k m ∧ Good (101 + k) mx

set_option maxRecDepth 100000 in
set_option maxHeartbeats 16000000 in
theorem keepsLaw_any (room : Int) (v : Value) (l : List Opn) (v2 : Value) (l2 : List Opn) (path : B8) (vd : Value) (data : B8) (w : World) (hb : Ext baseW w) (hE : Env w) (hv : IsOps w v l) (hi : ∀ o ∈ l, I64 o.keep ∧ I64 o.torn ∧ ∀ e ∈ o.plan, I64 e.keep ∧ I64 e.torn) (hv2 : IsOps w v2 l2) (hi2 : ∀ o ∈ l2, I64 o.keep ∧ I64 o.torn ∧ ∀ e ∈ o.plan, I64 e.keep ∧ I64 e.torn) (hd : OldB vd data) :
    Calls Tryz.prog 5 #[.int .i64 room, v, v2, S8 path, vd] w fun e w' => e = .returned (.bool true) ∧ Ext w w' := by
  obtain ⟨d1, d2, rfl, -⟩ := OldB.at hd hb
  have HD : Hid _ := hd
  clear hd
  obtain ⟨a0, cap, rfl, h1, h2, h3, -⟩ := ops_cells hv
  obtain ⟨a1, cap1, rfl, j1, j2, j3, -⟩ := ops_cells hv2
  have HV : Hid _ := hv
  have HI : Hid _ := hi
  have HV2 : Hid _ := hv2
  have HI2 : Hid _ := hi2
  have HE : Hid _ := hE
  have HB : Hid _ := hb
  clear hv hi hE hb hv2 hi2
  go_enter Tryz.func5, Tryz.ntmps5
  go_wp2_with fail
  go_at_call 10
  refine (first_any w HE.out).mono ?_
  rintro e w1 ⟨rfl, hx1⟩
  have HE1 : Hid _ := HE.out.ext hx1
  go_wp2_with fail
  go_at_call 11
  refine (played_any room _ l w1 (Ext.trans HB.out hx1) HE1.out (IsOps.ext HV.out hx1) HI.out).mono ?_
  rintro e w2 ⟨hr, hx2⟩
  have HE2 : Hid _ := HE1.out.ext hx2
  have hx02 := hx1.trans hx2
  rcases hr with rfl | ⟨g, S, O, rfl, hOne, hG, hF, hR⟩
  · go_wp2_with fail
    go_at_call 10
    refine (first_any _ HE2.out).mono ?_
    rintro e wz ⟨rfl, hxz⟩
    go_wp2
    go_ret
    exact ⟨rfl, hx02.trans hxz⟩
  · obtain ⟨m, hm⟩ : ∃ m, playM room l = m := ⟨_, rfl⟩
    rw [hm] at hOne hG hF hR
    have HP0 : Hid (Pile w w2 [(0, .fs (.pointer (some ⟨g, 0, none⟩)) m)]) := Pile.base (Pile.one hOne 0) hx1
    have HX02 : Hid _ := hx02
    have HG : Hid _ := hG
    clear hm hOne hG hF hR hx1 hx2
    go_wp2_with fail
    go_at_call 22
    refine (fewOps_any hx02 HV2.out).mono ?_
    obtain ⟨fe, hfe⟩ : ∃ fe, fewOps l2 = fe := ⟨_, rfl⟩
    rw [hfe]
    have HFE : Hid _ := hfe
    clear hfe hx02
    rintro e w2b ⟨rfl, hx2b⟩
    have HP0b : Hid _ := Pile.more HP0.out hx2b
    have HE2b : Hid _ := HE2.out.ext hx2b
    have HX2b : Hid _ := Ext.trans HX02.out hx2b
    clear hx2b
    cases fe with
    | false =>
      go_wp2_with fail
      go_at_call 10
      refine (first_any _ HE2b.out).mono ?_
      rintro e wz ⟨rfl, hxz⟩
      go_wp2
      go_ret
      exact ⟨rfl, Ext.trans HX2b.out hxz⟩
    | true =>
      have HFEW : Hid _ := few_ops HFE.out HI2.out
      have hl100 := HFEW.out.1
      by_cases ha : (400 : Int) < (path.length : Int)
      · go_wp2_with fail
        go_at_call 10
        refine (first_any _ HE2b.out).mono ?_
        rintro e wz ⟨rfl, hxz⟩
        go_wp2
        go_ret
        exact ⟨rfl, Ext.trans HX2b.out hxz⟩
      by_cases hb : (3000 : Int) < (data.length : Int)
      · go_wp2_with fail
        go_at_call 10
        refine (first_any _ HE2b.out).mono ?_
        rintro e wz ⟨rfl, hxz⟩
        go_wp2
        go_ret
        exact ⟨rfl, Ext.trans HX2b.out hxz⟩
      obtain ⟨S1, O1, hO1, hbk1, hbl1⟩ := Pile.post HP0b.out 0 (f := (.pointer (some ⟨g, 0, none⟩))) (m := m) (by simp)
      go_wp2_with fail
      go_at_call 27
      refine (plan_any hO1.fs (fun k hk => (hO1.lo k hk).2) (readB_nil _) (Nat.zero_le _)).mono ?_
      rintro e w3 ⟨rfl, hf3, hfr3⟩
      have HP3 : Hid (Pile w w3 [(0, .fs (.pointer (some ⟨g, 0, none⟩)) (planM m []))]) := hbl1 _ _ _ hf3 hfr3 (by intro y hy; simp only [List.mem_cons, List.not_mem_nil, or_false] at hy ⊢; rcases hy with rfl <;> simp)
      clear hf3 hfr3
      clear hO1 hbk1 hbl1
      obtain ⟨S1, O1, hO1, hbk1, hbl1⟩ := Pile.post HP3.out 0 (f := (.pointer (some ⟨g, 0, none⟩))) (m := planM m []) (by simp)
      go_wp2_with fail
      go_at_call 28
      refine (reboot_any hO1.fs).mono ?_
      rintro e w4 ⟨rfl, h4⟩
      have HP4 : Hid (Pile w w4 [(0, .fs (.pointer (some ⟨g, 0, none⟩)) (rebootM (planM m [])))]) := hbk1 _ _ _ h4 (by intro y hy; simp only [List.mem_cons, List.not_mem_nil, or_false] at hy ⊢; rcases hy with rfl <;> simp)
      clear h4
      clear hO1 hbk1 hbl1
      have HG1 : Hid (Good 100 (rebootM (planM m []))) := good_reboot (good_plan HG.out (L := []) (Nat.zero_le _) (fun e he => by cases he))
      have HI1 : Hid (Idle (rebootM (planM m []))) := ⟨rfl, rfl⟩
      generalize rebootM (planM m []) = m1 at *
      have HG2 : Hid (Good 101 (syncM m1).1) := HG1.out.left (left_syncN HG1.out.ok HG1.out.few) (by rw [sync_idle HI1.out]; have := HG1.out.calls; exact Nat.add_le_add_right this 1)
      obtain ⟨S1, O1, hO1, hbk1, hbl1⟩ := Pile.post HP4.out 0 (f := (.pointer (some ⟨g, 0, none⟩))) (m := m1) (by simp)
      go_wp2_with fail
      go_at_call 29
      refine (sync_any (One.fin hO1 HE.out HG1.out (by omega))).mono ?_
      rw [sync_idle HI1.out] at HG2 ⊢
      have HI2x : Hid (Idle (settle { m1 with calls := m1.calls + 1 })) := ⟨HI1.out.plan, HI1.out.down⟩
      have HSP : Hid ((settle { m1 with calls := m1.calls + 1 }).pend = [] ∧ (settle { m1 with calls := m1.calls + 1 }).sure = (settle { m1 with calls := m1.calls + 1 }).now) := ⟨rfl, rfl⟩
      dsimp only at HG2 ⊢
      generalize settle { m1 with calls := m1.calls + 1 } = m2 at *
      rintro e w5 ⟨rfl, h5⟩
      have HP5 : Hid (Pile w w5 [(0, .fs (.pointer (some ⟨g, 0, none⟩)) m2)]) := hbk1 _ _ _ h5 (by intro y hy; simp only [List.mem_cons, List.not_mem_nil, or_false] at hy ⊢; rcases hy with rfl <;> simp)
      clear h5
      clear hO1 hbk1 hbl1
      obtain ⟨S1, O1, hO1, hbk1, hbl1⟩ := Pile.post HP5.out 0 (f := (.pointer (some ⟨g, 0, none⟩))) (m := m2) (by simp)
      go_wp2_with fail
      go_at_call 30
      refine (copy_any hO1.fs HG2.out.ok (by have := HG2.out.time; omega) (by have := HG2.out.calls; omega)).mono ?_
      rintro e w6 ⟨⟨p', S', O9, rfl, hf', hS', hO'⟩, hx6⟩
      obtain ⟨-, -, g5, rfl⟩ := hf'.rise
      have HP6 : Hid (Pile w w6 [(1, .fs (.pointer (some ⟨g5, 0, none⟩)) m2), (0, .fs (.pointer (some ⟨g, 0, none⟩)) m2)]) := Pile.addCopy HP5.out 1 (by simp) hx6 hf' hS' hO'
      clear hf' hS' hO' hx6
      clear hO1 hbk1 hbl1
      have HL : Hid (∀ o ∈ calmL l2, OpOk o ∧ 0 ≤ o.kind ∧ o.kind ≤ 7) := fun o ho => by
        have h9 := calm_mem ho
        exact ⟨HFEW.out.2 o h9.1, h9.2⟩
      have hL100 : (calmL l2).length ≤ 100 := Nat.le_trans (calm_len l2) hl100
      go_wp2_with fail
      go_at_call 31
      refine (calm_any (w0 := w) HP6.out.ext HV2.out (by omega)).mono ?_
      rintro e w7 ⟨⟨v', rfl, css, hown, heach⟩, hx7⟩
      generalize calmL l2 = L at *
      obtain ⟨cp, cc, rfl, -⟩ := Row.of_owns hown (by omega)
      have HEA : Hid _ := heach
      have HP7 : Hid (Pile w w7 [(3, .row 48 8 (.slice cp L.length cc) L.length css.flatten), (1, .fs (.pointer (some ⟨g5, 0, none⟩)) m2), (0, .fs (.pointer (some ⟨g, 0, none⟩)) m2)]) := Pile.addRow HP6.out 3 (by simp) hx7 hown
      clear hown heach hx7
      go_wp2_with fail
      go_at_call 21
      refine (newR_yes 1073741824 _ (by omega) (by omega)).mono ?_
      rintro e w8 ⟨⟨q, rfl, hq⟩, hx8⟩
      obtain ⟨gx, rfl⟩ := hq.ptr
      have HGX : Hid (Good 0 (newM 1073741824)) := good_new (by omega) (by omega)
      have HP8 : Hid (Pile w w8 [(2, .ref (.pointer (some ⟨gx, 0, none⟩)) (newM 1073741824)), (3, .row 48 8 (.slice cp L.length cc) L.length css.flatten), (1, .fs (.pointer (some ⟨g5, 0, none⟩)) m2), (0, .fs (.pointer (some ⟨g, 0, none⟩)) m2)]) := Pile.addRef HP7.out 2 (by simp) hx8 hq
      clear hq hx8
      dsimp only
      go_wp2_with fail
      go_loopw [16] (fun i wr => ∃ k : Nat, k ≤ L.length ∧ i = .int .i64 k ∧ Hid (KeepRel w wr (.pointer (some ⟨g, 0, none⟩)) (.pointer (some ⟨g5, 0, none⟩)) (.pointer (some ⟨gx, 0, none⟩)) (.slice cp L.length cc) css m2 L k)) (fun i _ => L.length - (intOf i).toNat)
      case atStart => exact ⟨0, Nat.zero_le _, rfl, m2, _, HP8.out, keeps_start HG2.out HI2x.out HSP.out.2, HGX.out.mono (by omega)⟩
      case round =>
        obtain ⟨k, hk, rfl, hC⟩ := hrel
        obtain ⟨mk, mx, hP, hS, hGx⟩ := hC.out
        have HPk : Hid _ := hP
        have HS : Hid _ := hS
        have HGx : Hid _ := hGx
        clear hP hS hGx hC
        by_cases hlt : k < L.length
        · obtain ⟨E, he⟩ : ∃ e, L[k]? = some e := ⟨_, List.getElem?_eq_getElem hlt⟩
          have HK : Hid _ := he
          have HEL : Hid _ := HL.out E (List.mem_of_getElem? he)
          clear he
          obtain ⟨_, _, he1, -, -, -, hg1⟩ := readO_get 8 (fun c x hx => hx.length.1) (by omega) (ops_read (Pile.row (e := 48) (size := 8) (v := .slice cp L.length cc) (n := L.length) (xs := css.flatten) HPk.out 3 (by simp)) HEA.out (by omega))
          cases he1
          obtain ⟨b, o, cs1, rfl, hop1, hc1⟩ := hg1 k E HK.out
          have HOP1 : Hid _ := hop1
          obtain ⟨vd1, vp1, rfl, hd1, hpl1⟩ := id hop1
          obtain ⟨s11, s12, rfl, -⟩ := id hd1.bytes
          obtain ⟨_, ⟨p11, p12, rfl, -⟩, -⟩ := id hpl1
          have c0 := hc1 0 _ rfl
          have c1 := hc1 1 _ rfl
          have c2 := hc1 2 _ rfl
          have c3 := hc1 3 _ rfl
          have c4 := hc1 4 _ rfl
          have c5 := hc1 5 _ rfl
          have c6 := hc1 6 _ rfl
          have c7 := hc1 7 _ rfl
          simp only [Nat.add_zero] at c0
          clear hg1 hop1 hc1 hd1 hpl1
          by_cases h5 : E.kind = 5
          · have b5 : (E.kind != 5) = false := by rw [h5]; rfl
            have HS5 : Hid (stepK mk E = mk) := by unfold Hid stepK; rw [if_pos h5]
            clear h5
            go_wp2
            go_roundw
            case rel => exact ⟨k + 1, by omega, by go_num, mk, mx, HPk.out, by have h9 := keeps_step HS.out HEL.out.1 HEL.out.2.1 HEL.out.2.2; rw [HS5.out] at h9; exact h9, HGx.out.mono (by omega)⟩
            case measure => simp [intOf]; omega
          · have b5 : (E.kind != 5) = true := by simpa using h5
            have HS5 : Hid (stepK mk E = stepM mk E) := by unfold Hid stepK; rw [if_neg h5]
            clear h5
            obtain ⟨S2, O2, O2', hT, hback⟩ := Pile.two HPk.out HB.out 0 2 (by decide) (f := (.pointer (some ⟨g, 0, none⟩))) (m := mk) (x := (.pointer (some ⟨gx, 0, none⟩))) (m2 := mx) (by simp) (by simp)
            have HT : Hid _ := hT
            have HBK : Hid _ := hback
            clear hT hback
            go_wp2_with fail
            go_at_call 25
            refine (doesOp_gen HT.out HE.out HS.out.good HGx.out (by omega) HOP1.out HEL.out.1).mono ?_
            rintro e wc ⟨⟨bb, rfl, -⟩, hTP⟩
            have HPc : Hid (Pile w wc [(2, .ref (.pointer (some ⟨gx, 0, none⟩)) (stepM mx E)), (3, .row 48 8 (.slice (some ⟨b, o, none⟩) L.length cc) L.length css.flatten), (1, .fs (.pointer (some ⟨g5, 0, none⟩)) m2), (0, .fs (.pointer (some ⟨g, 0, none⟩)) (stepM mk E))]) := HBK.out _ _ _ _ hTP (by intro y hy; simp only [List.mem_cons, List.not_mem_nil, or_false] at hy ⊢; rcases hy with rfl | rfl | rfl | rfl <;> simp)
            clear hTP
            go_wp2
            go_roundw
            case rel => exact ⟨k + 1, by omega, by go_num, _, _, HPc.out, by have h9 := keeps_step HS.out HEL.out.1 HEL.out.2.1 HEL.out.2.2; rw [HS5.out] at h9; exact h9, step_good HGx.out HEL.out.1⟩
            case measure => simp [intOf]; omega
        · have hkk : k = L.length := by omega
          subst hkk
          have htk := HS.out.good.time
          have hck := HS.out.good.calls
          have HOK : Hid _ := HS.out.good.ok
          have HDN : Hid (mk.down = false) := HS.out.kept.down
          have HP9 : Hid (Pile w wr [(1, .fs (.pointer (some ⟨g5, 0, none⟩)) m2), (0, .fs (.pointer (some ⟨g, 0, none⟩)) mk)]) := Pile.sub HPk.out (by intro y hy; simp only [List.mem_cons, List.not_mem_nil, or_false] at hy ⊢; rcases hy with rfl | rfl <;> simp)
          obtain ⟨S1, O1, hO1, hbk1, hbl1⟩ := Pile.post HP9.out 0 (f := (.pointer (some ⟨g, 0, none⟩))) (m := mk) (by simp)
          go_wp2_with fail
          go_at_call 30
          refine (copy_any hO1.fs HOK.out (by omega) (by omega)).mono ?_
          rintro e wa ⟨⟨p', S', O9, rfl, hf', hS', hO'⟩, hx'⟩
          obtain ⟨-, -, gA, rfl⟩ := hf'.rise
          have HPwa : Hid (Pile w wa [(5, .fs (.pointer (some ⟨gA, 0, none⟩)) mk), (1, .fs (.pointer (some ⟨g5, 0, none⟩)) m2), (0, .fs (.pointer (some ⟨g, 0, none⟩)) mk)]) := Pile.addCopy HP9.out 5 (by simp) hx' hf' hS' hO'
          clear hf' hS' hO' hx'
          clear hO1 hbk1 hbl1
          obtain ⟨S1, O1, hO1, hbk1, hbl1⟩ := Pile.post HPwa.out 0 (f := (.pointer (some ⟨g, 0, none⟩))) (m := mk) (by simp)
          go_wp2_with fail
          go_at_call 30
          refine (copy_any hO1.fs HOK.out (by omega) (by omega)).mono ?_
          rintro e wb ⟨⟨p', S', O9, rfl, hf', hS', hO'⟩, hx'⟩
          obtain ⟨-, -, gN, rfl⟩ := hf'.rise
          have HPwb : Hid (Pile w wb [(6, .fs (.pointer (some ⟨gN, 0, none⟩)) mk), (5, .fs (.pointer (some ⟨gA, 0, none⟩)) mk), (1, .fs (.pointer (some ⟨g5, 0, none⟩)) m2), (0, .fs (.pointer (some ⟨g, 0, none⟩)) mk)]) := Pile.addCopy HPwa.out 6 (by simp) hx' hf' hS' hO'
          clear hf' hS' hO' hx'
          clear hO1 hbk1 hbl1
          obtain ⟨S1, O1, hO1, hbk1, hbl1⟩ := Pile.post HPwb.out 0 (f := (.pointer (some ⟨g, 0, none⟩))) (m := mk) (by simp)
          go_wp2_with fail
          go_at_call 30
          refine (copy_any hO1.fs HOK.out (by omega) (by omega)).mono ?_
          rintro e wc ⟨⟨p', S', O9, rfl, hf', hS', hO'⟩, hx'⟩
          obtain ⟨-, -, gU, rfl⟩ := hf'.rise
          have HPwc : Hid (Pile w wc [(7, .fs (.pointer (some ⟨gU, 0, none⟩)) mk), (6, .fs (.pointer (some ⟨gN, 0, none⟩)) mk), (5, .fs (.pointer (some ⟨gA, 0, none⟩)) mk), (1, .fs (.pointer (some ⟨g5, 0, none⟩)) m2), (0, .fs (.pointer (some ⟨g, 0, none⟩)) mk)]) := Pile.addCopy HPwb.out 7 (by simp) hx' hf' hS' hO'
          clear hf' hS' hO' hx'
          clear hO1 hbk1 hbl1
          obtain ⟨S1, O1, hO1, hbk1, hbl1⟩ := Pile.post HPwc.out 5 (f := (.pointer (some ⟨gA, 0, none⟩))) (m := mk) (by simp)
          go_wp2_with fail
          go_at_call 32
          refine (crash_any 1073741824 (-1) hO1.fs HOK.out (by omega) (by exact ⟨by decide, by decide⟩) (by exact ⟨by decide, by decide⟩)).mono ?_
          rintro e wd ⟨rfl, h'⟩
          have HPwd : Hid (Pile w wd [(7, .fs (.pointer (some ⟨gU, 0, none⟩)) mk), (6, .fs (.pointer (some ⟨gN, 0, none⟩)) mk), (5, .fs (.pointer (some ⟨gA, 0, none⟩)) (crash mk 1073741824 (-1))), (1, .fs (.pointer (some ⟨g5, 0, none⟩)) m2), (0, .fs (.pointer (some ⟨g, 0, none⟩)) mk)]) := hbk1 _ _ _ h' (by intro y hy; simp only [List.mem_cons, List.not_mem_nil, or_false] at hy ⊢; rcases hy with rfl | rfl | rfl | rfl | rfl <;> simp)
          clear h'
          clear hO1 hbk1 hbl1
          have HCA : Hid ((crash mk 1073741824 (-1)).now = mk.now) := crash_all HOK.out HDN.out (by have := HOK.out.lpend; omega)
          have HCB : Hid ((crash mk 0 (-1)).now = m2.now) := crash_none HS.out.kept
          have HOA : Hid _ := ok_crash 1073741824 (-1) HOK.out
          have HOB : Hid _ := ok_crash 0 (-1) HOK.out
          have hta := crash_time mk 1073741824 (-1)
          have htb := crash_time mk 0 (-1)
          have hlk := HOK.out.lnow
          have hl2 := HG2.out.ok.lnow
          have ht2 := HG2.out.time
          obtain ⟨ma, hma⟩ : ∃ x, crash mk 1073741824 (-1) = x := ⟨_, rfl⟩
          rw [hma] at HPwd HCA HOA hta
          clear hma
          obtain ⟨S1, O1, hO1, hbk1, hbl1⟩ := Pile.post HPwd.out 6 (f := (.pointer (some ⟨gN, 0, none⟩))) (m := mk) (by simp)
          go_wp2_with fail
          go_at_call 32
          refine (crash_any 0 (-1) hO1.fs HOK.out (by omega) (by exact ⟨by decide, by decide⟩) (by exact ⟨by decide, by decide⟩)).mono ?_
          rintro e we ⟨rfl, h'⟩
          have HPwe : Hid (Pile w we [(7, .fs (.pointer (some ⟨gU, 0, none⟩)) mk), (6, .fs (.pointer (some ⟨gN, 0, none⟩)) (crash mk 0 (-1))), (5, .fs (.pointer (some ⟨gA, 0, none⟩)) ma), (1, .fs (.pointer (some ⟨g5, 0, none⟩)) m2), (0, .fs (.pointer (some ⟨g, 0, none⟩)) mk)]) := hbk1 _ _ _ h' (by intro y hy; simp only [List.mem_cons, List.not_mem_nil, or_false] at hy ⊢; rcases hy with rfl | rfl | rfl | rfl | rfl <;> simp)
          clear h'
          clear hO1 hbk1 hbl1
          obtain ⟨mn, hmn⟩ : ∃ x, crash mk 0 (-1) = x := ⟨_, rfl⟩
          rw [hmn] at HPwe HCB HOB htb
          clear hmn
          obtain ⟨S1, O1, hO1, hbk1, hbl1⟩ := Pile.post HPwe.out 5 (f := (.pointer (some ⟨gA, 0, none⟩))) (m := ma) (by simp)
          obtain ⟨S2, O2, hO2, hbk2, hbl2⟩ := Pile.post HPwe.out 0 (f := (.pointer (some ⟨g, 0, none⟩))) (m := mk) (by simp)
          go_wp2_with fail
          go_at_call 33
          refine (alike_any hO1.fs hO2.fs (by have := HOA.out.lnow; omega) (by skip; omega)).mono ?_
          rintro e wf ⟨⟨r, rfl, hr⟩, hx'⟩
          obtain rfl : r = true := hr.2 HCA.out
          have HPwf : Hid _ := Pile.more HPwe.out hx'
          clear hr hx'
          clear hO1 hbk1 hbl1
          clear hO2 hbk2 hbl2
          obtain ⟨S1, O1, hO1, hbk1, hbl1⟩ := Pile.post HPwf.out 6 (f := (.pointer (some ⟨gN, 0, none⟩))) (m := mn) (by simp)
          obtain ⟨S2, O2, hO2, hbk2, hbl2⟩ := Pile.post HPwf.out 1 (f := (.pointer (some ⟨g5, 0, none⟩))) (m := m2) (by simp)
          go_wp2_with fail
          go_at_call 33
          refine (alike_any hO1.fs hO2.fs (by have := HOB.out.lnow; omega) (by skip; omega)).mono ?_
          rintro e wg ⟨⟨r, rfl, hr⟩, hx'⟩
          obtain rfl : r = true := hr.2 HCB.out
          have HPwg : Hid _ := Pile.more HPwf.out hx'
          clear hr hx'
          clear hO1 hbk1 hbl1
          clear hO2 hbk2 hbl2
          obtain ⟨S1, O1, hO1, hbk1, hbl1⟩ := Pile.post HPwg.out 7 (f := (.pointer (some ⟨gU, 0, none⟩))) (m := mk) (by simp)
          go_wp2_with fail
          go_at_call 34
          refine (userWrite_any path 1 _ data (HE.out.ext HPwg.out.ext) hO1.fs HOK.out (by omega) (by omega) (OldB.at HD.out (Ext.trans HB.out HPwg.out.ext)) (by omega) (fun hp => may_eq [] hp) (OldB.out HD.out (fun k hk => Nat.le_trans HB.out.size (hO1.lo k hk).1))).mono ?_
          obtain ⟨eu, heu⟩ : ∃ x, (userWrite mk path 1 data).2 = x := ⟨_, rfl⟩
          obtain ⟨mu, hmu⟩ : ∃ x, (userWrite mk path 1 data).1 = x := ⟨_, rfl⟩
          have HNO : Hid (eu ≠ 0 → mu = mk) := fun h => by rw [← hmu]; exact userWrite_no (by rw [heu]; exact h)
          have HYES : Hid (eu = 0 → _) := fun h => userWrite_yes (heu.trans h)
          have HOU : Hid _ := ok_userWrite (path := path) (mode := 1) (data := data) HOK.out
          have htu := userWrite_time (m := mk) (path := path) (mode := 1) (data := data)
          have hcu := userWrite_calls mk path 1 data
          rw [hmu] at HYES HOU htu hcu
          rw [heu, hmu]
          rintro e wh ⟨rfl, h'⟩
          have HPwh : Hid (Pile w wh [(7, .fs (.pointer (some ⟨gU, 0, none⟩)) mu), (6, .fs (.pointer (some ⟨gN, 0, none⟩)) mn), (5, .fs (.pointer (some ⟨gA, 0, none⟩)) ma), (1, .fs (.pointer (some ⟨g5, 0, none⟩)) m2), (0, .fs (.pointer (some ⟨g, 0, none⟩)) mk)]) := hbk1 _ _ _ h' (by intro y hy; simp only [List.mem_cons, List.not_mem_nil, or_false] at hy ⊢; rcases hy with rfl | rfl | rfl | rfl | rfl <;> simp)
          clear h' heu hmu
          clear hO1 hbk1 hbl1
          by_cases he : eu = 0
          case neg =>
            have be : (eu != 0) = true := by simpa using he
            obtain rfl : mu = mk := HNO.out he
            clear he
            go_wp2_with fail
            go_at_call 10
            refine (first_any _ (HE.out.ext HPwh.out.ext)).mono ?_
            rintro e wi ⟨rfl, hx'⟩
            have HPwi : Hid _ := Pile.more HPwh.out hx'
            clear hx'
            obtain ⟨S1, O1, hO1, hbk1, hbl1⟩ := Pile.post HPwi.out 7 (f := (.pointer (some ⟨gU, 0, none⟩))) (m := mu) (by simp)
            obtain ⟨S2, O2, hO2, hbk2, hbl2⟩ := Pile.post HPwi.out 0 (f := (.pointer (some ⟨g, 0, none⟩))) (m := mu) (by simp)
            go_wp2_with fail
            go_at_call 33
            refine (alike_any hO1.fs hO2.fs (by skip; omega) (by skip; omega)).mono ?_
            rintro e wj ⟨⟨r, rfl, hr⟩, hx'⟩
            obtain rfl : r = true := hr.2 rfl
            have HPwj : Hid _ := Pile.more HPwi.out hx'
            clear hr hx'
            clear hO1 hbk1 hbl1
            clear hO2 hbk2 hbl2
            go_wp2
            go_ret
            exact ⟨rfl, HPwj.out.ext⟩
          subst he
          obtain ⟨hpb, x, hxd, hlx, hus, hup, hud⟩ := HYES.out rfl
          subst hxd
          have HCS : Hid ((crash mu 0 0).now = mu.now) := crash_still hud hus hup
          have HKX : Hid (peekM (crash mu 0 0) path = (x, true)) := peek_of (by rw [HCS.out]; exact hlx)
          have HPB : Hid (pathB path = true) := hpb
          have HOC : Hid _ := ok_crash 0 0 HOU.out
          have htc := crash_time mu 0 0
          clear hpb hlx hus hup hud
          obtain ⟨S1, O1, hO1, hbk1, hbl1⟩ := Pile.post HPwh.out 7 (f := (.pointer (some ⟨gU, 0, none⟩))) (m := mu) (by simp)
          go_wp2_with fail
          go_at_call 30
          refine (copy_any hO1.fs HOU.out (by omega) (by omega)).mono ?_
          rintro e wi ⟨⟨p', S', O9, rfl, hf', hS', hO'⟩, hx'⟩
          obtain ⟨-, -, gT, rfl⟩ := hf'.rise
          have HPwi : Hid (Pile w wi [(8, .fs (.pointer (some ⟨gT, 0, none⟩)) mu), (7, .fs (.pointer (some ⟨gU, 0, none⟩)) mu), (6, .fs (.pointer (some ⟨gN, 0, none⟩)) mn), (5, .fs (.pointer (some ⟨gA, 0, none⟩)) ma), (1, .fs (.pointer (some ⟨g5, 0, none⟩)) m2), (0, .fs (.pointer (some ⟨g, 0, none⟩)) mk)]) := Pile.addCopy HPwh.out 8 (by simp) hx' hf' hS' hO'
          clear hf' hS' hO' hx'
          clear hO1 hbk1 hbl1
          obtain ⟨S1, O1, hO1, hbk1, hbl1⟩ := Pile.post HPwi.out 7 (f := (.pointer (some ⟨gU, 0, none⟩))) (m := mu) (by simp)
          go_wp2_with fail
          go_at_call 32
          refine (crash_any 0 0 hO1.fs HOU.out (by omega) (by exact ⟨by decide, by decide⟩) (by exact ⟨by decide, by decide⟩)).mono ?_
          rintro e wj ⟨rfl, h'⟩
          have HPwj : Hid (Pile w wj [(8, .fs (.pointer (some ⟨gT, 0, none⟩)) mu), (7, .fs (.pointer (some ⟨gU, 0, none⟩)) (crash mu 0 0)), (6, .fs (.pointer (some ⟨gN, 0, none⟩)) mn), (5, .fs (.pointer (some ⟨gA, 0, none⟩)) ma), (1, .fs (.pointer (some ⟨g5, 0, none⟩)) m2), (0, .fs (.pointer (some ⟨g, 0, none⟩)) mk)]) := hbk1 _ _ _ h' (by intro y hy; simp only [List.mem_cons, List.not_mem_nil, or_false] at hy ⊢; rcases hy with rfl | rfl | rfl | rfl | rfl | rfl <;> simp)
          clear h'
          clear hO1 hbk1 hbl1
          obtain ⟨mc, hmc⟩ : ∃ x, crash mu 0 0 = x := ⟨_, rfl⟩
          rw [hmc] at HPwj HCS HKX HOC htc
          clear hmc
          obtain ⟨S1, O1, hO1, hbk1, hbl1⟩ := Pile.post HPwj.out 7 (f := (.pointer (some ⟨gU, 0, none⟩))) (m := mc) (by simp)
          have HA : Hid _ := hO1.fs
          clear hO1 hbk1 hbl1
          go_wp2_with fail
          go_at_call 13
          refine (peek_any path HA.out (by omega)).mono ?_
          rw [HKX.out]
          rintro e wk ⟨⟨y1, rfl, hdy1⟩, hxwk⟩
          obtain ⟨sy1, ty1, rfl, -⟩ := id hdy1.bytes
          have HDy1 : Hid _ := hdy1
          clear hdy1
          dsimp only
          go_upto_region 31 with fail
          obtain ⟨wl, hwwl⟩ : ∃ wq, wq = wk.alloc (.cells #[.int .i64 x.mode, .slice sy1 x.data.length ty1, .int .i64 x.time] 30) := ⟨_, rfl⟩
          rw [← hwwl]
          have hxwl : Ext wk wl := by rw [hwwl]; exact (Ext.refl _).alloc _
          have hbwl : wl.heap[wk.heap.size]? = some (.cells #[.int .i64 x.mode, .slice sy1 x.data.length ty1, .int .i64 x.time] 30 (0, 0)) := by rw [hwwl]; exact alloc_at _ _
          have HBwl : Hid _ := hbwl
          have HXAwl : Hid _ := hxwk
          have HXBwl : Hid _ := hxwl
          have HXwl : Hid _ := Ext.trans hxwk hxwl
          clear hwwl hbwl hxwk hxwl
          have HPwl : Hid _ := Pile.more HPwj.out HXwl.out
          go_wp2_with fail
          go_at_call 10
          refine (first_any _ (HE.out.ext HPwl.out.ext)).mono ?_
          rintro e wm ⟨rfl, hxm⟩
          have HPwm : Hid _ := Pile.more HPwl.out hxm
          have hbx := hxm.row HBwl.out
          obtain ⟨x0, x1, x2⟩ := cellsAt3 hbx
          have HYD : Hid (IsBytes wm (.slice sy1 x.data.length ty1) x.data) := (IsData.ext (IsData.ext HDy1.out HXBwl.out) hxm).bytes
          clear hbx hxm
          go_wp2_with fail
          go_at_call 35
          refine (bytesEq_any _ _ _ _ _ HYD.out (OldB.at HD.out (Ext.trans HB.out HPwm.out.ext))).mono ?_
          rw [beq_self_eq_true]
          rintro e wn ⟨rfl, rfl⟩
          obtain ⟨S1, O1, hO1, hbk1, hbl1⟩ := Pile.post HPwm.out 7 (f := (.pointer (some ⟨gU, 0, none⟩))) (m := mc) (by simp)
          obtain ⟨S2, O2, hO2, hbk2, hbl2⟩ := Pile.post HPwm.out 8 (f := (.pointer (some ⟨gT, 0, none⟩))) (m := mu) (by simp)
          go_wp2_with fail
          go_at_call 33
          refine (alike_any hO1.fs hO2.fs (by have := HOC.out.lnow; omega) (by have := HOU.out.lnow; omega)).mono ?_
          rintro e wo ⟨⟨r, rfl, hr⟩, hx'⟩
          obtain rfl : r = true := hr.2 HCS.out
          have HPwo : Hid _ := Pile.more HPwm.out hx'
          clear hr hx'
          clear hO1 hbk1 hbl1
          clear hO2 hbk2 hbl2
          go_wp2_with fail
          go_at_call 36
          refine (rpath_any path _ (by omega)).mono ?_
          rw [HPB.out]
          rintro e wp ⟨rfl, hxp⟩
          have HXZ : Hid _ := Ext.trans HPwo.out.ext hxp
          clear hxp
          go_wp2
          go_ret
          exact ⟨rfl, HXZ.out⟩

end Go.Proofs.YtoajnaopainpnaaGreatDoor

/-! marlaw5.FsimKeeps: whatever the input, the law returns true, and the input reads as it did: its row's statement and its tied card. Conditions: what the row lists: the library's variables hold what the program's text lays. -/
namespace Go.Proofs.YtoajnaopainpnaaGreatDoor.fsimKeeps
open Go Go.ChangeShapes Go.WideShapes Go.ChangeAt Go.RowKit Go.Deep

set_option maxRecDepth 100000 in
theorem contract (H : Type) (enc : TypeId × Value → H) (W : World) (base : Nat) (args : Array Value) (ds gs : List (DataW H)) (before : List MemPlace)
    (hval : ∀ (j : Nat) t v, Tryz.f5.params[j]? = some t → args[j]? = some v → Value.okWide Tryz.prog W .any base t v)
    (hW : DataW.Whole enc Tryz.prog Tryz.f5.params.toList Rows.fsimKeepsSpec.vars false W args.toList ds gs before)
    (hsz : (DataW.weightsEach Tryz.prog (Tryz.f5.params.toList ++ (OpenSpec.ofChange Rows.fsimKeepsSpec).bare.plain.varTypes Tryz.prog) (ds ++ gs)).all (· ≤ reachBytes) = true)
    (hL : laidMetH Tryz.prog Rows.fsimKeepsRow.laid W) (hS : W.ShapedOpen Tryz.prog) :
    Calls Tryz.prog 5 args W fun e W' => ∃ v, e = .returned v ∧ Rows.fsimKeepsSpec.post enc Tryz.prog Tryz.f5 false true false false W args v W' := by
  have hW' := hW
  obtain ⟨p, q, hA0, hV, rfl, hfz, hnd⟩ := hW
  have hA : DataW.TrodAll enc Tryz.prog W 0 (fun _ => true) true Tryz.f5.params.toList args.toList ds p := hA0
  obtain ⟨rfl, rfl⟩ := trodVars_none hV
  clear hA0
  simp only [List.append_nil] at hW'
  have hE : Env W := env_of hS
  letI : Inhabited BaseW := ⟨⟨W⟩⟩
  have hBW : baseW = W := rfl
  have hBE : Ext baseW W := Ext.refl W
  have hAll := hA
  have hlt : ∀ x ∈ p, x.block < W.heap.size := fun x hx => by simpa using hW'.lt x (by simpa using hx)
  rw [Tryz.params5] at hA hval hsz
  obtain ⟨v0, vs0, d0, ds0, p0, q0, ha0, hd0, hp0, h0, hA⟩ := trodAll_cons hA
  obtain ⟨v1, vs1, d1, ds1, p1, q1, ha1, hd1, hp1, h1, hA⟩ := trodAll_cons hA
  obtain ⟨v2, vs2, d2, ds2, p2, q2, ha2, hd2, hp2, h2, hA⟩ := trodAll_cons hA
  obtain ⟨v3, vs3, d3, ds3, p3, q3, ha3, hd3, hp3, h3, hA⟩ := trodAll_cons hA
  obtain ⟨v4, vs4, d4, ds4, p4, q4, ha4, hd4, hp4, h4, hA⟩ := trodAll_cons hA
  obtain ⟨hn0, hn1, hn2⟩ := trodAll_nil hA
  subst hn0 hn1 hn2
  subst hp4 hd4 ha4
  subst hp3 hd3 ha3
  subst hp2 hd2 ha2
  subst hp1 hd1 ha1
  subst hp0 hd0
  obtain rfl : args = #[v0, v1, v2, v3, v4] := by cases args; simp_all
  clear ha0
  have hv0 := hval 0 3 v0 rfl rfl
  obtain ⟨n, rfl, -, -, hw0⟩ := open_int Tryz.underlying3 hv0 h0
  have hn : I64 n := i64_wf hw0
  have hv1 := hval 1 22 v1 rfl rfl
  obtain ⟨l, hl, hil⟩ := arg_ops (j := 1) hBW hv1 h1 hsz rfl rfl
  have hv2 := hval 2 22 v2 rfl rfl
  obtain ⟨l2, hl2, hil2⟩ := arg_ops (j := 2) hBW hv2 h2 hsz rfl rfl
  have hv3 := hval 3 9 v3 rfl rfl
  obtain ⟨path, rfl⟩ : ∃ l : B8, v3 = S8 l := by obtain ⟨s, rfl⟩ := okWide_string Tryz.underlying9 hv3; exact ⟨s.data.toList, rfl⟩
  have hv4 := hval 4 28 v4 rfl rfl
  obtain ⟨data, hdata⟩ := arg_bytes (j := 4) hv4 h4 hsz rfl rfl
  refine (keepsLaw_any n v1 l v2 l2 path v4 data W hBE hE hl hil hl2 hil2 (oldB_of hdata)).mono fun e W' ⟨he, hg⟩ => ?_
  subst he
  have harg := trodAll_below laidOut hg hAll hlt (by rw [Tryz.params5]; exact fun t ht => by simp only [List.mem_cons, List.not_mem_nil, or_false] at ht; rcases ht with rfl | rfl | rfl | rfl | rfl <;> exact ⟨by kernel_rfl, of_decide_eq_true (by kernel_rfl)⟩)
  exact ⟨_, rfl, _, _, _, [], _, [], hW', trodAll_mk1 (shut_bool Tryz.underlying4 _), harg, rfl, hg.frame _, fun h => by cases h⟩

theorem laid_met (os : Os) : laidMetH Tryz.prog Rows.fsimKeepsRow.laid ((World.laidAll Tryz.prog os Rows.fsimKeepsRow.laid).forCall (fun _ _ => 0) ⟨#[], #[.int .i64 0, .slice none 0 0, .slice none 0 0, .string ⟨#[]⟩, .slice none 0 0], []⟩).memory := by
  rw [MakeChecks.laidMetH_plain _ _ _ (by kernel_rfl)]
  exact laidMet_laidAll _ (by kernel_rfl) (by kernel_rfl)
theorem reads (os : Os) {H : Type} (enc : TypeId × Value → H) : ∃ places, DataW.whole enc Tryz.prog ((World.laidAll Tryz.prog os Rows.fsimKeepsRow.laid).forCall (fun _ _ => 0) ⟨#[], #[.int .i64 0, .slice none 0 0, .slice none 0 0, .string ⟨#[]⟩, .slice none 0 0], []⟩).memory Tryz.f5.params.toList Rows.fsimKeepsSpec.vars false #[.int .i64 0, .slice none 0 0, .slice none 0 0, .string ⟨#[]⟩, .slice none 0 0].toList 8 = some ([.lit (.int .i64 0), .nil, .nil, .lit (.string []), .nil], [], places) :=
  ⟨[], by kernel_rfl⟩

set_option maxRecDepth 100000 in
theorem lifted (os : Os) (started : os.Started) (H : Type) (enc : TypeId × Value → H) (F : Stop.Interp) :
    ReturnsInHanded {} Tryz.checked os 5 .any ((OpenSpec.ofChange Rows.fsimKeepsSpec).preRow enc Tryz.prog Tryz.f5 Rows.fsimKeepsRow.domain false Rows.fsimKeepsRow.laid) (((OpenSpec.ofChange Rows.fsimKeepsSpec).at F).post enc Tryz.prog Tryz.f5 false true false false) := by
  obtain ⟨places, hx⟩ := reads os enc
  refine returnsInHanded_of_row (C := Tryz.checked) (s := OpenSpec.ofChange Rows.fsimKeepsSpec) own started (by kernel_rfl) Tryz.func5
    (witness_row_at (enc := enc) (C := Tryz.checked) false (World.laidAll Tryz.prog os Rows.fsimKeepsRow.laid) #[.int .i64 0, .slice none 0 0, .slice none 0 0, .string ⟨#[]⟩, .slice none 0 0] (World.laidAll_os _ _ _) (by kernel_rfl) (by kernel_rfl) (by kernel_rfl)
      (OpenSpec.preRow_of_cond 8 hx (by kernel_rfl) (fun k hk => by cases hk) (by kernel_rfl) (laid_met os))) ?_
  intro W base args ds gs before hval hW _ _ hsz hL hS _
  exact contract H enc W base args ds gs before hval hW hsz hL hS

theorem said : Rows.FsimKeepsSaid :=
  OpenClaim.holds_of_cond 5 Tryz.f5 rfl rfl rfl rfl rfl rfl rfl ⟨rfl, rfl, rfl, rfl, rfl⟩ rfl rfl rfl rfl rfl (by kernel_rfl) Tryz.func5 (by kernel_rfl)
    (of_decide_eq_true (by kernel_rfl)) (by unfold Func.isWrapper; first | (rw [if_pos (by decide +kernel)]; kernel_rfl) | (rw [if_neg (by decide +kernel)]; exact ⟨rfl, rfl⟩))
    (fun os started H enc _ F => by rw [OpenClaim.pre_eq_preRow]; exact lifted os started H enc F)

theorem plain (f : FuncId) (fn : Func) (hf : Tryz.pinned.checked.prog.funcNamed "marline/marlaw5.FsimKeeps" = some f) (hfn : Tryz.pinned.checked.prog.funcs[f]? = some fn) :
    false = Tryz.pinned.checked.prog.looks [] ∧ ∀ (j : Nat) t, fn.params[j]? = some t → Tryz.pinned.checked.prog.wantsStandIn t = false := by
  obtain rfl : f = 5 := Option.some.inj ((show Tryz.prog.funcNamed "marline/marlaw5.FsimKeeps" = some 5 by kernel_rfl).symm.trans hf) |>.symm
  obtain rfl : fn = Tryz.f5 := (Option.some.inj (Tryz.func5.symm.trans hfn)).symm
  refine ⟨by kernel_rfl, fun j t ht => ?_⟩
  rw [Tryz.params5] at ht
  have hm : t ∈ [3, 22, 22, 9, 28] := by simpa using Array.mem_of_getElem? ht
  simp only [List.mem_cons, List.not_mem_nil, or_false] at hm
  rcases hm with rfl | rfl | rfl | rfl | rfl
  · exact (show Tryz.prog.wantsStandIn 3 = false by kernel_rfl)
  · exact (show Tryz.prog.wantsStandIn 22 = false by kernel_rfl)
  · exact (show Tryz.prog.wantsStandIn 22 = false by kernel_rfl)
  · exact (show Tryz.prog.wantsStandIn 9 = false by kernel_rfl)
  · exact (show Tryz.prog.wantsStandIn 28 = false by kernel_rfl)

/-- The card. -/
theorem card : Rows.FsimKeepsCardSaid :=
  Claim7.holds_tied_plain_at .later [] _ _ _ _ said (fun _ h => by cases h) (by kernel_rfl) (fun _ h => by cases h) fsimKeeps_row_tie rfl ⟨rfl, rfl⟩ (by kernel_rfl) rfl plain (by kernel_rfl)

end Go.Proofs.YtoajnaopainpnaaGreatDoor.fsimKeeps
