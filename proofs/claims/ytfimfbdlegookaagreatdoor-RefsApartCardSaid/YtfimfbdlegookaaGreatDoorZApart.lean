/- marlaw8.RefsApart: whatever the input, the law returns true, and the input reads as it did: its row's statement and its tied card. Conditions: what the row lists: the library's variables hold what the program's text lays. -/
import Derived.Test.YtfimfbdlegookaaGreatDoorZah

set_option linter.unusedVariables false
set_option linter.unusedSimpArgs false
set_option linter.unusedSectionVars false

/-! marlaw8.RefsApart. Conditions: as each theorem states. -/
namespace Go.Proofs.YtfimfbdlegookaaGreatDoor
open Go Go.RowKit
set_option linter.unusedVariables false
set_option linter.unusedSimpArgs false
set_option linter.unusedSectionVars false
variable [Inhabited BaseW]

set_option maxRecDepth 100000 in
set_option maxHeartbeats 8000000 in
theorem apart_any (v : Value) (l : List Rop) (lk : B8) (w : World) (hE : Env w) (hS : EnvS w) (hv : IsRops w v l) :
    Calls Tryz.prog 3 #[v, S8 lk] w fun e w' => e = .returned (.bool true) ∧ Ext w w' := by
  obtain ⟨a, cap, rfl, h1, h2, h3, h4⟩ := rops_cells hv
  have H4 : Hid _ := h4
  have HV : Hid (IsRops w (.slice a l.length cap) l) := hv
  have HE : Hid (Env w) := hE
  have HS : Hid (EnvS w) := hS
  clear h4 hv hE hS
  go_enter Tryz.func3, Tryz.ntmps3
  go_wp2_with fail
  go_at_call 10
  refine (first8_any w HE.out HS.out).mono ?_
  rintro e w1 ⟨rfl, hx1⟩
  have HX1 : Hid (Ext w w1) := hx1
  clear hx1
  go_wp2_with fail
  go_at_call 11
  refine (new_yes 1048576 _ (by omega) (by omega)).mono ?_
  rintro e w2 ⟨⟨p, rfl, hf⟩, hx2⟩
  have H2 : Hid (One w1 (fun _ => False) (Nu w1 w2) w2 p (newM 1048576)) := One.new hf hx2
  obtain ⟨g, rfl⟩ : ∃ g, p = .pointer (some ⟨g, 0, none⟩) := by
    obtain ⟨g, gm, gd, vp, vl, vu, L, c0, hpe, -⟩ := hf
    exact ⟨g, hpe⟩
  have HX2 : Hid (Ext w w2) := HX1.out.trans hx2
  clear hf hx2
  by_cases ha : (30 : Int) < (l.length : Int)
  · go_wp2_with fail
    go_at_call 10
    refine (first8_any w2 (HE.out.ext HX2.out) (HS.out.ext HX2.out)).mono ?_
    rintro e w3 ⟨rfl, hx3⟩
    go_wp2
    go_ret
    exact ⟨rfl, HX2.out.trans hx3⟩
  obtain ⟨fw, hfw⟩ : ∃ b, fewR l = b := ⟨_, rfl⟩
  have HFW : Hid _ := hfw
  clear hfw
  go_wp2_with fail
  go_at_call 12
  refine (fewR_any HX2.out HV.out).mono ?_
  rw [HFW.out]
  rintro e w3 ⟨rfl, hx3⟩
  have HX3 : Hid (Ext w w3) := HX2.out.trans hx3
  have H3 : Hid (One w1 (fun _ => False) (Nu w1 w2) w3 (.pointer (some ⟨g, 0, none⟩)) (newM 1048576)) := One.more H2.out hx3
  clear hx3
  cases fw with
  | false =>
    go_wp2_with fail
    go_at_call 10
    refine (first8_any w3 (HE.out.ext HX3.out) (HS.out.ext HX3.out)).mono ?_
    rintro e w4 ⟨rfl, hx4⟩
    go_wp2
    go_ret
    exact ⟨rfl, HX3.out.trans hx4⟩
  | true =>
    by_cases hlk : (100 : Int) < (lk.length : Int)
    · go_wp2_with fail
      go_at_call 10
      refine (first8_any w3 (HE.out.ext HX3.out) (HS.out.ext HX3.out)).mono ?_
      rintro e w4 ⟨rfl, hx4⟩
      go_wp2
      go_ret
      exact ⟨rfl, HX3.out.trans hx4⟩
    have hl30 : l.length ≤ 30 := by omega
    have hll : (lockP lk).length ≤ 400 := by unfold lockP; simp; omega
    have hgn : Good 0 (newM 1048576) := good_new (by omega) (by omega)
    obtain ⟨hu1, hu2⟩ := ap_user lk
    go_wp2_with fail
    go_at_call 13
    refine (userWrite_any (lockP lk) 1 (.slice none 0 0) [] (HE.out.ext HX3.out) H3.out.fs hgn.ok (Nat.zero_le _) hll (Row.nil _) (by decide) (fun hp => may_eq _ hp) (fun a n c he _ => by cases he)).mono ?_
    have hg1 : Good 1 (userWrite (newM 1048576) (lockP lk) 1 []).1 := hgn.left ((left_hap hgn.ok ⟨0, 4, 1, 0, 0, lockP lk, []⟩).1.mono (by omega)) (by have := (left_hap hgn.ok ⟨0, 4, 1, 0, 0, lockP lk, []⟩).2; show (hapM (newM 1048576) ⟨0, 4, 1, 0, 0, lockP lk, []⟩).calls ≤ _; omega)
    obtain ⟨⟨mu, eu⟩, hmu⟩ : ∃ q, userWrite (newM 1048576) (lockP lk) 1 [] = q := ⟨_, rfl⟩
    rw [hmu] at hu1 hu2 hg1 ⊢
    rintro e w4 ⟨rfl, hp4⟩
    have H4a : Hid (One w1 (fun _ => False) _ w4 (.pointer (some ⟨g, 0, none⟩)) mu) := One.post H3.out hp4
    have HAP : Hid (Ap mu (lkO lk) (hvOf []) 1) := hu2
    have HG1 : Hid (Good 1 mu) := hg1
    have HU1 : Hid ((eu == 0) = pathB (lockP lk)) := hu1
    clear hmu hp4 hu1 hu2 hgn hg1 hll
    obtain ⟨st, hst⟩ : ∃ st, pathB (lockP lk) = st := ⟨_, rfl⟩
    have HST : Hid _ := hst
    have heu : (eu == 0) = st := HU1.out.trans hst
    clear hst
    have hmm := @run_makeMap Tryz.prog
    go_upto_region 8 with fail
    clear hmm
    obtain ⟨bh, hbh⟩ : ∃ bh, w4.heap.size = bh := ⟨_, rfl⟩
    obtain ⟨w5, hw5⟩ : ∃ w5, w4.alloc (.map #[] 0) = w5 := ⟨_, rfl⟩
    have hh5 : IsHave w5 bh [] := by rw [← hw5, ← hbh]; exact have_made w4
    have hx5 : Ext w4 w5 := by rw [← hw5]; exact (Ext.refl _).alloc _
    have H5 : Hid (One w1 (fun _ => False) (Nw (Nu w1 w2) w3 w4) w5 (.pointer (some ⟨g, 0, none⟩)) mu) := One.more H4a.out hx5
    have HNB : Hid (¬ Nw (Nu w1 w2) w3 w4 bh) := fun ho => by have := H4a.out.lo _ ho; omega
    have HBG : Hid (w1.heap.size ≤ bh) := by have := H4a.out.ext.size; unfold Hid; omega
    have HH5 : Hid (IsHave w5 bh []) := hh5
    rw [hbh, hw5]
    clear hw5 hh5 hx5 hbh
    go_wp2_with fail
    go_loopw [9] (fun i wr => ∃ (k : Nat) (m : Fs) (hl : Files) (O : Nat → Prop), k ≤ l.length ∧ i = .int .i64 k ∧ One w1 (fun _ => False) O wr (.pointer (some ⟨g, 0, none⟩)) m ∧ Ap m (lkO lk) (hvOf hl) (k + 1) ∧ Good (10 * k + 1) m ∧ IsHave wr bh hl ∧ ¬ O bh ∧ hl.length ≤ k) (fun i _ => l.length - (intOf i).toNat)
    case atStart => exact ⟨0, mu, [], _, Nat.zero_le _, rfl, H5.out, HAP.out, HG1.out, HH5.out, HNB.out, Nat.le_refl _⟩
    case round =>
      obtain ⟨k, m, hl, O, hk, rfl, hOne, hAp, hGood, hHv, hNb, hhl⟩ := hrel
      have HO : Hid (One w1 (fun _ => False) O wr (.pointer (some ⟨g, 0, none⟩)) m) := hOne
      have HAPM : Hid (Ap m (lkO lk) (hvOf hl) (k + 1)) := hAp
      have HGD : Hid (Good (10 * k + 1) m) := hGood
      have HHV : Hid (IsHave wr bh hl) := hHv
      have HNO : Hid (¬ O bh) := hNb
      have HXR : Hid (Ext w wr) := HX1.out.trans hOne.ext
      clear hOne hAp hGood hHv hNb
      by_cases hlt : k < l.length
      · obtain ⟨e, hke⟩ : ∃ e, l[k]? = some e := ⟨_, List.getElem?_eq_getElem hlt⟩
        obtain ⟨b, o, cs, rfl, ⟨fs, rfl, hop⟩, hc⟩ := H4.out k e hke
        obtain ⟨vd, vp, rfl, hd, hpl⟩ := hop
        obtain ⟨d1, d2, rfl, -⟩ := id hd.bytes
        obtain ⟨_, ⟨p1, p2, rfl, -⟩, -⟩ := id hpl
        have c0 := HXR.out.cell (hc 0 _ rfl)
        have c1 := HXR.out.cell (hc 1 _ rfl)
        have c2 := HXR.out.cell (hc 2 _ rfl)
        have c3 := HXR.out.cell (hc 3 _ rfl)
        have c4 := HXR.out.cell (hc 4 _ rfl)
        have c5 := HXR.out.cell (hc 5 _ rfl)
        have c6 := HXR.out.cell (hc 6 _ rfl)
        have c7 := HXR.out.cell (hc 7 _ rfl)
        have c8 := HXR.out.cell (hc 8 _ rfl)
        have c9 := HXR.out.cell (hc 9 _ rfl)
        have c10 := HXR.out.cell (hc 10 _ rfl)
        have c11 := HXR.out.cell (hc 11 _ rfl)
        simp only [Nat.add_zero] at c0
        have HKE : Hid _ := hke
        clear hd hpl hc hke
        go_upto_region 12 with fail
        obtain ⟨wa, hwa⟩ : ∃ wa, wa = wr.alloc (.cells #[.int .i64 e.kind, S8 e.name, S8 e.old, S8 e.next, .int .i64 e.f.kind, .int .i64 e.f.mode, .int .i64 e.f.keep, .int .i64 e.f.torn, S8 e.f.path, S8 e.f.dest, .slice d1 e.f.data.length d2, .slice p1 e.f.plan.length p2] 36) := ⟨_, rfl⟩
        have hxa : Ext wr wa := by rw [hwa]; exact (Ext.refl _).alloc _
        have hga : wa.heap[wr.heap.size]? = some (.cells #[.int .i64 e.kind, S8 e.name, S8 e.old, S8 e.next, .int .i64 e.f.kind, .int .i64 e.f.mode, .int .i64 e.f.keep, .int .i64 e.f.torn, S8 e.f.path, S8 e.f.dest, .slice d1 e.f.data.length d2, .slice p1 e.f.plan.length p2] 36 (0, 0)) := by rw [hwa]; exact alloc_at _ _
        have HWA : Hid _ := hwa
        obtain ⟨go, hgo⟩ : ∃ go, wr.heap.size = go := ⟨_, rfl⟩
        have HA : Hid (One w1 (fun _ => False) O wa (.pointer (some ⟨g, 0, none⟩)) m) := One.more HO.out hxa
        have HNG : Hid (¬ O go) := fun ho => by have := HO.out.lo _ ho; omega
        have hlt0 := HHV.out.lt
        have HHA : Hid (IsHave wa bh hl) := HHV.out.stay (hxa.block bh hlt0)
        have hbg : bh ≠ go := by omega
        rw [hgo] at hga
        have q0 : wa.cell? ⟨go, 0, none⟩ = some (.int .i64 e.kind) := (cell_of_row _ _ 0 _ _ _ hga).trans rfl
        have q1 : wa.cell? ⟨go, 1, none⟩ = some (S8 e.name) := (cell_of_row _ _ 1 _ _ _ hga).trans rfl
        have q3 : wa.cell? ⟨go, 3, none⟩ = some (S8 e.next) := (cell_of_row _ _ 3 _ _ _ hga).trans rfl
        have HGA : Hid _ := hga
        have hHB : bh < wr.heap.size := hlt0
        clear hwa hxa hga c0 c1 c2 c3 c4 c5 c6 c7 c8 c9 c10 c11 hlt0 hHB
        rw [show wr.alloc (.cells #[.int .i64 e.kind, S8 e.name, S8 e.old, S8 e.next, .int .i64 e.f.kind, .int .i64 e.f.mode, .int .i64 e.f.keep, .int .i64 e.f.torn, S8 e.f.path, S8 e.f.dest, .slice d1 e.f.data.length d2, .slice p1 e.f.plan.length p2] 36) = wa from HWA.out.symm, hgo]
        clear hgo
        have hokn : okN e = true := fewR_yes HFW.out HKE.out (by omega)
        obtain ⟨hnm, -, hnl⟩ := okN_get hokn
        have HE1 : Hid (Env w1) := HE.out.ext HX1.out
        clear hokn
        by_cases k1 : e.kind = 1
        · have hk1 : (e.kind == 1) = true := by simpa using k1
          have hk2 : (e.kind != 1) = false := by simpa using k1
          clear k1
          obtain ⟨vb, hvb⟩ : ∃ vb, validB e.next = vb := ⟨_, rfl⟩
          have HVB : Hid _ := hvb
          clear hvb
          go_wp2_with fail
          go_at_call 14
          refine (valid_any e.next wa (by omega)).mono ?_
          rw [HVB.out]
          rintro e9 wb ⟨rfl, hxb⟩
          have q1b := hxb.cell q1
          have q3b := hxb.cell q3
          have HOB : Hid (One w1 (fun _ => False) O wb (.pointer (some ⟨g, 0, none⟩)) m) := One.more HA.out hxb
          have HGB : Hid _ := Ext.row hxb HGA.out
          have HHB : Hid (IsHave wb bh hl) := HHA.out.stay (hxb.block bh HHA.out.lt)
          clear hxb q0 q1 q3
          cases vb with
          | false =>
            go_wp2_with fail
            go_roundw
            case rel => exact ⟨k + 1, m, hl, O, by omega, by go_num, HOB.out, ⟨HAPM.out.plan, HAPM.out.down, HAPM.out.room, HAPM.out.f.mono (by omega)⟩, HGD.out.mono (by omega), HHB.out, HNO.out, by omega⟩
            case measure => simp [intOf]; omega
          | true =>
            obtain ⟨r1, r2⟩ := ap_round HAPM.out (n := e.name) (by omega) HVB.out
            have hlr := (HHB.out.look_run e.name (by omega)).2
            obtain ⟨od, hod⟩ : ∃ od, lookD hl e.name = od := ⟨_, rfl⟩
            rw [hod] at hlr r1 r2
            have HOL : Hid (od.length ≤ 400) := by
              have h9 := hvOf_look hl e.name
              rw [hod] at h9
              unfold Hid
              rw [h9]
              cases hq : hvOf hl e.name with
              | none => exact Nat.zero_le _
              | some x => show x.length ≤ 400; rw [(valid_len (HAPM.out.f.name _ _ hq).2).1]; decide
            have hol := HOL.out
            have hsc := set_any e.name od e.next (One.fin HOB.out HE1.out HGD.out (by omega)) HGD.out (by omega) (by omega) (by omega) (by omega)
            have hgs : Good (10 * k + 7) (setM m e.name od e.next).1 := good_set HGD.out e.name od e.next
            obtain ⟨⟨m2, rs⟩, hms⟩ : ∃ q, setM m e.name od e.next = q := ⟨_, rfl⟩
            rw [hms] at hsc r1 r2 hgs
            have HSC : Hid _ := hsc
            have HR1 : Hid _ := r1
            have HR2 : Hid _ := r2
            have HGS : Hid (Good (10 * k + 7) m2) := hgs
            clear hms hsc r1 r2 hgs hod
            go_wp2_with fail
            go_at_call 15
            refine Calls.mono HSC.out ?_
            rintro e9 wc ⟨rfl, hpc⟩
            have HOC : Hid (One w1 (fun _ => False) (Nw O wb wc) wc (.pointer (some ⟨g, 0, none⟩)) m2) := One.post HOB.out hpc
            have hgc := hpc.row HGB.out HNG.out
            have q1c : wc.cell? ⟨go, 1, none⟩ = some (S8 e.name) := (cell_of_row _ _ 1 _ _ _ hgc).trans rfl
            have q3c : wc.cell? ⟨go, 3, none⟩ = some (S8 e.next) := (cell_of_row _ _ 3 _ _ _ hgc).trans rfl
            have HHC : Hid (IsHave wc bh hl) := HHB.out.stay (hpc.fr.block bh HHB.out.lt (.inl HNO.out))
            have HNC : Hid (¬ Nw O wb wc bh) := fun ho => by
              have := HHB.out.lt
              rcases ho with ho | ho
              · exact HNO.out ho
              · omega
            clear hpc hgc hlr q1b q3b HSC
            obtain ⟨eq, heq⟩ : ∃ x, (e.name == lk) = x := ⟨_, rfl⟩
            obtain ⟨u1, hu1⟩ : ∃ x, underB (lockP lk) (lockP e.name) = x := ⟨_, rfl⟩
            obtain ⟨u2, hu2⟩ : ∃ x, underB (lockP e.name) (lockP lk) = x := ⟨_, rfl⟩
            have HIT : Hid (hitB lk e.name = (eq || (u1 || u2))) := by unfold Hid hitB; rw [heq, hu1, hu2]
            have HU1 : Hid _ := hu1
            have HU2 : Hid _ := hu2
            have hln : (lockP e.name).length ≤ 1000000 := by unfold lockP; simp; omega
            have hll : (lockP lk).length ≤ 1000000 := by unfold lockP; simp; omega
            have HLN : Hid _ := hln
            have HLL : Hid _ := hll
            clear hu1 hu2 hln hll
            cases st
            case' false =>
              have HC : Hid ((pathB (lockP lk) && hitB lk e.name) = false) := by unfold Hid; rw [HST.out]; rfl
              obtain ⟨wd, hwd⟩ : ∃ wd, wd = wc := ⟨_, rfl⟩
              have HXD : Hid (Ext wc wd) := by rw [hwd]; exact Ext.refl _
              go_wp2_with fail
              rw [← hwd]
              clear hwd
            case' true =>
              cases eq
              case' true =>
                have HC : Hid ((pathB (lockP lk) && hitB lk e.name) = true) := by unfold Hid; rw [HST.out, HIT.out]; rfl
                obtain ⟨hr0, hap⟩ := HR1.out HC.out
                have HAP2 : Hid (Ap m2 (lkO lk) (hvOf hl) (k + 1 + 1)) := hap
                clear hap
                go_wp2_with fail
                go_roundw
                case rel => exact ⟨k + 1, m2, hl, _, by omega, by go_num, HOC.out, HAP2.out, HGS.out.mono (by omega), HHC.out, HNC.out, by omega⟩
                case measure => simp [intOf]; omega
              case' false =>
                go_wp2_with fail
                go_at_call 16
                refine (under_any (lockP lk) (lockP e.name) wc (HE1.out.ext HOC.out.ext) HLL.out HLN.out).mono ?_
                rw [HU1.out]
                rintro e9 we ⟨rfl, hxe⟩
                have HXE : Hid (Ext wc we) := hxe
                have q1e := hxe.cell q1c
                have q3e := hxe.cell q3c
                clear hxe
                cases u1
                case' true =>
                  have HC : Hid ((pathB (lockP lk) && hitB lk e.name) = true) := by unfold Hid; rw [HST.out, HIT.out]; rfl
                  obtain ⟨hr0, hap⟩ := HR1.out HC.out
                  have HAP2 : Hid (Ap m2 (lkO lk) (hvOf hl) (k + 1 + 1)) := hap
                  have HHX : Hid (IsHave we bh hl) := HHC.out.stay (HXE.out.block bh HHC.out.lt)
                  clear hap
                  go_wp2_with fail
                  go_roundw
                  case rel => exact ⟨k + 1, m2, hl, _, by omega, by go_num, One.more HOC.out HXE.out, HAP2.out, HGS.out.mono (by omega), HHX.out, HNC.out, by omega⟩
                  case measure => simp [intOf]; omega
                case' false =>
                  go_wp2_with fail
                  go_at_call 16
                  refine (under_any (lockP e.name) (lockP lk) we (HE1.out.ext (HOC.out.ext.trans HXE.out)) HLN.out HLL.out).mono ?_
                  rw [HU2.out]
                  rintro e9 wd ⟨rfl, hxd⟩
                  have HXD : Hid (Ext wc wd) := HXE.out.trans hxd
                  clear hxd
                  cases u2
                  case' true =>
                    have HC : Hid ((pathB (lockP lk) && hitB lk e.name) = true) := by unfold Hid; rw [HST.out, HIT.out]; rfl
                    obtain ⟨hr0, hap⟩ := HR1.out HC.out
                    have HAP2 : Hid (Ap m2 (lkO lk) (hvOf hl) (k + 1 + 1)) := hap
                    have HHX : Hid (IsHave wd bh hl) := HHC.out.stay (HXD.out.block bh HHC.out.lt)
                    clear hap
                    go_wp2_with fail
                    go_roundw
                    case rel => exact ⟨k + 1, m2, hl, _, by omega, by go_num, One.more HOC.out HXD.out, HAP2.out, HGS.out.mono (by omega), HHX.out, HNC.out, by omega⟩
                    case measure => simp [intOf]; omega
                  case' false =>
                    have HC : Hid ((pathB (lockP lk) && hitB lk e.name) = false) := by unfold Hid; rw [HST.out, HIT.out]; rfl
                    have q1d := HXD.out.cell q1c
                    go_wp2_with fail
            all_goals
              obtain ⟨hr0, hap⟩ := HR2.out HC.out
              have q1f := HXD.out.cell q1c
              have q3f := HXD.out.cell q3c
              have HOD : Hid _ := One.more HOC.out HXD.out
              have HHX : Hid (IsHave wd bh hl) := HHC.out.stay (HXD.out.block bh HHC.out.lt)
              go_at_call 17
              refine (name_any e.name _ (by omega)).mono ?_
              obtain ⟨nb, hnb⟩ : ∃ nb, nameB e.name = nb := ⟨_, rfl⟩
              rw [hnb] at hr0 hap ⊢
              clear hnb
              rintro e9 wf ⟨rfl, rfl⟩
              cases nb with
              | false =>
                rw [if_neg (by simp)] at hap
                have HAP2 : Hid (Ap m2 (lkO lk) (hvOf hl) (k + 1 + 1)) := hap
                clear hap
                go_wp2_with fail
                go_roundw
                case rel => exact ⟨k + 1, m2, hl, _, by omega, by go_num, HOD.out, HAP2.out, HGS.out.mono (by omega), HHX.out, HNC.out, by omega⟩
                case measure => simp [intOf]; omega
              | true =>
                rw [if_pos rfl] at hap
                have HAP2 : Hid (Ap m2 (lkO lk) (hvOf (putF hl e.name ⟨0, e.next, 0⟩)) (k + 1 + 1)) := hap
                have hlp : (putF hl e.name ⟨0, e.next, 0⟩).length ≤ k + 1 := by have := putF_length hl e.name ⟨0, e.next, 0⟩; omega
                have HLP : Hid _ := hlp
                clear hap hlp
                go_wp2_with (at_mapUpdate; go_must (refine set_have rfl _ _ _ rfl HHX.out (by omega) rfl e.name (by omega) rfl ⟨0, e.next, 0⟩ rfl ?_; intro w7 hh7 hg7))
                have HO7 : Hid _ := One.grown HOD.out hg7 HBG.out HNC.out (fun h => h) HHX.out.notU8
                go_roundw
                case rel => exact ⟨k + 1, m2, _, _, by omega, by go_num, HO7.out, HAP2.out, HGS.out.mono (by omega), hh7, HNC.out, HLP.out⟩
                case measure => simp [intOf]; omega
        · have hk1 : (e.kind == 1) = false := by simpa using k1
          have hk2 : (e.kind != 1) = true := by simpa using k1
          clear k1
          go_wp2_with fail
          go_roundw
          case rel => exact ⟨k + 1, m, hl, O, by omega, by go_num, HA.out, ⟨HAPM.out.plan, HAPM.out.down, HAPM.out.room, HAPM.out.f.mono (by omega)⟩, HGD.out.mono (by omega), HHA.out, HNO.out, by omega⟩
          case measure => simp [intOf]; omega
      · have hkk : k = l.length := by omega
        have HG3 : Hid (Good 400 m) := HGD.out.mono (by omega)
        have hlh : hl.length ≤ 40 := by omega
        have HAPE : Hid (Ap m (lkO lk) (hvOf hl) 40) := ⟨HAPM.out.plan, HAPM.out.down, HAPM.out.room, HAPM.out.f.mono (by omega)⟩
        have HE1 : Hid (Env w1) := HE.out.ext HX1.out
        clear hkk hhl
        go_wp2_with fail
        clear hlt hk
        go_loopw [12] (fun i wr => ∃ (k : Nat) (m : Fs) (O : Nat → Prop), k ≤ l.length ∧ i = .int .i64 k ∧ One w1 (fun _ => False) O wr (.pointer (some ⟨g, 0, none⟩)) m ∧ Ap m (lkO lk) (hvOf hl) 40 ∧ Good (400 + k) m ∧ IsHave wr bh hl ∧ ¬ O bh) (fun i _ => l.length - (intOf i).toNat)
        case atStart => exact ⟨0, m, _, Nat.zero_le _, rfl, HO.out, HAPE.out, HG3.out, HHV.out, HNO.out⟩
        case round =>
          obtain ⟨k2, m2, O2, hk2, rfl, hOne2, hAp2, hGood2, hHv2, hNb2⟩ := hrel
          have HO2 : Hid (One w1 (fun _ => False) O2 wr (.pointer (some ⟨g, 0, none⟩)) m2) := hOne2
          have HAP2 : Hid (Ap m2 (lkO lk) (hvOf hl) 40) := hAp2
          have HGD2 : Hid (Good (400 + k2) m2) := hGood2
          have HHV2 : Hid (IsHave wr bh hl) := hHv2
          have HNO2 : Hid (¬ O2 bh) := hNb2
          have HXQ : Hid (Ext w wr) := HX1.out.trans hOne2.ext
          clear hOne2 hAp2 hGood2 hHv2 hNb2
          by_cases hlt : k2 < l.length
          · obtain ⟨e, hke⟩ : ∃ e, l[k2]? = some e := ⟨_, List.getElem?_eq_getElem hlt⟩
            obtain ⟨b, o, cs, rfl, ⟨fs, rfl, hop⟩, hc⟩ := H4.out k2 e hke
            have c1 := HXQ.out.cell (hc 1 _ rfl)
            have HC1 : Hid _ := hc 1 _ rfl
            have hokn : okN e = true := fewR_yes HFW.out hke (by omega)
            obtain ⟨hnm, -, -⟩ := okN_get hokn
            obtain ⟨t1, t2, t3⟩ := ap_told HAP2.out e.name
            have hgc := get_any e.name (One.fin HO2.out HE1.out HGD2.out (by omega)) (by omega)
            have hgg := good_get HGD2.out e.name
            obtain ⟨⟨m3, x3, e3⟩, hgm⟩ : ∃ q, getM m2 e.name = q := ⟨_, rfl⟩
            rw [hgm] at t1 t2 t3 hgc hgg
            have HT1 : Hid (Ap m3 (lkO lk) (hvOf hl) 40) := t1
            have HGC : Hid _ := hgc
            have HGG : Hid (Good (400 + k2 + 1) m3) := hgg
            have hx3 : x3 = lookD hl e.name := t2
            have he3 : (e3 == 0) = (look hl e.name).isSome := t3
            clear hop hc hke hokn t1 t2 t3 hgc hgg hgm
            go_wp2_with fail
            go_at_call 18
            refine Calls.mono HGC.out ?_
            rintro e9 wg ⟨rfl, hpg⟩
            have HOG : Hid (One w1 (fun _ => False) (Nw O2 wr wg) wg (.pointer (some ⟨g, 0, none⟩)) m3) := One.post HO2.out hpg
            have HXG : Hid (Ext w wg) := HX1.out.trans HOG.out.ext
            have HHG : Hid (IsHave wg bh hl) := HHV2.out.stay (hpg.fr.block bh HHV2.out.lt (.inl HNO2.out))
            have HNG : Hid (¬ Nw O2 wr wg bh) := fun ho => by
              have := HHV2.out.lt
              rcases ho with ho | ho
              · exact HNO2.out ho
              · omega
            have c1g := HXG.out.cell HC1.out
            have hlr := (HHG.out.look_run e.name (by omega)).1
            obtain ⟨od, hod⟩ : ∃ od, lookD hl e.name = od := ⟨_, rfl⟩
            obtain ⟨sm, hsm⟩ : ∃ sm, (look hl e.name).isSome = sm := ⟨_, rfl⟩
            rw [hod, hsm] at hlr
            rw [hod] at hx3
            rw [hsm] at he3
            subst hx3
            clear hod hsm hpg c1 HGC
            go_wp2_with fail
            go_roundw
            case rel => exact ⟨k2 + 1, m3, _, by omega, by go_num, HOG.out, HT1.out, HGG.out.mono (by omega), HHG.out, HNG.out⟩
            case measure => simp [intOf]; omega
          · have hkk : k2 = l.length := by omega
            have HG4 : Hid (Good 500 m2) := HGD2.out.mono (by omega)
            have hfi := One.fin HO2.out HE1.out HG4.out (by omega)
            have hln := locks_len HAP2.out
            have hul := ap_unlock HAP2.out
            have huc := unlock_any hfi ((good_list HG4.out lockD).fit (by omega)) (fun _ => fitAll_good (good_list HG4.out lockD) (by omega))
            obtain ⟨⟨m3, n3, e3⟩, hum⟩ : ∃ q, unlockM m2 = q := ⟨_, rfl⟩
            rw [hum] at hul huc
            have hn3 : n3 = cntL (lkO lk) := congrArg Prod.fst hul.1
            have he3 : e3 = 0 := congrArg Prod.snd hul.1
            subst he3
            have HUC : Hid _ := huc
            have HN3 : Hid _ := hn3
            clear hfi hln hul huc hum hn3 hkk
            go_wp2_with fail
            go_at_call 19
            refine Calls.mono HUC.out ?_
            rintro e9 wu ⟨rfl, hpu⟩
            have HOU : Hid (One w1 (fun _ => False) (Nw O2 wr wu) wu (.pointer (some ⟨g, 0, none⟩)) m3) := One.post HO2.out hpu
            have HXU : Hid (Ext w wu) := HX1.out.trans HOU.out.ext
            clear hpu HUC
            go_wp2_with fail
            go_at_call 10
            refine (first8_any wu (HE.out.ext HXU.out) (HS.out.ext HXU.out)).mono ?_
            rintro e9 wv ⟨rfl, hxv⟩
            have HXV : Hid (Ext w wv) := HXU.out.trans hxv
            clear hxv
            cases st with
            | false =>
              have hn0 : n3 = 0 := by rw [HN3.out]; unfold lkO; rw [if_neg (by rw [HST.out]; simp)]; rfl
              subst hn0
              go_wp2_with fail
              go_at_call 20
              refine (flag_0 _).mono ?_
              rintro e9 wx ⟨rfl, rfl⟩
              go_wp2
              go_ret
              exact ⟨rfl, HXV.out⟩
            | true =>
              obtain ⟨nb, hnb⟩ : ∃ nb, nameB lk = nb := ⟨_, rfl⟩
              have hn0 : n3 = if nb = true then 1 else 0 := by rw [HN3.out, ← hnb]; unfold lkO; rw [if_pos HST.out]; rfl
              have HNB2 : Hid _ := hnb
              have HN0 : Hid _ := hn0
              clear hnb hn0
              go_wp2_with fail
              go_at_call 17
              refine (name_any lk _ (by omega)).mono ?_
              rw [HNB2.out]
              rintro e9 wx ⟨rfl, rfl⟩
              cases nb with
              | false =>
                have hn0 := HN0.out
                rw [if_neg (by simp)] at hn0
                subst hn0
                go_wp2_with fail
                go_at_call 20
                refine (flag_0 _).mono ?_
                rintro e9 wx ⟨rfl, rfl⟩
                go_wp2
                go_ret
                exact ⟨rfl, HXV.out⟩
              | true =>
                have hn0 := HN0.out
                rw [if_pos rfl] at hn0
                subst hn0
                go_wp2_with fail
                go_at_call 20
                refine (flag_1 _).mono ?_
                rintro e9 wx ⟨rfl, rfl⟩
                go_wp2
                go_ret
                exact ⟨rfl, HXV.out⟩

end Go.Proofs.YtfimfbdlegookaaGreatDoor

/-! marlaw8.RefsApart: whatever the input, the law returns true, and the input reads as it did: its row's statement and its tied card. Conditions: what the row lists: the library's variables hold what the program's text lays. -/
namespace Go.Proofs.YtfimfbdlegookaaGreatDoor.refsApart
open Go Go.ChangeShapes Go.WideShapes Go.ChangeAt Go.RowKit Go.Deep

set_option maxRecDepth 100000 in
theorem contract (H : Type) (enc : TypeId × Value → H) (W : World) (base : Nat) (args : Array Value) (ds gs : List (DataW H)) (before : List MemPlace)
    (hval : ∀ (j : Nat) t v, Tryz.f3.params[j]? = some t → args[j]? = some v → Value.okWide Tryz.prog W .any base t v)
    (hW : DataW.Whole enc Tryz.prog Tryz.f3.params.toList Rows.refsApartSpec.vars false W args.toList ds gs before)
    (hsz : (DataW.weightsEach Tryz.prog (Tryz.f3.params.toList ++ (OpenSpec.ofChange Rows.refsApartSpec).bare.plain.varTypes Tryz.prog) (ds ++ gs)).all (· ≤ reachBytes) = true)
    (hL : laidMetH Tryz.prog Rows.refsApartRow.laid W) (hS : W.ShapedOpen Tryz.prog) :
    Calls Tryz.prog 3 args W fun e W' => ∃ v, e = .returned v ∧ Rows.refsApartSpec.post enc Tryz.prog Tryz.f3 false true false false W args v W' := by
  have hW' := hW
  obtain ⟨p, q, hA0, hV, rfl, hfz, hnd⟩ := hW
  have hA : DataW.TrodAll enc Tryz.prog W 0 (fun _ => true) true Tryz.f3.params.toList args.toList ds p := hA0
  obtain ⟨rfl, rfl⟩ := trodVars_none hV
  clear hA0
  simp only [List.append_nil] at hW'
  have hE : Env W := env_of hS
  have hES : EnvS W := envS_of (by rw [MakeChecks.laidMetH_plain _ _ _ (by kernel_rfl)] at hL; exact hL) hS
  letI : Inhabited BaseW := ⟨⟨W⟩⟩
  have hBW : baseW = W := rfl
  have hBE : Ext baseW W := Ext.refl W
  have hAll := hA
  have hlt : ∀ x ∈ p, x.block < W.heap.size := fun x hx => by simpa using hW'.lt x (by simpa using hx)
  rw [Tryz.params3] at hA hval hsz
  obtain ⟨v0, vs0, d0, ds0, p0, q0, ha0, hd0, hp0, h0, hA⟩ := trodAll_cons hA
  obtain ⟨v1, vs1, d1, ds1, p1, q1, ha1, hd1, hp1, h1, hA⟩ := trodAll_cons hA
  obtain ⟨hn0, hn1, hn2⟩ := trodAll_nil hA
  subst hn0 hn1 hn2
  subst hp1 hd1 ha1
  subst hp0 hd0
  obtain rfl : args = #[v0, v1] := by cases args; simp_all
  clear ha0
  have hv0 := hval 0 22 v0 rfl rfl
  obtain ⟨l, hl, hil⟩ := arg_rops (j := 0) hBW hv0 h0 hsz rfl rfl
  have hv1 := hval 1 9 v1 rfl rfl
  obtain ⟨lk, rfl⟩ : ∃ l : B8, v1 = S8 l := by obtain ⟨s, rfl⟩ := okWide_string Tryz.underlying9 hv1; exact ⟨s.data.toList, rfl⟩
  refine (apart_any v0 l lk W hE hES hl).mono fun e W' ⟨he, hg⟩ => ?_
  subst he
  have harg := trodAll_below laidOut hg hAll hlt (by rw [Tryz.params3]; exact fun t ht => by simp only [List.mem_cons, List.not_mem_nil, or_false] at ht; rcases ht with rfl | rfl <;> exact ⟨by kernel_rfl, of_decide_eq_true (by kernel_rfl)⟩)
  exact ⟨_, rfl, _, _, _, [], _, [], hW', trodAll_mk1 (shut_bool Tryz.underlying4 _), harg, rfl, hg.frame _, fun h => by cases h⟩

theorem laid_met (os : Os) : laidMetH Tryz.prog Rows.refsApartRow.laid ((World.laidAll Tryz.prog os Rows.refsApartRow.laid).forCall (fun _ _ => 0) ⟨#[], #[.slice none 0 0, .string ⟨#[]⟩], []⟩).memory := by
  rw [MakeChecks.laidMetH_plain _ _ _ (by kernel_rfl)]
  exact laidMet_laidAll _ (by kernel_rfl) (by kernel_rfl)
theorem reads (os : Os) {H : Type} (enc : TypeId × Value → H) : ∃ places, DataW.whole enc Tryz.prog ((World.laidAll Tryz.prog os Rows.refsApartRow.laid).forCall (fun _ _ => 0) ⟨#[], #[.slice none 0 0, .string ⟨#[]⟩], []⟩).memory Tryz.f3.params.toList Rows.refsApartSpec.vars false #[.slice none 0 0, .string ⟨#[]⟩].toList 8 = some ([.nil, .lit (.string [])], [], places) :=
  ⟨[], by kernel_rfl⟩

set_option maxRecDepth 100000 in
theorem lifted (os : Os) (started : os.Started) (H : Type) (enc : TypeId × Value → H) (F : Stop.Interp) :
    ReturnsInHanded {} Tryz.checked os 3 .any ((OpenSpec.ofChange Rows.refsApartSpec).preRow enc Tryz.prog Tryz.f3 Rows.refsApartRow.domain false Rows.refsApartRow.laid) (((OpenSpec.ofChange Rows.refsApartSpec).at F).post enc Tryz.prog Tryz.f3 false true false false) := by
  obtain ⟨places, hx⟩ := reads os enc
  refine returnsInHanded_of_row (C := Tryz.checked) (s := OpenSpec.ofChange Rows.refsApartSpec) own started (by kernel_rfl) Tryz.func3
    (witness_row_at (enc := enc) (C := Tryz.checked) false (World.laidAll Tryz.prog os Rows.refsApartRow.laid) #[.slice none 0 0, .string ⟨#[]⟩] (World.laidAll_os _ _ _) (by kernel_rfl) (by kernel_rfl) (by kernel_rfl)
      (OpenSpec.preRow_of_cond 8 hx (by kernel_rfl) (fun k hk => by cases hk) (by kernel_rfl) (laid_met os))) ?_
  intro W base args ds gs before hval hW _ _ hsz hL hS _
  exact contract H enc W base args ds gs before hval hW hsz hL hS

theorem said : Rows.RefsApartSaid :=
  OpenClaim.holds_of_cond 3 Tryz.f3 rfl rfl rfl rfl rfl rfl rfl ⟨rfl, rfl, rfl, rfl, rfl⟩ rfl rfl rfl rfl rfl (by kernel_rfl) Tryz.func3 (by kernel_rfl)
    (of_decide_eq_true (by kernel_rfl)) (by unfold Func.isWrapper; first | (rw [if_pos (by decide +kernel)]; kernel_rfl) | (rw [if_neg (by decide +kernel)]; exact ⟨rfl, rfl⟩))
    (fun os started H enc _ F => by rw [OpenClaim.pre_eq_preRow]; exact lifted os started H enc F)

theorem plain (f : FuncId) (fn : Func) (hf : Tryz.pinned.checked.prog.funcNamed "marline/marlaw8.RefsApart" = some f) (hfn : Tryz.pinned.checked.prog.funcs[f]? = some fn) :
    false = Tryz.pinned.checked.prog.looks [] ∧ ∀ (j : Nat) t, fn.params[j]? = some t → Tryz.pinned.checked.prog.wantsStandIn t = false := by
  obtain rfl : f = 3 := Option.some.inj ((show Tryz.prog.funcNamed "marline/marlaw8.RefsApart" = some 3 by kernel_rfl).symm.trans hf) |>.symm
  obtain rfl : fn = Tryz.f3 := (Option.some.inj (Tryz.func3.symm.trans hfn)).symm
  refine ⟨by kernel_rfl, fun j t ht => ?_⟩
  rw [Tryz.params3] at ht
  have hm : t ∈ [22, 9] := by simpa using Array.mem_of_getElem? ht
  simp only [List.mem_cons, List.not_mem_nil, or_false] at hm
  rcases hm with rfl | rfl
  · exact (show Tryz.prog.wantsStandIn 22 = false by kernel_rfl)
  · exact (show Tryz.prog.wantsStandIn 9 = false by kernel_rfl)

/-- The card. -/
theorem card : Rows.RefsApartCardSaid :=
  Claim7.holds_tied_plain_at .later [] _ _ _ _ said (fun _ h => by cases h) (by kernel_rfl) (fun _ h => by cases h) refsApart_row_tie rfl ⟨rfl, rfl⟩ (by kernel_rfl) rfl plain (by kernel_rfl)

end Go.Proofs.YtfimfbdlegookaaGreatDoor.refsApart
