/- marlaw5.FsimTree: whatever the input, the law returns true, and the input reads as it did: its row's statement and its tied card. Conditions: what the row lists: the library's variables hold what the program's text lays. -/
import Derived.Test.YtoajnaopainpnaaGreatDoorZai
import Derived.Deep.QuietTactic
import Derived.BigQuiet

set_option linter.unusedVariables false
set_option linter.unusedSimpArgs false
set_option linter.unusedSectionVars false

/-! marlaw5.Same: both file systems stand alike where both read as the same. Conditions: what holds of a file system at all times. -/
namespace Go.Proofs.YtoajnaopainpnaaGreatDoor
open Go Go.RowKit
variable [Inhabited BaseW]

theorem evB_length {w : World} {cs : List Value} {e : Ev} (h : IsEvB w cs e) : cs.length = 7 := by
  obtain ⟨v, rfl, -⟩ := h
  rfl
theorem readB_get {w : World} {v : Value} {l : List Ev} (h : ReadB w v l) : ∃ a cap, v = .slice a l.length cap ∧ l.length ≤ cap ∧ l.length ≤ 140737488355328 ∧ cap ≤ 9223372036854775807 ∧
    ∀ (k : Nat) e, l[k]? = some e → ∃ b o cs, a = some ⟨b, o, none⟩ ∧ IsEvB w cs e ∧ ∀ j u, cs[j]? = some u → w.cell? ⟨b, o + k * 7 + j, none⟩ = some u := by
  obtain ⟨css, ⟨a, cap, rfl, h1, h2, h3, h4⟩, he⟩ := h
  refine ⟨a, cap, rfl, h1, h3, h2, fun k e hk => ?_⟩
  have h7 : ∀ c ∈ css, c.length = 7 := fun c hc => by
    obtain ⟨i, hi, rfl⟩ := List.mem_iff_getElem.1 hc
    have hi2 : i < l.length := by rw [← he.1]; exact hi
    exact evB_length (he.2 i css[i] l[i] (List.getElem?_eq_getElem hi) (List.getElem?_eq_getElem hi2))
  have hkl : k < css.length := by rw [he.1]; exact (List.getElem?_eq_some_iff.1 hk).1
  have hev := he.2 k _ e (List.getElem?_eq_getElem hkl) hk
  have hf := fun j u hu => flat_get 7 css k j _ u h7 (List.getElem?_eq_getElem hkl) hu
  obtain ⟨b, o, rfl, hc⟩ := h4 (by
    intro hn
    have h0 : (css[k])[0]? = some ((css[k])[0]'(by rw [evB_length hev]; omega)) := List.getElem?_eq_getElem _
    have := hf 0 _ h0
    rw [hn] at this
    simp at this)
  refine ⟨b, o, css[k], rfl, hev, fun j u hu => ?_⟩
  have := hc _ _ (hf j u hu)
  rwa [Nat.add_assoc, Nat.mul_comm k 7]

set_option maxRecDepth 100000 in
set_option maxHeartbeats 8000000 in
theorem same_any {S O R O' R' : Nat → Prop} {w : World} {f x : Value} {m : Fs} (hf : IsFs S O R w f m) (hx : IsRef O' R' w x m) (hok : OkM m) (ht : m.time ≤ 90000) :
    Calls Tryz.prog 41 #[f, x] w fun e w' => e = .returned (.bool true) ∧ Ext w w' := by
  obtain ⟨hr1, hs1, gf, rfl⟩ := hf.rise
  obtain ⟨gx, rfl⟩ := hx.ptr
  have HF : Hid _ := hf
  have HX : Hid _ := hx
  have HR : Hid _ := hr1
  have HS : Hid _ := hs1
  have HOK : Hid _ := hok
  have hub := used_bound hok (by omega)
  have HUB : Hid _ := hub
  have hln := hok.lnow
  have hlp := hok.lpend
  have hlu := hok.lusers
  obtain ⟨U, hU⟩ : ∃ U, usedF m.now = U := ⟨_, rfl⟩
  have HU : Hid _ := hU
  clear hf hx hr1 hs1 hok hub hU
  go_enter Tryz.func41, Tryz.ntmps41
  go_wp2_with fail
  go_at_call 23
  refine (calls_any HF.out).mono ?_
  rintro e w1 ⟨rfl, rfl⟩
  go_wp2_with fail
  go_at_call 85
  refine (callsR_any HX.out).mono ?_
  rintro e w1 ⟨rfl, rfl⟩
  go_wp2_with fail
  go_at_call 17
  refine (now_any HF.out).mono ?_
  rintro e w1 ⟨rfl, rfl⟩
  go_wp2_with fail
  go_at_call 86
  refine (nowR_any HX.out).mono ?_
  rintro e w1 ⟨rfl, rfl⟩
  go_wp2_with fail
  go_at_call 18
  refine (used_any HF.out (by have := HUB.out; omega)).mono ?_
  rw [HU.out]
  rintro e w1 ⟨rfl, hx1⟩
  go_wp2_with fail
  go_at_call 87
  refine (usedRR_any (IsRef.ext HX.out hx1) (by have := HUB.out; omega)).mono ?_
  rw [HU.out]
  rintro e w2 ⟨rfl, hx2⟩
  have hx02 := hx1.trans hx2
  have HF2 : Hid _ := IsFs.ext HF.out hx02
  have HX2 : Hid _ := IsRef.ext HX.out hx02
  go_wp2_with fail
  go_at_call 24
  refine (pending_any HF2.out HOK.out (by omega)).mono ?_
  rintro e w3 ⟨rfl, rfl⟩
  go_wp2_with fail
  go_at_call 88
  refine (pendingR_any HX2.out (by omega)).mono ?_
  rintro e w3 ⟨rfl, rfl⟩
  go_wp2_with fail
  go_at_call 40
  refine (up_any HF2.out).mono ?_
  rintro e w3 ⟨rfl, rfl⟩
  go_wp2_with fail
  go_at_call 89
  refine (upR_any HX2.out).mono ?_
  rintro e w3 ⟨rfl, rfl⟩
  go_wp2_with fail
  go_at_call 12
  refine (paths_any HF2.out (by omega)).mono ?_
  rintro e w4 ⟨⟨v1, rfl, ho1⟩, hx4⟩
  have hv1 := strs_paths ho1 (by omega)
  obtain ⟨a1, c1, rfl, l1, l2, l3, -⟩ := hv1.get
  have HV1 : Hid _ := hv1
  clear ho1 hv1
  go_wp2_with fail
  go_at_call 90
  refine (pathsR_any (IsRef.ext HX2.out hx4) (by omega)).mono ?_
  rintro e w5 ⟨⟨v2, rfl, hv2⟩, hx5⟩
  obtain ⟨a2, c2, rfl, -⟩ := hv2.get
  have HV2 : Hid _ := hv2
  clear hv2
  go_wp2_with fail
  go_at_call 65
  refine (texts_any _ _ _ _ _ (IsStrs.ext HV1.out hx5) HV2.out).mono ?_
  rw [show (pathsL m.now == pathsL m.now) = true by simp]
  rintro e w6 ⟨rfl, hx6⟩
  have hx26 := (hx4.trans hx5).trans hx6
  have HF6 : Hid _ := IsFs.ext HF2.out hx26
  have HX6 : Hid _ := IsRef.ext HX2.out hx26
  have HIS : Hid _ := IsStrs.ext (IsStrs.ext HV1.out hx5) hx6
  have hpl : (pathsL m.now).length = m.now.length := by simp [pathsL]
  have HPL : Hid _ := hpl
  rw [hpl] at l1 l2 ⊢
  have hx06 := hx02.trans hx26
  have HX06 : Hid _ := hx06
  clear hpl hx4 hx5 hx6 hx26 hx1 hx2 hx02 hx06
  go_wp2_with fail
  go_loopw [6] (fun i wr => ∃ k : Nat, k ≤ m.now.length ∧ i = .int .i64 k ∧ Ext w6 wr) (fun i _ => m.now.length - (intOf i).toNat)
  case atStart => exact ⟨0, Nat.zero_le _, rfl, Ext.refl _⟩
  case round =>
    obtain ⟨k, hk, rfl, hx⟩ := hrel
    by_cases hlt : k < m.now.length
    · obtain ⟨p, hp⟩ : ∃ p, (pathsL m.now)[k]? = some p := ⟨_, List.getElem?_eq_getElem (by rw [HPL.out]; exact hlt)⟩
      obtain ⟨f1, hf1⟩ := paths_get hp
      obtain ⟨_, _, he, -, -, -, hg⟩ := (IsStrs.ext HIS.out hx).get
      cases he
      obtain ⟨bb, oo, rfl, hc⟩ := hg k (by rw [HPL.out]; exact hlt)
      have y1 := hc k (by rw [HPL.out]; exact hlt)
      rw [show (pathsL m.now).getD k [] = p by rw [List.getD_eq_getElem?_getD, hp]; rfl] at y1
      have hps : p.length ≤ 1000000 := HS.out _ (List.mem_of_getElem? hf1)
      have HK1 : Hid _ := peek_at HR.out hf1
      have HA : Hid _ := IsFs.ext HF6.out hx
      have HB : Hid _ := IsRef.ext HX6.out hx
      clear hp hf1 hg hc
      go_wp2_with fail
      go_at_call 13
      refine (peek_any p HA.out hps).mono ?_
      rw [HK1.out]
      rintro e w7 ⟨⟨u1, rfl, hd1⟩, hx7⟩
      obtain ⟨s1, t1, rfl, -⟩ := id hd1.bytes
      have HD1 : Hid _ := hd1
      have HB7 : Hid _ := IsRef.ext HB.out hx7
      have y2 := hx7.cell y1
      clear hd1
      dsimp only
      go_upto_region 10 with fail
      obtain ⟨w8, hw8⟩ : ∃ w8, w8 = w7.alloc (.cells #[.int .i64 f1.mode, .slice s1 f1.data.length t1, .int .i64 f1.time] 30) := ⟨_, rfl⟩
      rw [← hw8]
      have hx8 : Ext w7 w8 := by rw [hw8]; exact (Ext.refl _).alloc _
      have hb8 : w8.heap[w7.heap.size]? = some (.cells #[.int .i64 f1.mode, .slice s1 f1.data.length t1, .int .i64 f1.time] 30 (0, 0)) := by rw [hw8]; exact alloc_at _ _
      have y3 := hx8.cell y2
      clear hw8
      go_wp2_with fail
      go_at_call 91
      refine (peekR_any p (IsRef.ext HB7.out hx8)).mono ?_
      rw [HK1.out]
      rintro e w9 ⟨⟨u2, rfl, hd2⟩, hx9⟩
      obtain ⟨s2, t2, rfl, -⟩ := id hd2.bytes
      have HD2 : Hid _ := hd2
      have hb9 := hx9.row hb8
      clear hd2 hb8
      dsimp only
      go_upto_region 11 with fail
      obtain ⟨wa, hwa⟩ : ∃ wa, wa = w9.alloc (.cells #[.int .i64 f1.mode, .slice s2 f1.data.length t2, .int .i64 f1.time] 92) := ⟨_, rfl⟩
      rw [← hwa]
      have hxa : Ext w9 wa := by rw [hwa]; exact (Ext.refl _).alloc _
      have hba : wa.heap[w9.heap.size]? = some (.cells #[.int .i64 f1.mode, .slice s2 f1.data.length t2, .int .i64 f1.time] 92 (0, 0)) := by rw [hwa]; exact alloc_at _ _
      have hbb := hxa.row hb9
      obtain ⟨x0, x1, x2⟩ := cellsAt3 hbb
      obtain ⟨z0, z1, z2⟩ := cellsAt3 hba
      have hx57 := (hx8.trans hx9).trans hxa
      have HE1 : Hid (IsBytes wa (.slice s1 f1.data.length t1) f1.data) := (IsData.ext HD1.out hx57).bytes
      have HE2 : Hid (IsBytes wa (.slice s2 f1.data.length t2) f1.data) := (IsData.ext HD2.out hxa).bytes
      have HXR : Hid _ := (hx.trans hx7).trans hx57
      clear hwa hb9 hba hbb hx57 hxa hx9 hx8 hx7 y1 y2 y3
      go_wp2_with fail
      go_at_call 62
      refine (file_same f1 _ _ _ HE1.out HE2.out).mono ?_
      rintro e wb ⟨rfl, hxb⟩
      go_wp2
      go_roundw
      case rel => exact ⟨k + 1, by omega, by go_num, Ext.trans HXR.out hxb⟩
      case measure => simp [intOf]; omega
    · have HA : Hid _ := IsFs.ext HF6.out hx
      have HB : Hid _ := IsRef.ext HX6.out hx
      have HX0 : Hid _ := Ext.trans HX06.out hx
      clear hx
      go_wp2_with fail
      go_at_call 19
      refine (user_any HA.out (by omega)).mono ?_
      rintro e w7 ⟨⟨v3, rfl, ho3⟩, hx7⟩
      have hu3 := (OwnE.readL ho3 (by omega)).read
      obtain ⟨a3, c3, rfl, q1, q2, q3, -⟩ := readB_get hu3
      have HU3 : Hid _ := hu3
      clear ho3 hu3
      go_wp2_with fail
      go_at_call 92
      refine (userR_any (IsRef.ext HB.out hx7) (by omega)).mono ?_
      rintro e w8 ⟨⟨v4, rfl, hu4⟩, hx8⟩
      obtain ⟨a4, c4, rfl, r1, r2, r3, -⟩ := readB_get hu4
      have HU4 : Hid _ := hu4
      have HU5 : Hid _ := ReadB.ext HU3.out hx8
      have HX8 : Hid _ := Ext.trans (Ext.trans HX0.out hx7) hx8
      clear hu4 hx7 hx8
      go_wp2_with fail
      go_loopw [13] (fun i wr => ∃ k : Nat, k ≤ m.users.length ∧ i = .int .i64 k ∧ Ext w8 wr) (fun i _ => m.users.length - (intOf i).toNat)
      case atStart => exact ⟨0, Nat.zero_le _, rfl, Ext.refl _⟩
      case round =>
        obtain ⟨n, hn, rfl, hx⟩ := hrel
        by_cases hlt2 : n < m.users.length
        · obtain ⟨E, he⟩ : ∃ e, m.users[n]? = some e := ⟨_, List.getElem?_eq_getElem hlt2⟩
          obtain ⟨_, _, he5, -, -, -, g5⟩ := readB_get (ReadB.ext HU5.out hx)
          cases he5
          obtain ⟨_, _, he4, -, -, -, g4⟩ := readB_get (ReadB.ext HU4.out hx)
          cases he4
          obtain ⟨b5, o5, cs5, rfl, ⟨d5, rfl, hd5, -⟩, k5⟩ := g5 n E he
          obtain ⟨b4, o4, cs4, rfl, ⟨d4, rfl, hd4, -⟩, k4⟩ := g4 n E he
          have x0 := k5 0 _ rfl
          have x1 := k5 1 _ rfl
          have x2 := k5 2 _ rfl
          have x5 := k5 5 _ rfl
          have x6 := k5 6 _ rfl
          have y0 := k4 0 _ rfl
          have y1 := k4 1 _ rfl
          have y2 := k4 2 _ rfl
          have y5 := k4 5 _ rfl
          have y6 := k4 6 _ rfl
          simp only [Nat.add_zero] at x0 y0
          have HBY : Hid (∀ j, Calls Tryz.prog 35 #[d5, d4] (wr.drewN j) fun e w' => e = .returned (.bool true) ∧ w' = wr.drewN j) := fun j => by
            have := bytesEq_any d5 d4 E.data E.data (wr.drewN j) (IsBytes.ext hd5 (Ext.drawn _ _)) (IsBytes.ext hd4 (Ext.drawn _ _))
            rwa [show (E.data == E.data) = true by simp] at this
          have HXX : Hid _ := hx
          clear hd5 hd4 k5 k4 g5 g4 he hx
          go_upto_region 19 with fail
          go_quiet (first | (go_at_call 35; exact Calls.quiet_of_same (HBY.out _)))
          go_wp2
          go_roundw
          case rel => exact ⟨n + 1, by omega, by go_num, Ext.trans HXX.out (Ext.drawn _ _)⟩
          case measure => simp [intOf]; omega
        · go_wp2
          go_ret
          exact ⟨rfl, Ext.trans HX8.out hx⟩

end Go.Proofs.YtoajnaopainpnaaGreatDoor

/-! marlaw5.FsimTree: true at any room and any operations. Conditions: as each theorem states. -/
namespace Go.Proofs.YtoajnaopainpnaaGreatDoor
open Go Go.RowKit Go.Sort
variable [Inhabited BaseW]

set_option maxRecDepth 100000 in
set_option maxHeartbeats 16000000 in
theorem tree_any (room : Int) (v : Value) (l : List Opn) (w : World) (hb : Ext baseW w) (hE : Env w) (hv : IsOps w v l) (hi : ∀ o ∈ l, I64 o.keep ∧ I64 o.torn ∧ ∀ e ∈ o.plan, I64 e.keep ∧ I64 e.torn) :
    Calls Tryz.prog 3 #[.int .i64 room, v] w fun e w' => e = .returned (.bool true) ∧ Ext w w' := by
  obtain ⟨a, cap, rfl, h1, h2, h3, -⟩ := ops_cells hv
  have HV : Hid _ := hv
  have HI : Hid _ := hi
  have HE : Hid _ := hE
  have HB : Hid _ := hb
  clear hv hi hE hb
  go_enter Tryz.func3, Tryz.ntmps3
  go_wp2_with fail
  go_at_call 10
  refine (first_any w HE.out).mono ?_
  rintro e w1 ⟨rfl, hx1⟩
  have HE1 : Hid _ := HE.out.ext hx1
  go_wp2_with fail
  go_at_call 11
  refine (played_any room _ l w1 (Ext.trans HB.out hx1) HE1.out (IsOps.ext HV.out hx1) HI.out).mono ?_
  rintro e w2 ⟨hr, hx2⟩
  have HE2 : Hid _ := HE1.out.ext hx2
  have hx02 := hx1.trans hx2
  rcases hr with rfl | ⟨g, S, O, rfl, hOne, hG, hF, hR⟩
  · go_wp2_with fail
    go_at_call 10
    refine (first_any w2 HE2.out).mono ?_
    rintro e w3 ⟨rfl, hx3⟩
    go_wp2
    go_ret
    exact ⟨rfl, hx02.trans hx3⟩
  · obtain ⟨m, hm⟩ : ∃ m, playM room l = m := ⟨_, rfl⟩
    rw [hm] at hOne hG hF hR
    have htm := hG.time
    have hln := hG.ok.lnow
    have hlu := hG.ok.lusers
    have hr0 := hG.room0
    have hub := used_bound hG.ok (by omega)
    have HF0 : Hid _ := hOne.fs
    have HFN : Hid _ := hF.now hG.ok
    have HD : Hid _ := hG.ok.dnow
    have HUT : Hid (∀ k, usedF (m.now.take k) ≤ m.now.length * 20000) := fun k => usedT_le m.now k (fun e he => (hG.ok.dnow e he).2)
    clear hm hOne hG hF
    go_wp2_with fail
    go_at_call 12
    refine (paths_any HF0.out (by omega)).mono ?_
    rintro e w3 ⟨⟨v1, rfl, ho1⟩, hx3⟩
    have hv1 := strs_paths ho1 (by omega)
    obtain ⟨a1, c1, rfl, l1, l2, l3, -⟩ := hv1.get
    have HV1 : Hid _ := hv1
    have HF3 : Hid _ := IsFs.ext HF0.out hx3
    have HE3 : Hid _ := HE2.out.ext hx3
    have hpl : (pathsL m.now).length = m.now.length := by simp [pathsL]
    have HPL : Hid _ := hpl
    have HV9 : Hid (IsStrs w3 (.slice a1 m.now.length c1) (pathsL m.now)) := by rw [← hpl]; exact hv1
    rw [hpl] at l1 l2 ⊢
    have HX03 : Hid _ := hx02.trans hx3
    clear hpl ho1 hv1 hx1 hx2 hx02 hx3
    go_wp2_with fail
    go_loopw [7, 8] (fun n i wr => ∃ k : Nat, k ≤ m.now.length ∧ i = .int .i64 k ∧ n = .int .i64 (usedF (m.now.take k)) ∧ Ext w3 wr) (fun _ i _ => m.now.length - (intOf i).toNat)
    case atStart => exact ⟨0, Nat.zero_le _, rfl, rfl, Ext.refl _⟩
    case round =>
      obtain ⟨k, hk, rfl, rfl, hx⟩ := hrel
      have hut := HUT.out k
      by_cases hlt : k < m.now.length
      · obtain ⟨p, hp⟩ : ∃ p, (pathsL m.now)[k]? = some p := ⟨_, List.getElem?_eq_getElem (by rw [HPL.out]; exact hlt)⟩
        obtain ⟨f1, hf1⟩ := paths_get hp
        obtain ⟨_, _, he, -, -, -, hg⟩ := (IsStrs.ext HV1.out hx).get
        cases he
        obtain ⟨bb, oo, rfl, hc⟩ := hg k (by rw [HPL.out]; exact hlt)
        have y1 := hc k (by rw [HPL.out]; exact hlt)
        rw [show (pathsL m.now).getD k [] = p by rw [List.getD_eq_getElem?_getD, hp]; rfl] at y1
        have hmem := List.mem_of_getElem? hf1
        have hpb := HFN.out.path _ hmem
        have hps := path_short hpb
        have hmd := HFN.out.mode _ hmem
        have hti := HFN.out.time _ hmem
        have hdl := (HD.out _ hmem).2
        simp only at hpb hps hmd hti hdl
        have HK1 : Hid _ := peek_at HFN.out.rise hf1
        have HA : Hid _ := IsFs.ext HF3.out hx
        have HEr : Hid _ := HE3.out.ext hx
        have HUS : Hid _ := usedT_take hf1
        have HNP : Hid _ := no_parent HFN.out hmem
        have HPB : Hid _ := hpb
        have HPREV : Hid (∀ j : Nat, k = j + 1 → ∃ p0 : B8, wr.cell? ⟨bb, oo + j, none⟩ = some (S8 p0) ∧ ltB p0 p = true) := by
          rintro j rfl
          refine ⟨(pathsL m.now).getD j [], hc j (by rw [HPL.out]; omega), ?_⟩
          have hj : j < m.now.length := by omega
          have e0 : m.now[j]? = some m.now[j] := List.getElem?_eq_getElem hj
          have e1 : m.now[j + 1] = (p, f1) := by
            have := hf1
            rw [List.getElem?_eq_getElem hlt] at this
            exact Option.some.inj this
          have := List.pairwise_iff_getElem.1 HFN.out.rise j (j + 1) hj hlt (by omega)
          rw [e1] at this
          have e2 : (pathsL m.now).getD j [] = m.now[j].1 := by rw [List.getD_eq_getElem?_getD]; unfold pathsL; rw [List.getElem?_map, e0]; rfl
          rw [e2]; exact this
        clear hp hf1 hg hc hmem hpb
        go_wp2_with fail
        go_at_call 13
        refine (peek_any p HA.out (by omega)).mono ?_
        rw [HK1.out]
        rintro e w4 ⟨⟨u1, rfl, hd1⟩, hx4⟩
        obtain ⟨s1, t1, rfl, -⟩ := id hd1.bytes
        have y2 := hx4.cell y1
        clear hd1
        dsimp only
        go_upto_region 12 with fail
        obtain ⟨w5, hw5⟩ : ∃ w5, w5 = w4.alloc (.cells #[.int .i64 f1.mode, .slice s1 f1.data.length t1, .int .i64 f1.time] 30) := ⟨_, rfl⟩
        rw [← hw5]
        have hx5 : Ext w4 w5 := by rw [hw5]; exact (Ext.refl _).alloc _
        have hb5 : w5.heap[w4.heap.size]? = some (.cells #[.int .i64 f1.mode, .slice s1 f1.data.length t1, .int .i64 f1.time] 30 (0, 0)) := by rw [hw5]; exact alloc_at _ _
        have y3 := hx5.cell y2
        have HE5 : Hid _ := HEr.out.ext (hx4.trans hx5)
        have HX5 : Hid _ := (hx.trans hx4).trans hx5
        clear hw5 y1 y2
        go_wp2_with fail
        go_at_call 14
        refine (parents_any p w5 HE5.out (by omega)).mono ?_
        rintro e w6 ⟨⟨v6, rfl, hv6⟩, hx6⟩
        obtain ⟨a6, c6, rfl, q1, q2, q3, -⟩ := hv6.get
        have HV6 : Hid _ := hv6
        have HX6 : Hid _ := Ext.trans HX5.out hx6
        have HE6 : Hid _ := HE5.out.ext hx6
        have hb6 := hx6.row hb5
        have y4 := hx6.cell y3
        have HB6 : Hid _ := hb6
        have HXR6 : Hid _ := (hx4.trans hx5).trans hx6
        clear hv6 hb5 hb6 y3 hx5 hx4 hx6
        go_wp2_with fail
        go_loopw [12] (fun i wq => ∃ j : Nat, j ≤ (parentsL p).length ∧ i = .int .i64 j ∧ Ext w6 wq) (fun i _ => (parentsL p).length - (intOf i).toNat)
        case atStart => exact ⟨0, Nat.zero_le _, rfl, Ext.refl _⟩
        case round =>
          obtain ⟨j, hj, rfl, hxj⟩ := hrel
          by_cases hjl : j < (parentsL p).length
          · obtain ⟨u, hu⟩ : ∃ u, (parentsL p)[j]? = some u := ⟨_, List.getElem?_eq_getElem hjl⟩
            obtain ⟨_, _, he, -, -, -, hg⟩ := (IsStrs.ext HV6.out hxj).get
            cases he
            obtain ⟨b7, o7, rfl, hc⟩ := hg j hjl
            have z1 := hc j hjl
            rw [show (parentsL p).getD j [] = u by rw [List.getD_eq_getElem?_getD, hu]; rfl] at z1
            have HNO : Hid _ := HNP.out u (List.mem_of_getElem? hu)
            clear hg hc hu
            go_wp2_with fail
            go_at_call 15
            refine (has_any _ (pathsL m.now) u wr (IsStrs.ext (IsStrs.ext HV9.out HX6.out) hxj)).mono ?_
            rw [HNO.out]
            rintro e w8 ⟨rfl, hx8⟩
            go_wp2
            go_roundw
            case rel => exact ⟨j + 1, by omega, by go_num, hxj.trans hx8⟩
            case measure => simp [intOf]; omega
          · have HX8 : Hid _ := Ext.trans HX6.out hxj
            have z0 := hxj.cell y4
            obtain ⟨x0, x1, x2⟩ := cellsAt3 (hxj.row HB6.out)
            have HEq : Hid _ := HE6.out.ext hxj
            have HAq : Hid _ := IsFs.ext (IsFs.ext HF3.out HX6.out) hxj
            have hx8 := HX8.out
            have HPA : Hid (∀ d os, Calls Tryz.prog 16 #[S8 p] (grow (redrawn wr d) os) fun e w' => e = .returned (.bool true) ∧ ∃ q : Regrown, w' = grow (redrawn wr q.d) q.os) := fun d os => Calls.regrown_of (by
              have := path_l p _ (HEq.out.ext (Ext.regrown wr d os)) (by omega)
              rwa [HPB.out] at this)
            have HNW : Hid (∀ d os, Calls Tryz.prog 17 #[.pointer (some ⟨g, 0, none⟩)] (grow (redrawn wr d) os) fun e w' => e = .returned (.int .i64 m.time) ∧ ∃ q : Regrown, w' = grow (redrawn wr q.d) q.os) := fun d os =>
              (now_any (IsFs.ext HAq.out (Ext.regrown wr d os))).mono (fun _ _ ⟨he, hw⟩ => ⟨he, ⟨d, os⟩, hw⟩)
            have z1 := fun d os => cell_regrown z0 d os
            have v0 := fun d os => cell_regrown x0 d os
            have v1 := fun d os => cell_regrown x1 d os
            have v2 := fun d os => cell_regrown x2 d os
            have n1 : ¬ f1.mode < 1 := by omega
            have n2 : ¬ 3 < f1.mode := by omega
            have n3 : ¬ (20000 : Int) < (f1.data.length : Int) := by omega
            have n4 : ¬ (m.time : Int) < f1.time := by omega
            have hue : IntKind.i64.wrap ((usedF (m.now.take k) : Int) + (f1.data.length : Int)) = ((usedF (m.now.take k) + f1.data.length : Nat) : Int) := by rw [IntWalk.i64_in _ (by omega)]; omega
            by_cases hk0 : k = 0
            · subst hk0
              have hue0 : IntKind.i64.wrap (((usedF ([] : Files) : Nat) : Int) + (f1.data.length : Int)) = ((usedF (List.take 0 m.now) + f1.data.length : Nat) : Int) := hue
              clear HPREV hue
              simp only [Nat.add_zero] at z1
              go_upto_region 18 with fail
              refine qw_below (by kernel_rfl) (by kernel_rfl) ?_
              repeat (refine qw_step (fun K hK => ?_); go_simp; first | (refine hK _ ?_; clear hK K) | (apply Exists.intro; refine ⟨fun _ => ?_, hK _ ?_⟩; (first | exact HPA.out _ _ | exact HNW.out _ _); clear hK K))
              refine qw_nil ?_
              intro _ hw'
              obtain ⟨⟨dq, osq⟩, hw''⟩ := hw'
              subst hw''
              go_wp2
              go_roundw
              case rel => exact ⟨1, by omega, by go_num, by rw [HUS.out]; first | exact congrArg (Value.int .i64) hue0 | exact congrArg (Value.int .i64) (Int.natCast_add _ _).symm, Ext.trans HX8.out (Ext.regrown _ _ _)⟩
              case measure => simp [intOf]; omega
            · obtain ⟨j0, hj0⟩ : ∃ j0, k = j0 + 1 := ⟨k - 1, by omega⟩
              obtain ⟨p0, hp0, hlt0⟩ := HPREV.out j0 hj0
              have hw1 : IntKind.i64.wrap ((k : Int) - 1) = (j0 : Int) := by rw [IntWalk.i64_in _ (by omega)]; omega
              have hj0l : j0 < m.now.length := by omega
              have hk1 : (0 : Int) < (k : Int) := by omega
              have u0 := (Ext.trans HXR6.out hxj).cell hp0
              have u1 := fun d os => cell_regrown u0 d os
              have hk2 : 0 < k := by omega
              have hbe : (p == p0) = false := by rw [beq_eq_false_iff_ne]; exact (ltB_ne hlt0).symm
              have hbl : Op.bytesLess p p0 = false := by
                rw [less_ltB]
                cases hq : ltB p p0 with
                | false => rfl
                | true => exact absurd rfl (ltB_ne (ltB_trans hlt0 hq))
              clear HPREV hp0 hlt0 hj0
              go_upto_region 18 with fail
              refine qw_below (by kernel_rfl) (by kernel_rfl) ?_
              repeat (refine qw_step (fun K hK => ?_); go_simp; first | (refine hK _ ?_; clear hK K) | (apply Exists.intro; refine ⟨fun _ => ?_, hK _ ?_⟩; (first | exact HPA.out _ _ | exact HNW.out _ _); clear hK K))
              refine qw_nil ?_
              intro _ hw'
              obtain ⟨⟨dq, osq⟩, hw''⟩ := hw'
              subst hw''
              go_wp2
              go_roundw
              case rel => exact ⟨k + 1, by omega, by go_num, by rw [HUS.out]; first | exact congrArg (Value.int .i64) hue | exact congrArg (Value.int .i64) (Int.natCast_add _ _).symm, Ext.trans HX8.out (Ext.regrown _ _ _)⟩
              case measure => simp [intOf]; omega
      · skip
        have hkk : k = m.now.length := by omega
        subst hkk
        have hub1 := hub
        rw [List.take_length]
        obtain ⟨U, hU⟩ : ∃ U, usedF m.now = U := ⟨_, rfl⟩
        have HU : Hid _ := hU
        have HEr : Hid _ := HE3.out.ext hx
        have HXr : Hid _ := Ext.trans HX03.out hx
        have HA : Hid _ := IsFs.ext HF3.out hx
        have HUSED : Hid (m.users = [] → (U : Int) ≤ room) := fun h => by have := HFN.out.used h; rw [hR, hU] at this; exact this
        rw [hU] at hub1 ⊢
        clear hub hU hut hx
        go_wp2_with fail
        go_at_call 10
        refine (first_any _ HEr.out).mono ?_
        rintro e w4 ⟨rfl, hx4⟩
        go_wp2_with fail
        go_at_call 18
        refine (used_any (IsFs.ext HA.out hx4) (by rw [HU.out]; omega)).mono ?_
        rw [HU.out]
        rintro e w5 ⟨rfl, hx5⟩
        go_wp2_with fail
        go_at_call 19
        refine (user_any (IsFs.ext (IsFs.ext HA.out hx4) hx5) (by omega)).mono ?_
        rintro e w6 ⟨⟨v6, rfl, ho6⟩, hx6⟩
        obtain ⟨a6, c6, rfl, -⟩ := readB_get (OwnE.readL ho6 (by omega)).read
        have HX6 : Hid _ := ((Ext.trans HXr.out hx4).trans hx5).trans hx6
        clear ho6 hx4 hx5 hx6
        by_cases hu0 : m.users.length = 0
        · have hus := HUSED.out (List.eq_nil_of_length_eq_zero hu0)
          have hmx : max room 0 = room := by omega
          rw [hu0]
          go_wp2
          go_ret
          exact ⟨rfl, HX6.out⟩
        · have hup : (0 : Int) < (m.users.length : Int) := by omega
          go_wp2
          go_ret
          exact ⟨rfl, HX6.out⟩

end Go.Proofs.YtoajnaopainpnaaGreatDoor

/-! marlaw5.FsimTree: whatever the input, the law returns true, and the input reads as it did: its row's statement and its tied card. Conditions: what the row lists: the library's variables hold what the program's text lays. -/
namespace Go.Proofs.YtoajnaopainpnaaGreatDoor.fsimTree
open Go Go.ChangeShapes Go.WideShapes Go.ChangeAt Go.RowKit Go.Deep

set_option maxRecDepth 100000 in
theorem contract (H : Type) (enc : TypeId × Value → H) (W : World) (base : Nat) (args : Array Value) (ds gs : List (DataW H)) (before : List MemPlace)
    (hval : ∀ (j : Nat) t v, Tryz.f3.params[j]? = some t → args[j]? = some v → Value.okWide Tryz.prog W .any base t v)
    (hW : DataW.Whole enc Tryz.prog Tryz.f3.params.toList Rows.fsimTreeSpec.vars false W args.toList ds gs before)
    (hsz : (DataW.weightsEach Tryz.prog (Tryz.f3.params.toList ++ (OpenSpec.ofChange Rows.fsimTreeSpec).bare.plain.varTypes Tryz.prog) (ds ++ gs)).all (· ≤ reachBytes) = true)
    (hL : laidMetH Tryz.prog Rows.fsimTreeRow.laid W) (hS : W.ShapedOpen Tryz.prog) :
    Calls Tryz.prog 3 args W fun e W' => ∃ v, e = .returned v ∧ Rows.fsimTreeSpec.post enc Tryz.prog Tryz.f3 false true false false W args v W' := by
  have hW' := hW
  obtain ⟨p, q, hA0, hV, rfl, hfz, hnd⟩ := hW
  have hA : DataW.TrodAll enc Tryz.prog W 0 (fun _ => true) true Tryz.f3.params.toList args.toList ds p := hA0
  obtain ⟨rfl, rfl⟩ := trodVars_none hV
  clear hA0
  simp only [List.append_nil] at hW'
  have hE : Env W := env_of hS
  letI : Inhabited BaseW := ⟨⟨W⟩⟩
  have hBW : baseW = W := rfl
  have hBE : Ext baseW W := Ext.refl W
  have hAll := hA
  have hlt : ∀ x ∈ p, x.block < W.heap.size := fun x hx => by simpa using hW'.lt x (by simpa using hx)
  rw [Tryz.params3] at hA hval hsz
  obtain ⟨v0, vs0, d0, ds0, p0, q0, ha0, hd0, hp0, h0, hA⟩ := trodAll_cons hA
  obtain ⟨v1, vs1, d1, ds1, p1, q1, ha1, hd1, hp1, h1, hA⟩ := trodAll_cons hA
  obtain ⟨hn0, hn1, hn2⟩ := trodAll_nil hA
  subst hn0 hn1 hn2
  subst hp1 hd1 ha1
  subst hp0 hd0
  obtain rfl : args = #[v0, v1] := by cases args; simp_all
  clear ha0
  have hv0 := hval 0 3 v0 rfl rfl
  obtain ⟨n, rfl, -, -, hw0⟩ := open_int Tryz.underlying3 hv0 h0
  have hn : I64 n := i64_wf hw0
  have hv1 := hval 1 22 v1 rfl rfl
  obtain ⟨l, hl, hil⟩ := arg_ops (j := 1) hBW hv1 h1 hsz rfl rfl
  refine (tree_any n v1 l W hBE hE hl hil).mono fun e W' ⟨he, hg⟩ => ?_
  subst he
  have harg := trodAll_below laidOut hg hAll hlt (by rw [Tryz.params3]; exact fun t ht => by simp only [List.mem_cons, List.not_mem_nil, or_false] at ht; rcases ht with rfl | rfl <;> exact ⟨by kernel_rfl, of_decide_eq_true (by kernel_rfl)⟩)
  exact ⟨_, rfl, _, _, _, [], _, [], hW', trodAll_mk1 (shut_bool Tryz.underlying4 _), harg, rfl, hg.frame _, fun h => by cases h⟩

theorem laid_met (os : Os) : laidMetH Tryz.prog Rows.fsimTreeRow.laid ((World.laidAll Tryz.prog os Rows.fsimTreeRow.laid).forCall (fun _ _ => 0) ⟨#[], #[.int .i64 0, .slice none 0 0], []⟩).memory := by
  rw [MakeChecks.laidMetH_plain _ _ _ (by kernel_rfl)]
  exact laidMet_laidAll _ (by kernel_rfl) (by kernel_rfl)
theorem reads (os : Os) {H : Type} (enc : TypeId × Value → H) : ∃ places, DataW.whole enc Tryz.prog ((World.laidAll Tryz.prog os Rows.fsimTreeRow.laid).forCall (fun _ _ => 0) ⟨#[], #[.int .i64 0, .slice none 0 0], []⟩).memory Tryz.f3.params.toList Rows.fsimTreeSpec.vars false #[.int .i64 0, .slice none 0 0].toList 8 = some ([.lit (.int .i64 0), .nil], [], places) :=
  ⟨[], by kernel_rfl⟩

set_option maxRecDepth 100000 in
theorem lifted (os : Os) (started : os.Started) (H : Type) (enc : TypeId × Value → H) (F : Stop.Interp) :
    ReturnsInHanded {} Tryz.checked os 3 .any ((OpenSpec.ofChange Rows.fsimTreeSpec).preRow enc Tryz.prog Tryz.f3 Rows.fsimTreeRow.domain false Rows.fsimTreeRow.laid) (((OpenSpec.ofChange Rows.fsimTreeSpec).at F).post enc Tryz.prog Tryz.f3 false true false false) := by
  obtain ⟨places, hx⟩ := reads os enc
  refine returnsInHanded_of_row (C := Tryz.checked) (s := OpenSpec.ofChange Rows.fsimTreeSpec) own started (by kernel_rfl) Tryz.func3
    (witness_row_at (enc := enc) (C := Tryz.checked) false (World.laidAll Tryz.prog os Rows.fsimTreeRow.laid) #[.int .i64 0, .slice none 0 0] (World.laidAll_os _ _ _) (by kernel_rfl) (by kernel_rfl) (by kernel_rfl)
      (OpenSpec.preRow_of_cond 8 hx (by kernel_rfl) (fun k hk => by cases hk) (by kernel_rfl) (laid_met os))) ?_
  intro W base args ds gs before hval hW _ _ hsz hL hS _
  exact contract H enc W base args ds gs before hval hW hsz hL hS

theorem said : Rows.FsimTreeSaid :=
  OpenClaim.holds_of_cond 3 Tryz.f3 rfl rfl rfl rfl rfl rfl rfl ⟨rfl, rfl, rfl, rfl, rfl⟩ rfl rfl rfl rfl rfl (by kernel_rfl) Tryz.func3 (by kernel_rfl)
    (of_decide_eq_true (by kernel_rfl)) (by unfold Func.isWrapper; first | (rw [if_pos (by decide +kernel)]; kernel_rfl) | (rw [if_neg (by decide +kernel)]; exact ⟨rfl, rfl⟩))
    (fun os started H enc _ F => by rw [OpenClaim.pre_eq_preRow]; exact lifted os started H enc F)

theorem plain (f : FuncId) (fn : Func) (hf : Tryz.pinned.checked.prog.funcNamed "marline/marlaw5.FsimTree" = some f) (hfn : Tryz.pinned.checked.prog.funcs[f]? = some fn) :
    false = Tryz.pinned.checked.prog.looks [] ∧ ∀ (j : Nat) t, fn.params[j]? = some t → Tryz.pinned.checked.prog.wantsStandIn t = false := by
  obtain rfl : f = 3 := Option.some.inj ((show Tryz.prog.funcNamed "marline/marlaw5.FsimTree" = some 3 by kernel_rfl).symm.trans hf) |>.symm
  obtain rfl : fn = Tryz.f3 := (Option.some.inj (Tryz.func3.symm.trans hfn)).symm
  refine ⟨by kernel_rfl, fun j t ht => ?_⟩
  rw [Tryz.params3] at ht
  have hm : t ∈ [3, 22] := by simpa using Array.mem_of_getElem? ht
  simp only [List.mem_cons, List.not_mem_nil, or_false] at hm
  rcases hm with rfl | rfl
  · exact (show Tryz.prog.wantsStandIn 3 = false by kernel_rfl)
  · exact (show Tryz.prog.wantsStandIn 22 = false by kernel_rfl)

/-- The card. -/
theorem card : Rows.FsimTreeCardSaid :=
  Claim7.holds_tied_plain_at .later [] _ _ _ _ said (fun _ h => by cases h) (by kernel_rfl) (fun _ h => by cases h) fsimTree_row_tie rfl ⟨rfl, rfl⟩ (by kernel_rfl) rfl plain (by kernel_rfl)

end Go.Proofs.YtoajnaopainpnaaGreatDoor.fsimTree
