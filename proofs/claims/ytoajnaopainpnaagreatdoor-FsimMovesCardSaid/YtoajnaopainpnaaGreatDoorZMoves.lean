/- marlaw5.FsimMoves: whatever the input, the law returns true, and the input reads as it did: its row's statement and its tied card. Conditions: what the row lists: the library's variables hold what the program's text lays. -/
import Derived.Test.YtoajnaopainpnaaGreatDoorZai
import Derived.Deep.QuietTactic
import Derived.BigQuiet

set_option linter.unusedVariables false
set_option linter.unusedSimpArgs false
set_option linter.unusedSectionVars false

/-! marlaw5.Same: both file systems stand alike where both read as the same. Conditions: what holds of a file system at all times. -/
namespace Go.Proofs.YtoajnaopainpnaaGreatDoor
open Go Go.RowKit
variable [Inhabited BaseW]

theorem evB_length {w : World} {cs : List Value} {e : Ev} (h : IsEvB w cs e) : cs.length = 7 := by
  obtain ⟨v, rfl, -⟩ := h
  rfl
theorem readB_get {w : World} {v : Value} {l : List Ev} (h : ReadB w v l) : ∃ a cap, v = .slice a l.length cap ∧ l.length ≤ cap ∧ l.length ≤ 140737488355328 ∧ cap ≤ 9223372036854775807 ∧
    ∀ (k : Nat) e, l[k]? = some e → ∃ b o cs, a = some ⟨b, o, none⟩ ∧ IsEvB w cs e ∧ ∀ j u, cs[j]? = some u → w.cell? ⟨b, o + k * 7 + j, none⟩ = some u := by
  obtain ⟨css, ⟨a, cap, rfl, h1, h2, h3, h4⟩, he⟩ := h
  refine ⟨a, cap, rfl, h1, h3, h2, fun k e hk => ?_⟩
  have h7 : ∀ c ∈ css, c.length = 7 := fun c hc => by
    obtain ⟨i, hi, rfl⟩ := List.mem_iff_getElem.1 hc
    have hi2 : i < l.length := by rw [← he.1]; exact hi
    exact evB_length (he.2 i css[i] l[i] (List.getElem?_eq_getElem hi) (List.getElem?_eq_getElem hi2))
  have hkl : k < css.length := by rw [he.1]; exact (List.getElem?_eq_some_iff.1 hk).1
  have hev := he.2 k _ e (List.getElem?_eq_getElem hkl) hk
  have hf := fun j u hu => flat_get 7 css k j _ u h7 (List.getElem?_eq_getElem hkl) hu
  obtain ⟨b, o, rfl, hc⟩ := h4 (by
    intro hn
    have h0 : (css[k])[0]? = some ((css[k])[0]'(by rw [evB_length hev]; omega)) := List.getElem?_eq_getElem _
    have := hf 0 _ h0
    rw [hn] at this
    simp at this)
  refine ⟨b, o, css[k], rfl, hev, fun j u hu => ?_⟩
  have := hc _ _ (hf j u hu)
  rwa [Nat.add_assoc, Nat.mul_comm k 7]

set_option maxRecDepth 100000 in
set_option maxHeartbeats 8000000 in
theorem same_any {S O R O' R' : Nat → Prop} {w : World} {f x : Value} {m : Fs} (hf : IsFs S O R w f m) (hx : IsRef O' R' w x m) (hok : OkM m) (ht : m.time ≤ 90000) :
    Calls Tryz.prog 41 #[f, x] w fun e w' => e = .returned (.bool true) ∧ Ext w w' := by
  obtain ⟨hr1, hs1, gf, rfl⟩ := hf.rise
  obtain ⟨gx, rfl⟩ := hx.ptr
  have HF : Hid _ := hf
  have HX : Hid _ := hx
  have HR : Hid _ := hr1
  have HS : Hid _ := hs1
  have HOK : Hid _ := hok
  have hub := used_bound hok (by omega)
  have HUB : Hid _ := hub
  have hln := hok.lnow
  have hlp := hok.lpend
  have hlu := hok.lusers
  obtain ⟨U, hU⟩ : ∃ U, usedF m.now = U := ⟨_, rfl⟩
  have HU : Hid _ := hU
  clear hf hx hr1 hs1 hok hub hU
  go_enter Tryz.func41, Tryz.ntmps41
  go_wp2_with fail
  go_at_call 23
  refine (calls_any HF.out).mono ?_
  rintro e w1 ⟨rfl, rfl⟩
  go_wp2_with fail
  go_at_call 85
  refine (callsR_any HX.out).mono ?_
  rintro e w1 ⟨rfl, rfl⟩
  go_wp2_with fail
  go_at_call 17
  refine (now_any HF.out).mono ?_
  rintro e w1 ⟨rfl, rfl⟩
  go_wp2_with fail
  go_at_call 86
  refine (nowR_any HX.out).mono ?_
  rintro e w1 ⟨rfl, rfl⟩
  go_wp2_with fail
  go_at_call 18
  refine (used_any HF.out (by have := HUB.out; omega)).mono ?_
  rw [HU.out]
  rintro e w1 ⟨rfl, hx1⟩
  go_wp2_with fail
  go_at_call 87
  refine (usedRR_any (IsRef.ext HX.out hx1) (by have := HUB.out; omega)).mono ?_
  rw [HU.out]
  rintro e w2 ⟨rfl, hx2⟩
  have hx02 := hx1.trans hx2
  have HF2 : Hid _ := IsFs.ext HF.out hx02
  have HX2 : Hid _ := IsRef.ext HX.out hx02
  go_wp2_with fail
  go_at_call 24
  refine (pending_any HF2.out HOK.out (by omega)).mono ?_
  rintro e w3 ⟨rfl, rfl⟩
  go_wp2_with fail
  go_at_call 88
  refine (pendingR_any HX2.out (by omega)).mono ?_
  rintro e w3 ⟨rfl, rfl⟩
  go_wp2_with fail
  go_at_call 40
  refine (up_any HF2.out).mono ?_
  rintro e w3 ⟨rfl, rfl⟩
  go_wp2_with fail
  go_at_call 89
  refine (upR_any HX2.out).mono ?_
  rintro e w3 ⟨rfl, rfl⟩
  go_wp2_with fail
  go_at_call 12
  refine (paths_any HF2.out (by omega)).mono ?_
  rintro e w4 ⟨⟨v1, rfl, ho1⟩, hx4⟩
  have hv1 := strs_paths ho1 (by omega)
  obtain ⟨a1, c1, rfl, l1, l2, l3, -⟩ := hv1.get
  have HV1 : Hid _ := hv1
  clear ho1 hv1
  go_wp2_with fail
  go_at_call 90
  refine (pathsR_any (IsRef.ext HX2.out hx4) (by omega)).mono ?_
  rintro e w5 ⟨⟨v2, rfl, hv2⟩, hx5⟩
  obtain ⟨a2, c2, rfl, -⟩ := hv2.get
  have HV2 : Hid _ := hv2
  clear hv2
  go_wp2_with fail
  go_at_call 65
  refine (texts_any _ _ _ _ _ (IsStrs.ext HV1.out hx5) HV2.out).mono ?_
  rw [show (pathsL m.now == pathsL m.now) = true by simp]
  rintro e w6 ⟨rfl, hx6⟩
  have hx26 := (hx4.trans hx5).trans hx6
  have HF6 : Hid _ := IsFs.ext HF2.out hx26
  have HX6 : Hid _ := IsRef.ext HX2.out hx26
  have HIS : Hid _ := IsStrs.ext (IsStrs.ext HV1.out hx5) hx6
  have hpl : (pathsL m.now).length = m.now.length := by simp [pathsL]
  have HPL : Hid _ := hpl
  rw [hpl] at l1 l2 ⊢
  have hx06 := hx02.trans hx26
  have HX06 : Hid _ := hx06
  clear hpl hx4 hx5 hx6 hx26 hx1 hx2 hx02 hx06
  go_wp2_with fail
  go_loopw [6] (fun i wr => ∃ k : Nat, k ≤ m.now.length ∧ i = .int .i64 k ∧ Ext w6 wr) (fun i _ => m.now.length - (intOf i).toNat)
  case atStart => exact ⟨0, Nat.zero_le _, rfl, Ext.refl _⟩
  case round =>
    obtain ⟨k, hk, rfl, hx⟩ := hrel
    by_cases hlt : k < m.now.length
    · obtain ⟨p, hp⟩ : ∃ p, (pathsL m.now)[k]? = some p := ⟨_, List.getElem?_eq_getElem (by rw [HPL.out]; exact hlt)⟩
      obtain ⟨f1, hf1⟩ := paths_get hp
      obtain ⟨_, _, he, -, -, -, hg⟩ := (IsStrs.ext HIS.out hx).get
      cases he
      obtain ⟨bb, oo, rfl, hc⟩ := hg k (by rw [HPL.out]; exact hlt)
      have y1 := hc k (by rw [HPL.out]; exact hlt)
      rw [show (pathsL m.now).getD k [] = p by rw [List.getD_eq_getElem?_getD, hp]; rfl] at y1
      have hps : p.length ≤ 1000000 := HS.out _ (List.mem_of_getElem? hf1)
      have HK1 : Hid _ := peek_at HR.out hf1
      have HA : Hid _ := IsFs.ext HF6.out hx
      have HB : Hid _ := IsRef.ext HX6.out hx
      clear hp hf1 hg hc
      go_wp2_with fail
      go_at_call 13
      refine (peek_any p HA.out hps).mono ?_
      rw [HK1.out]
      rintro e w7 ⟨⟨u1, rfl, hd1⟩, hx7⟩
      obtain ⟨s1, t1, rfl, -⟩ := id hd1.bytes
      have HD1 : Hid _ := hd1
      have HB7 : Hid _ := IsRef.ext HB.out hx7
      have y2 := hx7.cell y1
      clear hd1
      dsimp only
      go_upto_region 10 with fail
      obtain ⟨w8, hw8⟩ : ∃ w8, w8 = w7.alloc (.cells #[.int .i64 f1.mode, .slice s1 f1.data.length t1, .int .i64 f1.time] 30) := ⟨_, rfl⟩
      rw [← hw8]
      have hx8 : Ext w7 w8 := by rw [hw8]; exact (Ext.refl _).alloc _
      have hb8 : w8.heap[w7.heap.size]? = some (.cells #[.int .i64 f1.mode, .slice s1 f1.data.length t1, .int .i64 f1.time] 30 (0, 0)) := by rw [hw8]; exact alloc_at _ _
      have y3 := hx8.cell y2
      clear hw8
      go_wp2_with fail
      go_at_call 91
      refine (peekR_any p (IsRef.ext HB7.out hx8)).mono ?_
      rw [HK1.out]
      rintro e w9 ⟨⟨u2, rfl, hd2⟩, hx9⟩
      obtain ⟨s2, t2, rfl, -⟩ := id hd2.bytes
      have HD2 : Hid _ := hd2
      have hb9 := hx9.row hb8
      clear hd2 hb8
      dsimp only
      go_upto_region 11 with fail
      obtain ⟨wa, hwa⟩ : ∃ wa, wa = w9.alloc (.cells #[.int .i64 f1.mode, .slice s2 f1.data.length t2, .int .i64 f1.time] 92) := ⟨_, rfl⟩
      rw [← hwa]
      have hxa : Ext w9 wa := by rw [hwa]; exact (Ext.refl _).alloc _
      have hba : wa.heap[w9.heap.size]? = some (.cells #[.int .i64 f1.mode, .slice s2 f1.data.length t2, .int .i64 f1.time] 92 (0, 0)) := by rw [hwa]; exact alloc_at _ _
      have hbb := hxa.row hb9
      obtain ⟨x0, x1, x2⟩ := cellsAt3 hbb
      obtain ⟨z0, z1, z2⟩ := cellsAt3 hba
      have hx57 := (hx8.trans hx9).trans hxa
      have HE1 : Hid (IsBytes wa (.slice s1 f1.data.length t1) f1.data) := (IsData.ext HD1.out hx57).bytes
      have HE2 : Hid (IsBytes wa (.slice s2 f1.data.length t2) f1.data) := (IsData.ext HD2.out hxa).bytes
      have HXR : Hid _ := (hx.trans hx7).trans hx57
      clear hwa hb9 hba hbb hx57 hxa hx9 hx8 hx7 y1 y2 y3
      go_wp2_with fail
      go_at_call 62
      refine (file_same f1 _ _ _ HE1.out HE2.out).mono ?_
      rintro e wb ⟨rfl, hxb⟩
      go_wp2
      go_roundw
      case rel => exact ⟨k + 1, by omega, by go_num, Ext.trans HXR.out hxb⟩
      case measure => simp [intOf]; omega
    · have HA : Hid _ := IsFs.ext HF6.out hx
      have HB : Hid _ := IsRef.ext HX6.out hx
      have HX0 : Hid _ := Ext.trans HX06.out hx
      clear hx
      go_wp2_with fail
      go_at_call 19
      refine (user_any HA.out (by omega)).mono ?_
      rintro e w7 ⟨⟨v3, rfl, ho3⟩, hx7⟩
      have hu3 := (OwnE.readL ho3 (by omega)).read
      obtain ⟨a3, c3, rfl, q1, q2, q3, -⟩ := readB_get hu3
      have HU3 : Hid _ := hu3
      clear ho3 hu3
      go_wp2_with fail
      go_at_call 92
      refine (userR_any (IsRef.ext HB.out hx7) (by omega)).mono ?_
      rintro e w8 ⟨⟨v4, rfl, hu4⟩, hx8⟩
      obtain ⟨a4, c4, rfl, r1, r2, r3, -⟩ := readB_get hu4
      have HU4 : Hid _ := hu4
      have HU5 : Hid _ := ReadB.ext HU3.out hx8
      have HX8 : Hid _ := Ext.trans (Ext.trans HX0.out hx7) hx8
      clear hu4 hx7 hx8
      go_wp2_with fail
      go_loopw [13] (fun i wr => ∃ k : Nat, k ≤ m.users.length ∧ i = .int .i64 k ∧ Ext w8 wr) (fun i _ => m.users.length - (intOf i).toNat)
      case atStart => exact ⟨0, Nat.zero_le _, rfl, Ext.refl _⟩
      case round =>
        obtain ⟨n, hn, rfl, hx⟩ := hrel
        by_cases hlt2 : n < m.users.length
        · obtain ⟨E, he⟩ : ∃ e, m.users[n]? = some e := ⟨_, List.getElem?_eq_getElem hlt2⟩
          obtain ⟨_, _, he5, -, -, -, g5⟩ := readB_get (ReadB.ext HU5.out hx)
          cases he5
          obtain ⟨_, _, he4, -, -, -, g4⟩ := readB_get (ReadB.ext HU4.out hx)
          cases he4
          obtain ⟨b5, o5, cs5, rfl, ⟨d5, rfl, hd5, -⟩, k5⟩ := g5 n E he
          obtain ⟨b4, o4, cs4, rfl, ⟨d4, rfl, hd4, -⟩, k4⟩ := g4 n E he
          have x0 := k5 0 _ rfl
          have x1 := k5 1 _ rfl
          have x2 := k5 2 _ rfl
          have x5 := k5 5 _ rfl
          have x6 := k5 6 _ rfl
          have y0 := k4 0 _ rfl
          have y1 := k4 1 _ rfl
          have y2 := k4 2 _ rfl
          have y5 := k4 5 _ rfl
          have y6 := k4 6 _ rfl
          simp only [Nat.add_zero] at x0 y0
          have HBY : Hid (∀ j, Calls Tryz.prog 35 #[d5, d4] (wr.drewN j) fun e w' => e = .returned (.bool true) ∧ w' = wr.drewN j) := fun j => by
            have := bytesEq_any d5 d4 E.data E.data (wr.drewN j) (IsBytes.ext hd5 (Ext.drawn _ _)) (IsBytes.ext hd4 (Ext.drawn _ _))
            rwa [show (E.data == E.data) = true by simp] at this
          have HXX : Hid _ := hx
          clear hd5 hd4 k5 k4 g5 g4 he hx
          go_upto_region 19 with fail
          go_quiet (first | (go_at_call 35; exact Calls.quiet_of_same (HBY.out _)))
          go_wp2
          go_roundw
          case rel => exact ⟨n + 1, by omega, by go_num, Ext.trans HXX.out (Ext.drawn _ _)⟩
          case measure => simp [intOf]; omega
        · go_wp2
          go_ret
          exact ⟨rfl, Ext.trans HX8.out hx⟩

end Go.Proofs.YtoajnaopainpnaaGreatDoor

/-! marlaw5.FsimMoves: true at any room, any operations, any two paths. Conditions: as each theorem states. -/
namespace Go.Proofs.YtoajnaopainpnaaGreatDoor
open Go Go.RowKit
variable [Inhabited BaseW]

set_option maxRecDepth 100000 in
set_option maxHeartbeats 16000000 in
theorem moves_any (room : Int) (v : Value) (l : List Opn) (a b : B8) (only : Bool) (w : World) (hb : Ext baseW w) (hE : Env w) (hv : IsOps w v l) (hi : ∀ o ∈ l, I64 o.keep ∧ I64 o.torn ∧ ∀ e ∈ o.plan, I64 e.keep ∧ I64 e.torn) :
    Calls Tryz.prog 6 #[.int .i64 room, v, S8 a, S8 b, .bool only] w fun e w' => e = .returned (.bool true) ∧ Ext w w' := by
  obtain ⟨a0, cap, rfl, h1, h2, h3, -⟩ := ops_cells hv
  have HV : Hid _ := hv
  have HI : Hid _ := hi
  have HE : Hid _ := hE
  have HB : Hid _ := hb
  clear hv hi hE hb
  go_enter Tryz.func6, Tryz.ntmps6
  go_wp2_with fail
  go_at_call 10
  refine (first_any w HE.out).mono ?_
  rintro e w1 ⟨rfl, hx1⟩
  have HE1 : Hid _ := HE.out.ext hx1
  go_wp2_with fail
  go_at_call 11
  refine (played_any room _ l w1 (Ext.trans HB.out hx1) HE1.out (IsOps.ext HV.out hx1) HI.out).mono ?_
  rintro e w2 ⟨hr, hx2⟩
  have HE2 : Hid _ := HE1.out.ext hx2
  have hx02 := hx1.trans hx2
  rcases hr with rfl | ⟨g, S, O, rfl, hOne, hG, hF, hR⟩
  · go_wp2_with fail
    go_at_call 10
    refine (first_any _ HE2.out).mono ?_
    rintro e wz ⟨rfl, hxz⟩
    go_wp2
    go_ret
    exact ⟨rfl, hx02.trans hxz⟩
  · obtain ⟨m, hm⟩ : ∃ m, playM room l = m := ⟨_, rfl⟩
    rw [hm] at hOne hG hF hR
    have HP0 : Hid (Pile w w2 [(0, .fs (.pointer (some ⟨g, 0, none⟩)) m)]) := Pile.base (Pile.one hOne 0) hx1
    have HX02 : Hid _ := hx02
    have HG : Hid _ := hG
    have HF : Hid _ := hF
    clear hm hOne hG hF hR hx1 hx2 hx02
    by_cases ha : (400 : Int) < (a.length : Int)
    · go_wp2_with fail
      go_at_call 10
      refine (first_any _ HE2.out).mono ?_
      rintro e wz ⟨rfl, hxz⟩
      go_wp2
      go_ret
      exact ⟨rfl, Ext.trans HX02.out hxz⟩
    by_cases hb : (400 : Int) < (b.length : Int)
    · go_wp2_with fail
      go_at_call 10
      refine (first_any _ HE2.out).mono ?_
      rintro e wz ⟨rfl, hxz⟩
      go_wp2
      go_ret
      exact ⟨rfl, Ext.trans HX02.out hxz⟩
    obtain ⟨S0, O0, hO0, -, hbk⟩ := Pile.post HP0.out 0 (f := (.pointer (some ⟨g, 0, none⟩))) (m := m) (by simp)
    go_wp2_with fail
    go_at_call 27
    refine (plan_any hO0.fs (fun k hk => (hO0.lo k hk).2) (readB_nil _) (Nat.zero_le _)).mono ?_
    rintro e w3 ⟨rfl, hf3, hfr3⟩
    have HP3 : Hid (Pile w w3 [(0, .fs (.pointer (some ⟨g, 0, none⟩)) (planM m []))]) := hbk _ _ _ hf3 hfr3 (by intro y hy; simp only [List.mem_cons, List.not_mem_nil, or_false] at hy ⊢; rcases hy with rfl <;> simp)
    clear hf3 hfr3 hbk hO0
    obtain ⟨S0, O0, hO0, hbk, -⟩ := Pile.post HP3.out 0 (f := (.pointer (some ⟨g, 0, none⟩))) (m := planM m []) (by simp)
    go_wp2_with fail
    go_at_call 28
    refine (reboot_any hO0.fs).mono ?_
    rintro e w4 ⟨rfl, h4⟩
    have HP4 : Hid (Pile w w4 [(0, .fs (.pointer (some ⟨g, 0, none⟩)) (rebootM (planM m [])))]) := hbk _ _ _ h4 (by intro y hy; simp only [List.mem_cons, List.not_mem_nil, or_false] at hy ⊢; rcases hy with rfl <;> simp)
    clear h4 hbk hO0
    have HG2 : Hid (Good 100 (rebootM (planM m []))) := good_reboot (good_plan HG.out (L := []) (Nat.zero_le _) (fun e he => by cases he))
    have HF2 : Hid (FineM (rebootM (planM m []))) := FineM.same (m' := rebootM (planM m [])) HF.out rfl rfl rfl rfl rfl
    have hp2 : (rebootM (planM m [])).plan = [] := rfl
    have hd2 : (rebootM (planM m [])).down = false := rfl
    generalize rebootM (planM m []) = m2 at *
    have HPL : Hid _ := hp2
    have HDN : Hid _ := hd2
    have htm := HG2.out.time
    have hcl := HG2.out.calls
    have hln := HG2.out.ok.lnow
    clear hp2 hd2
    obtain ⟨S0, O0, hO0, -⟩ := Pile.post HP4.out 0 (f := (.pointer (some ⟨g, 0, none⟩))) (m := m2) (by simp)
    go_wp2_with fail
    go_at_call 30
    refine (copy_any hO0.fs HG2.out.ok (by omega) (by omega)).mono ?_
    rintro e w5 ⟨⟨p', S', O9, rfl, hf', hS', hO'⟩, hx5⟩
    obtain ⟨-, -, g5, rfl⟩ := hf'.rise
    have HP5 : Hid (Pile w w5 [(1, .fs (.pointer (some ⟨g5, 0, none⟩)) m2), (0, .fs (.pointer (some ⟨g, 0, none⟩)) m2)]) := Pile.addCopy HP4.out 1 (by simp) hx5 hf' hS' hO'
    clear hf' hS' hO' hx5 hO0
    obtain ⟨⟨fx, there⟩, hpk⟩ : ∃ q, peekM m2 a = q := ⟨_, rfl⟩
    have HK1 : Hid _ := hpk
    have HTH : Hid (there = (look m2.now a).isSome) := by unfold Hid; rw [← peek_some, hpk]
    clear hpk
    obtain ⟨⟨fb, stood⟩, hpk⟩ : ∃ q, peekM m2 b = q := ⟨_, rfl⟩
    have HK2 : Hid _ := hpk
    have HST : Hid (stood = (look m2.now b).isSome) := by unfold Hid; rw [← peek_some, hpk]
    clear hpk
    obtain ⟨S0, O0, hO0, -⟩ := Pile.post HP5.out 0 (f := (.pointer (some ⟨g, 0, none⟩))) (m := m2) (by simp)
    go_wp2_with fail
    go_at_call 13
    refine (peek_any a hO0.fs (by omega)).mono ?_
    rw [HK1.out]
    rintro e w6 ⟨⟨u1, rfl, hdu1⟩, hxw6⟩
    obtain ⟨su1, tu1, rfl, -⟩ := id hdu1.bytes
    have HDu1 : Hid _ := hdu1
    clear hdu1
    dsimp only
    go_upto_region 10 with fail
    obtain ⟨w7, hww7⟩ : ∃ wq, wq = w6.alloc (.cells #[.int .i64 fx.mode, .slice su1 fx.data.length tu1, .int .i64 fx.time] 30) := ⟨_, rfl⟩
    rw [← hww7]
    have hxw7 : Ext w6 w7 := by rw [hww7]; exact (Ext.refl _).alloc _
    have hbw7 : w7.heap[w6.heap.size]? = some (.cells #[.int .i64 fx.mode, .slice su1 fx.data.length tu1, .int .i64 fx.time] 30 (0, 0)) := by rw [hww7]; exact alloc_at _ _
    have HBw7 : Hid _ := hbw7
    have HXAw7 : Hid _ := hxw6
    have HXBw7 : Hid _ := hxw7
    have HXw7 : Hid _ := Ext.trans hxw6 hxw7
    clear hww7 hbw7 hxw6 hxw7
    have HP7 : Hid (Pile w w7 [(2, .blk w6.heap.size (.cells #[.int .i64 fx.mode, .slice su1 fx.data.length tu1, .int .i64 fx.time] 30 (0, 0))), (3, .dat (.slice su1 fx.data.length tu1) fx.data), (1, .fs (.pointer (some ⟨g5, 0, none⟩)) m2), (0, .fs (.pointer (some ⟨g, 0, none⟩)) m2)]) := Pile.addFile HP5.out 2 3 (by decide) (by simp) HXAw7.out HDu1.out HXBw7.out HBw7.out (Array.getElem?_eq_some_iff.1 HBw7.out).1
    clear hO0
    obtain ⟨S0, O0, hO0, -⟩ := Pile.post HP7.out 0 (f := (.pointer (some ⟨g, 0, none⟩))) (m := m2) (by simp)
    go_wp2_with fail
    go_at_call 13
    refine (peek_any b hO0.fs (by omega)).mono ?_
    rw [HK2.out]
    rintro e w8 ⟨⟨u2, rfl, hdu2⟩, hxw8⟩
    obtain ⟨su2, tu2, rfl, -⟩ := id hdu2.bytes
    have HDu2 : Hid _ := hdu2
    clear hdu2
    dsimp only
    go_upto_region 11 with fail
    obtain ⟨w9, hww9⟩ : ∃ wq, wq = w8.alloc (.cells #[.int .i64 fb.mode, .slice su2 fb.data.length tu2, .int .i64 fb.time] 30) := ⟨_, rfl⟩
    rw [← hww9]
    have hxw9 : Ext w8 w9 := by rw [hww9]; exact (Ext.refl _).alloc _
    have hbw9 : w9.heap[w8.heap.size]? = some (.cells #[.int .i64 fb.mode, .slice su2 fb.data.length tu2, .int .i64 fb.time] 30 (0, 0)) := by rw [hww9]; exact alloc_at _ _
    have HBw9 : Hid _ := hbw9
    have HXAw9 : Hid _ := hxw8
    have HXBw9 : Hid _ := hxw9
    have HXw9 : Hid _ := Ext.trans hxw8 hxw9
    clear hww9 hbw9 hxw8 hxw9
    have HP9 : Hid (Pile w w9 [(2, .blk w6.heap.size (.cells #[.int .i64 fx.mode, .slice su1 fx.data.length tu1, .int .i64 fx.time] 30 (0, 0))), (3, .dat (.slice su1 fx.data.length tu1) fx.data), (1, .fs (.pointer (some ⟨g5, 0, none⟩)) m2), (0, .fs (.pointer (some ⟨g, 0, none⟩)) m2)]) := Pile.more HP7.out HXw9.out
    clear hO0
    obtain ⟨S0, O0, hO0, hbk, -⟩ := Pile.post HP9.out 0 (f := (.pointer (some ⟨g, 0, none⟩))) (m := m2) (by simp)
    obtain ⟨er, her⟩ : ∃ er, (moveM m2 a b only).2 = er := ⟨_, rfl⟩
    obtain ⟨m3, hm3⟩ : ∃ m3, (moveM m2 a b only).1 = m3 := ⟨_, rfl⟩
    have HNOE : Hid (er ≠ 0 → m3.now = m2.now ∧ (er = 8 → only = true ∧ stood = true) ∧ (er = 7 → there = false)) := fun h => by
      rw [← her] at h
      have h9 := move_no HPL.out HDN.out h
      rw [her, hm3] at h9
      rw [HTH.out, HST.out]
      exact ⟨by rw [h9.1], h9.2.1, h9.2.2⟩
    have HYES : Hid (er = 0 → ∃ x, look m2.now a = some x ∧ look m3.now b = some x ∧ (only = true → look m2.now b = none) ∧ (look m3.now a).isSome = (a == b) ∧ usedF m3.now ≤ usedF m2.now) := fun h => by
      rw [← her] at h
      have h9 := move_yes HPL.out HDN.out (HF2.out.now HG2.out.ok).rise h
      rw [hm3] at h9
      exact h9
    have HSTO : Hid (er = 0 → only = true → stood = false) := fun h ho => by
      obtain ⟨x, -, -, h3, -⟩ := HYES.out h
      rw [HST.out, h3 ho]
      rfl
    have HLEFT : Hid (Good 101 m3) := by
      rw [← hm3]
      exact HG2.out.left (left_moveN HG2.out.ok HG2.out.few) (by rw [move_calls]; have := (call_leftN HG2.out.ok HG2.out.few).2; omega)
    have HER : Hid _ := her
    have HM3 : Hid _ := hm3
    have htm3 := HLEFT.out.time
    have hln3 := HLEFT.out.ok.lnow
    clear her hm3
    have HMV : Hid (only = false → Calls Tryz.prog 38 #[.pointer (some ⟨g, 0, none⟩), S8 a, S8 b] w9 fun e w' => e = .returned (.int .i64 er) ∧ Pile w w' [(2, .blk w6.heap.size (.cells #[.int .i64 fx.mode, .slice su1 fx.data.length tu1, .int .i64 fx.time] 30 (0, 0))), (3, .dat (.slice su1 fx.data.length tu1) fx.data), (1, .fs (.pointer (some ⟨g5, 0, none⟩)) m2), (0, .fs (.pointer (some ⟨g, 0, none⟩)) m3)]) := fun h => by
      have h9 := move_any a b (One.fin hO0 HE.out HG2.out (by omega)) (by omega) (by omega)
      rw [← h, HER.out, HM3.out] at h9
      exact h9.mono (fun e w' ⟨he, hp⟩ => ⟨he, hbk _ _ _ hp (by intro y hy; simp only [List.mem_cons, List.not_mem_nil, or_false] at hy ⊢; rcases hy with rfl | rfl | rfl | rfl <;> simp)⟩)
    have HMN : Hid (only = true → Calls Tryz.prog 37 #[.pointer (some ⟨g, 0, none⟩), S8 a, S8 b] w9 fun e w' => e = .returned (.int .i64 er) ∧ Pile w w' [(2, .blk w6.heap.size (.cells #[.int .i64 fx.mode, .slice su1 fx.data.length tu1, .int .i64 fx.time] 30 (0, 0))), (3, .dat (.slice su1 fx.data.length tu1) fx.data), (1, .fs (.pointer (some ⟨g5, 0, none⟩)) m2), (0, .fs (.pointer (some ⟨g, 0, none⟩)) m3)]) := fun h => by
      have h9 := moveNew_any a b (One.fin hO0 HE.out HG2.out (by omega)) (by omega) (by omega)
      rw [← h, HER.out, HM3.out] at h9
      exact h9.mono (fun e w' ⟨he, hp⟩ => ⟨he, hbk _ _ _ hp (by intro y hy; simp only [List.mem_cons, List.not_mem_nil, or_false] at hy ⊢; rcases hy with rfl | rfl | rfl | rfl <;> simp)⟩)
    clear hbk hO0
    have go_no : True := trivial
    cases only
    case' false => (go_wp2_with fail; go_at_call 38; refine (HMV.out (by first | rfl | trivial)).mono ?_)
    case' true => (go_wp2_with fail; go_at_call 37; refine (HMN.out (by first | rfl | trivial)).mono ?_)
    all_goals
      rintro e wa ⟨rfl, hpa⟩
      have HPa : Hid (Pile w wa [(2, .blk w6.heap.size (.cells #[.int .i64 fx.mode, .slice su1 fx.data.length tu1, .int .i64 fx.time] 30 (0, 0))), (3, .dat (.slice su1 fx.data.length tu1) fx.data), (1, .fs (.pointer (some ⟨g5, 0, none⟩)) m2), (0, .fs (.pointer (some ⟨g, 0, none⟩)) m3)]) := hpa
      have HEa : Hid _ := HE.out.ext hpa.ext
      clear hpa go_no
      by_cases he : er = 0
      · subst he
        obtain ⟨x, hxa, hxb, hxo, hxs, hxu⟩ := HYES.out rfl
        have hpx := (peek_of hxa).symm.trans HK1.out
        obtain ⟨hfx, hth⟩ := Prod.mk.inj hpx
        subst hfx hth
        have HK3 : Hid _ := peek_of hxb
        obtain ⟨⟨fz, st⟩, hpk⟩ : ∃ q, peekM m3 a = q := ⟨_, rfl⟩
        have HK4 : Hid _ := hpk
        have HAB : Hid ((a == b) = st) := by unfold Hid; rw [← hxs, ← peek_some, hpk]
        have HU : Hid _ := hxu
        clear hpk hxs hxu hpx hxo hxa hxb
        obtain ⟨S1, O1, hO1, -⟩ := Pile.post HPa.out 0 (f := (.pointer (some ⟨g, 0, none⟩))) (m := m3) (by simp)
        go_wp2_with fail
        go_at_call 13
        refine (peek_any b hO1.fs (by omega)).mono ?_
        rw [HK3.out]
        rintro e wb ⟨⟨u3, rfl, hdu3⟩, hxwb⟩
        obtain ⟨su3, tu3, rfl, -⟩ := id hdu3.bytes
        have HDu3 : Hid _ := hdu3
        clear hdu3
        dsimp only
        go_upto_region 18 with fail
        obtain ⟨wc, hwwc⟩ : ∃ wq, wq = wb.alloc (.cells #[.int .i64 x.mode, .slice su3 x.data.length tu3, .int .i64 x.time] 30) := ⟨_, rfl⟩
        rw [← hwwc]
        have hxwc : Ext wb wc := by rw [hwwc]; exact (Ext.refl _).alloc _
        have hbwc : wc.heap[wb.heap.size]? = some (.cells #[.int .i64 x.mode, .slice su3 x.data.length tu3, .int .i64 x.time] 30 (0, 0)) := by rw [hwwc]; exact alloc_at _ _
        have HBwc : Hid _ := hbwc
        have HXAwc : Hid _ := hxwb
        have HXBwc : Hid _ := hxwc
        have HXwc : Hid _ := Ext.trans hxwb hxwc
        clear hwwc hbwc hxwb hxwc
        have HPc : Hid (Pile w wc [(2, .blk w6.heap.size (.cells #[.int .i64 x.mode, .slice su1 x.data.length tu1, .int .i64 x.time] 30 (0, 0))), (3, .dat (.slice su1 x.data.length tu1) x.data), (1, .fs (.pointer (some ⟨g5, 0, none⟩)) m2), (0, .fs (.pointer (some ⟨g, 0, none⟩)) m3)]) := Pile.more HPa.out HXwc.out
        clear hO1
        obtain ⟨S1, O1, hO1, -⟩ := Pile.post HPc.out 0 (f := (.pointer (some ⟨g, 0, none⟩))) (m := m3) (by simp)
        go_wp2_with fail
        go_at_call 13
        refine (peek_any a hO1.fs (by omega)).mono ?_
        rw [HK4.out]
        rintro e wd ⟨⟨u4, rfl, hdu4⟩, hxwd⟩
        obtain ⟨su4, tu4, rfl, -⟩ := id hdu4.bytes
        have HDu4 : Hid _ := hdu4
        clear hdu4
        dsimp only
        go_upto_region 19 with fail
        obtain ⟨we, hwwe⟩ : ∃ wq, wq = wd.alloc (.cells #[.int .i64 fz.mode, .slice su4 fz.data.length tu4, .int .i64 fz.time] 30) := ⟨_, rfl⟩
        rw [← hwwe]
        have hxwe : Ext wd we := by rw [hwwe]; exact (Ext.refl _).alloc _
        have hbwe : we.heap[wd.heap.size]? = some (.cells #[.int .i64 fz.mode, .slice su4 fz.data.length tu4, .int .i64 fz.time] 30 (0, 0)) := by rw [hwwe]; exact alloc_at _ _
        have HBwe : Hid _ := hbwe
        have HXAwe : Hid _ := hxwd
        have HXBwe : Hid _ := hxwe
        have HXwe : Hid _ := Ext.trans hxwd hxwe
        clear hwwe hbwe hxwd hxwe
        have HPe : Hid (Pile w we [(2, .blk w6.heap.size (.cells #[.int .i64 x.mode, .slice su1 x.data.length tu1, .int .i64 x.time] 30 (0, 0))), (3, .dat (.slice su1 x.data.length tu1) x.data), (1, .fs (.pointer (some ⟨g5, 0, none⟩)) m2), (0, .fs (.pointer (some ⟨g, 0, none⟩)) m3)]) := Pile.more HPc.out HXwe.out
        clear hO1
        go_wp2_with fail
        go_at_call 10
        refine (first_any _ (HE.out.ext HPe.out.ext)).mono ?_
        rintro e wf ⟨rfl, hxf⟩
        have HPf : Hid (Pile w wf [(2, .blk w6.heap.size (.cells #[.int .i64 x.mode, .slice su1 x.data.length tu1, .int .i64 x.time] 30 (0, 0))), (3, .dat (.slice su1 x.data.length tu1) x.data), (1, .fs (.pointer (some ⟨g5, 0, none⟩)) m2), (0, .fs (.pointer (some ⟨g, 0, none⟩)) m3)]) := Pile.more HPe.out hxf
        have hbx : wf.heap[w6.heap.size]? = some (.cells #[.int .i64 x.mode, .slice su1 x.data.length tu1, .int .i64 x.time] 30 (0, 0)) := Pile.blk HPf.out 2 (by simp)
        obtain ⟨x0, x1, x2⟩ := cellsAt3 hbx
        have HDX : Hid (IsBytes wf (.slice su1 x.data.length tu1) x.data) := Pile.dat HPf.out 3 (by simp)
        have hxcf := Ext.trans HXwe.out hxf
        obtain ⟨y0, y1, y2⟩ := cellsAt3 (hxcf.row HBwc.out)
        have HYD : Hid _ := (IsData.ext (IsData.ext HDu3.out HXBwc.out) hxcf).bytes
        have hab := HAB.out
        clear hxcf hxf hbx
        have hst := HSTO.out (by first | rfl | trivial)
        first
          | (have hs9 := hst (by first | rfl | trivial); subst hs9)
          | clear hst
        go_wp2_with fail
        go_at_call 35
        refine (bytesEq_any _ _ _ _ _ HDX.out HYD.out).mono ?_
        rw [beq_self_eq_true]
        rintro e wg ⟨rfl, rfl⟩
        obtain ⟨S1, O1, hO1, -⟩ := Pile.post HPf.out 0 (f := (.pointer (some ⟨g, 0, none⟩))) (m := m3) (by simp)
        obtain ⟨S2, O2, hO2, -⟩ := Pile.post HPf.out 1 (f := (.pointer (some ⟨g5, 0, none⟩))) (m := m2) (by simp)
        have hub3 := used_bound HLEFT.out.ok (by omega)
        have hub2 := used_bound HG2.out.ok (by omega)
        have huu := HU.out
        obtain ⟨U3, hU3⟩ : ∃ U, usedF m3.now = U := ⟨_, rfl⟩
        obtain ⟨U2, hU2⟩ : ∃ U, usedF m2.now = U := ⟨_, rfl⟩
        have HU3 : Hid _ := hU3
        have HU2 : Hid _ := hU2
        rw [hU3] at hub3 huu
        rw [hU2] at hub2 huu
        clear hU3 hU2
        go_wp2_with fail
        go_at_call 18
        refine (used_any hO1.fs (by rw [HU3.out]; omega)).mono ?_
        rw [HU3.out]
        rintro e wh ⟨rfl, hxh⟩
        go_wp2_with fail
        go_at_call 18
        refine (used_any (IsFs.ext hO2.fs hxh) (by rw [HU2.out]; omega)).mono ?_
        rw [HU2.out]
        rintro e wi ⟨rfl, hxi⟩
        have huz : (U3 : Int) ≤ (U2 : Int) := by omega
        have hxz := (HPf.out.ext.trans hxh).trans hxi
        go_wp2
        go_ret
        exact ⟨rfl, hxz⟩
      · obtain ⟨hnow, h8, h7⟩ := HNOE.out he
        have heb : (er == 0) = false := by simpa using he
        go_wp2_with fail
        go_at_call 10
        refine (first_any _ HEa.out).mono ?_
        rintro e wb ⟨rfl, hxb⟩
        have HPb : Hid _ := Pile.more HPa.out hxb
        obtain ⟨S1, O1, hO1, -⟩ := Pile.post HPb.out 0 (f := (.pointer (some ⟨g, 0, none⟩))) (m := m3) (by simp)
        obtain ⟨S2, O2, hO2, -⟩ := Pile.post HPb.out 1 (f := (.pointer (some ⟨g5, 0, none⟩))) (m := m2) (by simp)
        go_wp2_with fail
        go_at_call 33
        refine (alike_any hO1.fs hO2.fs (by omega) (by omega)).mono ?_
        rintro e wc ⟨⟨r, rfl, hr⟩, hxc⟩
        obtain rfl : r = true := hr.2 hnow
        have HXZ : Hid _ := hO1.ext.trans hxc
        have H7 : Hid _ := h7
        have H8 : Hid _ := h8
        clear hO1 hO2 hr hnow hxc hxb htm htm3 hcl hln hln3 h7 h8 ha hb h1 h2 h3 heb
        by_cases e8 : er = 8
        · first
            | exact absurd (H8.out e8).1 (by decide)
            | (have hs := (H8.out e8).2
               subst hs
               have b8 : (er != 8) = false := by rw [e8]; rfl
               have b7 : (er != 7) = true := by rw [e8]; rfl
               clear e8 he
               go_wp2
               go_ret
               exact ⟨rfl, HXZ.out⟩)
        · have b8 : (er != 8) = true := by simpa using e8
          by_cases e7 : er = 7
          · have ht := H7.out e7
            subst ht
            have b7 : (er != 7) = false := by rw [e7]; rfl
            clear e7 e8 he
            go_wp2
            go_ret
            exact ⟨rfl, HXZ.out⟩
          · have b7 : (er != 7) = true := by simpa using e7
            clear e7 e8 he
            go_wp2
            go_ret
            exact ⟨rfl, HXZ.out⟩

end Go.Proofs.YtoajnaopainpnaaGreatDoor

/-! marlaw5.FsimMoves: whatever the input, the law returns true, and the input reads as it did: its row's statement and its tied card. Conditions: what the row lists: the library's variables hold what the program's text lays. -/
namespace Go.Proofs.YtoajnaopainpnaaGreatDoor.fsimMoves
open Go Go.ChangeShapes Go.WideShapes Go.ChangeAt Go.RowKit Go.Deep

set_option maxRecDepth 100000 in
theorem contract (H : Type) (enc : TypeId × Value → H) (W : World) (base : Nat) (args : Array Value) (ds gs : List (DataW H)) (before : List MemPlace)
    (hval : ∀ (j : Nat) t v, Tryz.f6.params[j]? = some t → args[j]? = some v → Value.okWide Tryz.prog W .any base t v)
    (hW : DataW.Whole enc Tryz.prog Tryz.f6.params.toList Rows.fsimMovesSpec.vars false W args.toList ds gs before)
    (hsz : (DataW.weightsEach Tryz.prog (Tryz.f6.params.toList ++ (OpenSpec.ofChange Rows.fsimMovesSpec).bare.plain.varTypes Tryz.prog) (ds ++ gs)).all (· ≤ reachBytes) = true)
    (hL : laidMetH Tryz.prog Rows.fsimMovesRow.laid W) (hS : W.ShapedOpen Tryz.prog) :
    Calls Tryz.prog 6 args W fun e W' => ∃ v, e = .returned v ∧ Rows.fsimMovesSpec.post enc Tryz.prog Tryz.f6 false true false false W args v W' := by
  have hW' := hW
  obtain ⟨p, q, hA0, hV, rfl, hfz, hnd⟩ := hW
  have hA : DataW.TrodAll enc Tryz.prog W 0 (fun _ => true) true Tryz.f6.params.toList args.toList ds p := hA0
  obtain ⟨rfl, rfl⟩ := trodVars_none hV
  clear hA0
  simp only [List.append_nil] at hW'
  have hE : Env W := env_of hS
  letI : Inhabited BaseW := ⟨⟨W⟩⟩
  have hBW : baseW = W := rfl
  have hBE : Ext baseW W := Ext.refl W
  have hAll := hA
  have hlt : ∀ x ∈ p, x.block < W.heap.size := fun x hx => by simpa using hW'.lt x (by simpa using hx)
  rw [Tryz.params6] at hA hval hsz
  obtain ⟨v0, vs0, d0, ds0, p0, q0, ha0, hd0, hp0, h0, hA⟩ := trodAll_cons hA
  obtain ⟨v1, vs1, d1, ds1, p1, q1, ha1, hd1, hp1, h1, hA⟩ := trodAll_cons hA
  obtain ⟨v2, vs2, d2, ds2, p2, q2, ha2, hd2, hp2, h2, hA⟩ := trodAll_cons hA
  obtain ⟨v3, vs3, d3, ds3, p3, q3, ha3, hd3, hp3, h3, hA⟩ := trodAll_cons hA
  obtain ⟨v4, vs4, d4, ds4, p4, q4, ha4, hd4, hp4, h4, hA⟩ := trodAll_cons hA
  obtain ⟨hn0, hn1, hn2⟩ := trodAll_nil hA
  subst hn0 hn1 hn2
  subst hp4 hd4 ha4
  subst hp3 hd3 ha3
  subst hp2 hd2 ha2
  subst hp1 hd1 ha1
  subst hp0 hd0
  obtain rfl : args = #[v0, v1, v2, v3, v4] := by cases args; simp_all
  clear ha0
  have hv0 := hval 0 3 v0 rfl rfl
  obtain ⟨n, rfl, -, -, hw0⟩ := open_int Tryz.underlying3 hv0 h0
  have hn : I64 n := i64_wf hw0
  have hv1 := hval 1 22 v1 rfl rfl
  obtain ⟨l, hl, hil⟩ := arg_ops (j := 1) hBW hv1 h1 hsz rfl rfl
  have hv2 := hval 2 9 v2 rfl rfl
  obtain ⟨a, rfl⟩ : ∃ l : B8, v2 = S8 l := by obtain ⟨s, rfl⟩ := okWide_string Tryz.underlying9 hv2; exact ⟨s.data.toList, rfl⟩
  have hv3 := hval 3 9 v3 rfl rfl
  obtain ⟨b, rfl⟩ : ∃ l : B8, v3 = S8 l := by obtain ⟨s, rfl⟩ := okWide_string Tryz.underlying9 hv3; exact ⟨s.data.toList, rfl⟩
  have hv4 := hval 4 4 v4 rfl rfl
  obtain ⟨o, rfl⟩ := okWide_bool Tryz.underlying4 hv4
  refine (moves_any n v1 l a b o W hBE hE hl hil).mono fun e W' ⟨he, hg⟩ => ?_
  subst he
  have harg := trodAll_below laidOut hg hAll hlt (by rw [Tryz.params6]; exact fun t ht => by simp only [List.mem_cons, List.not_mem_nil, or_false] at ht; rcases ht with rfl | rfl | rfl | rfl | rfl <;> exact ⟨by kernel_rfl, of_decide_eq_true (by kernel_rfl)⟩)
  exact ⟨_, rfl, _, _, _, [], _, [], hW', trodAll_mk1 (shut_bool Tryz.underlying4 _), harg, rfl, hg.frame _, fun h => by cases h⟩

theorem laid_met (os : Os) : laidMetH Tryz.prog Rows.fsimMovesRow.laid ((World.laidAll Tryz.prog os Rows.fsimMovesRow.laid).forCall (fun _ _ => 0) ⟨#[], #[.int .i64 0, .slice none 0 0, .string ⟨#[]⟩, .string ⟨#[]⟩, .bool false], []⟩).memory := by
  rw [MakeChecks.laidMetH_plain _ _ _ (by kernel_rfl)]
  exact laidMet_laidAll _ (by kernel_rfl) (by kernel_rfl)
theorem reads (os : Os) {H : Type} (enc : TypeId × Value → H) : ∃ places, DataW.whole enc Tryz.prog ((World.laidAll Tryz.prog os Rows.fsimMovesRow.laid).forCall (fun _ _ => 0) ⟨#[], #[.int .i64 0, .slice none 0 0, .string ⟨#[]⟩, .string ⟨#[]⟩, .bool false], []⟩).memory Tryz.f6.params.toList Rows.fsimMovesSpec.vars false #[.int .i64 0, .slice none 0 0, .string ⟨#[]⟩, .string ⟨#[]⟩, .bool false].toList 8 = some ([.lit (.int .i64 0), .nil, .lit (.string []), .lit (.string []), .lit (.bool false)], [], places) :=
  ⟨[], by kernel_rfl⟩

set_option maxRecDepth 100000 in
theorem lifted (os : Os) (started : os.Started) (H : Type) (enc : TypeId × Value → H) (F : Stop.Interp) :
    ReturnsInHanded {} Tryz.checked os 6 .any ((OpenSpec.ofChange Rows.fsimMovesSpec).preRow enc Tryz.prog Tryz.f6 Rows.fsimMovesRow.domain false Rows.fsimMovesRow.laid) (((OpenSpec.ofChange Rows.fsimMovesSpec).at F).post enc Tryz.prog Tryz.f6 false true false false) := by
  obtain ⟨places, hx⟩ := reads os enc
  refine returnsInHanded_of_row (C := Tryz.checked) (s := OpenSpec.ofChange Rows.fsimMovesSpec) own started (by kernel_rfl) Tryz.func6
    (witness_row_at (enc := enc) (C := Tryz.checked) false (World.laidAll Tryz.prog os Rows.fsimMovesRow.laid) #[.int .i64 0, .slice none 0 0, .string ⟨#[]⟩, .string ⟨#[]⟩, .bool false] (World.laidAll_os _ _ _) (by kernel_rfl) (by kernel_rfl) (by kernel_rfl)
      (OpenSpec.preRow_of_cond 8 hx (by kernel_rfl) (fun k hk => by cases hk) (by kernel_rfl) (laid_met os))) ?_
  intro W base args ds gs before hval hW _ _ hsz hL hS _
  exact contract H enc W base args ds gs before hval hW hsz hL hS

theorem said : Rows.FsimMovesSaid :=
  OpenClaim.holds_of_cond 6 Tryz.f6 rfl rfl rfl rfl rfl rfl rfl ⟨rfl, rfl, rfl, rfl, rfl⟩ rfl rfl rfl rfl rfl (by kernel_rfl) Tryz.func6 (by kernel_rfl)
    (of_decide_eq_true (by kernel_rfl)) (by unfold Func.isWrapper; first | (rw [if_pos (by decide +kernel)]; kernel_rfl) | (rw [if_neg (by decide +kernel)]; exact ⟨rfl, rfl⟩))
    (fun os started H enc _ F => by rw [OpenClaim.pre_eq_preRow]; exact lifted os started H enc F)

theorem plain (f : FuncId) (fn : Func) (hf : Tryz.pinned.checked.prog.funcNamed "marline/marlaw5.FsimMoves" = some f) (hfn : Tryz.pinned.checked.prog.funcs[f]? = some fn) :
    false = Tryz.pinned.checked.prog.looks [] ∧ ∀ (j : Nat) t, fn.params[j]? = some t → Tryz.pinned.checked.prog.wantsStandIn t = false := by
  obtain rfl : f = 6 := Option.some.inj ((show Tryz.prog.funcNamed "marline/marlaw5.FsimMoves" = some 6 by kernel_rfl).symm.trans hf) |>.symm
  obtain rfl : fn = Tryz.f6 := (Option.some.inj (Tryz.func6.symm.trans hfn)).symm
  refine ⟨by kernel_rfl, fun j t ht => ?_⟩
  rw [Tryz.params6] at ht
  have hm : t ∈ [3, 22, 9, 9, 4] := by simpa using Array.mem_of_getElem? ht
  simp only [List.mem_cons, List.not_mem_nil, or_false] at hm
  rcases hm with rfl | rfl | rfl | rfl | rfl
  · exact (show Tryz.prog.wantsStandIn 3 = false by kernel_rfl)
  · exact (show Tryz.prog.wantsStandIn 22 = false by kernel_rfl)
  · exact (show Tryz.prog.wantsStandIn 9 = false by kernel_rfl)
  · exact (show Tryz.prog.wantsStandIn 9 = false by kernel_rfl)
  · exact (show Tryz.prog.wantsStandIn 4 = false by kernel_rfl)

/-- The card. -/
theorem card : Rows.FsimMovesCardSaid :=
  Claim7.holds_tied_plain_at .later [] _ _ _ _ said (fun _ h => by cases h) (by kernel_rfl) (fun _ h => by cases h) fsimMoves_row_tie rfl ⟨rfl, rfl⟩ (by kernel_rfl) rfl plain (by kernel_rfl)

end Go.Proofs.YtoajnaopainpnaaGreatDoor.fsimMoves
