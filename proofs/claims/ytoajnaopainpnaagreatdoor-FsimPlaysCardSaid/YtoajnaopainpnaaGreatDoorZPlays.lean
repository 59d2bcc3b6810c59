/- marlaw5.FsimPlays: whatever the input, the law returns true, and the input reads as it did: its row's statement and its tied card. Conditions: what the row lists: the library's variables hold what the program's text lays. -/
import Derived.Test.YtoajnaopainpnaaGreatDoorZai
import Derived.Deep.QuietTactic
import Derived.BigQuiet
import Derived.Lib.SlBytesConst

set_option linter.unusedVariables false
set_option linter.unusedSimpArgs false
set_option linter.unusedSectionVars false

/-! marlaw5.Same: both file systems stand alike where both read as the same. Conditions: what holds of a file system at all times. -/
namespace Go.Proofs.YtoajnaopainpnaaGreatDoor
open Go Go.RowKit
variable [Inhabited BaseW]

theorem evB_length {w : World} {cs : List Value} {e : Ev} (h : IsEvB w cs e) : cs.length = 7 := by
  obtain ⟨v, rfl, -⟩ := h
  rfl
theorem readB_get {w : World} {v : Value} {l : List Ev} (h : ReadB w v l) : ∃ a cap, v = .slice a l.length cap ∧ l.length ≤ cap ∧ l.length ≤ 140737488355328 ∧ cap ≤ 9223372036854775807 ∧
    ∀ (k : Nat) e, l[k]? = some e → ∃ b o cs, a = some ⟨b, o, none⟩ ∧ IsEvB w cs e ∧ ∀ j u, cs[j]? = some u → w.cell? ⟨b, o + k * 7 + j, none⟩ = some u := by
  obtain ⟨css, ⟨a, cap, rfl, h1, h2, h3, h4⟩, he⟩ := h
  refine ⟨a, cap, rfl, h1, h3, h2, fun k e hk => ?_⟩
  have h7 : ∀ c ∈ css, c.length = 7 := fun c hc => by
    obtain ⟨i, hi, rfl⟩ := List.mem_iff_getElem.1 hc
    have hi2 : i < l.length := by rw [← he.1]; exact hi
    exact evB_length (he.2 i css[i] l[i] (List.getElem?_eq_getElem hi) (List.getElem?_eq_getElem hi2))
  have hkl : k < css.length := by rw [he.1]; exact (List.getElem?_eq_some_iff.1 hk).1
  have hev := he.2 k _ e (List.getElem?_eq_getElem hkl) hk
  have hf := fun j u hu => flat_get 7 css k j _ u h7 (List.getElem?_eq_getElem hkl) hu
  obtain ⟨b, o, rfl, hc⟩ := h4 (by
    intro hn
    have h0 : (css[k])[0]? = some ((css[k])[0]'(by rw [evB_length hev]; omega)) := List.getElem?_eq_getElem _
    have := hf 0 _ h0
    rw [hn] at this
    simp at this)
  refine ⟨b, o, css[k], rfl, hev, fun j u hu => ?_⟩
  have := hc _ _ (hf j u hu)
  rwa [Nat.add_assoc, Nat.mul_comm k 7]

set_option maxRecDepth 100000 in
set_option maxHeartbeats 8000000 in
theorem same_any {S O R O' R' : Nat → Prop} {w : World} {f x : Value} {m : Fs} (hf : IsFs S O R w f m) (hx : IsRef O' R' w x m) (hok : OkM m) (ht : m.time ≤ 90000) :
    Calls Tryz.prog 41 #[f, x] w fun e w' => e = .returned (.bool true) ∧ Ext w w' := by
  obtain ⟨hr1, hs1, gf, rfl⟩ := hf.rise
  obtain ⟨gx, rfl⟩ := hx.ptr
  have HF : Hid _ := hf
  have HX : Hid _ := hx
  have HR : Hid _ := hr1
  have HS : Hid _ := hs1
  have HOK : Hid _ := hok
  have hub := used_bound hok (by omega)
  have HUB : Hid _ := hub
  have hln := hok.lnow
  have hlp := hok.lpend
  have hlu := hok.lusers
  obtain ⟨U, hU⟩ : ∃ U, usedF m.now = U := ⟨_, rfl⟩
  have HU : Hid _ := hU
  clear hf hx hr1 hs1 hok hub hU
  go_enter Tryz.func41, Tryz.ntmps41
  go_wp2_with fail
  go_at_call 23
  refine (calls_any HF.out).mono ?_
  rintro e w1 ⟨rfl, rfl⟩
  go_wp2_with fail
  go_at_call 85
  refine (callsR_any HX.out).mono ?_
  rintro e w1 ⟨rfl, rfl⟩
  go_wp2_with fail
  go_at_call 17
  refine (now_any HF.out).mono ?_
  rintro e w1 ⟨rfl, rfl⟩
  go_wp2_with fail
  go_at_call 86
  refine (nowR_any HX.out).mono ?_
  rintro e w1 ⟨rfl, rfl⟩
  go_wp2_with fail
  go_at_call 18
  refine (used_any HF.out (by have := HUB.out; omega)).mono ?_
  rw [HU.out]
  rintro e w1 ⟨rfl, hx1⟩
  go_wp2_with fail
  go_at_call 87
  refine (usedRR_any (IsRef.ext HX.out hx1) (by have := HUB.out; omega)).mono ?_
  rw [HU.out]
  rintro e w2 ⟨rfl, hx2⟩
  have hx02 := hx1.trans hx2
  have HF2 : Hid _ := IsFs.ext HF.out hx02
  have HX2 : Hid _ := IsRef.ext HX.out hx02
  go_wp2_with fail
  go_at_call 24
  refine (pending_any HF2.out HOK.out (by omega)).mono ?_
  rintro e w3 ⟨rfl, rfl⟩
  go_wp2_with fail
  go_at_call 88
  refine (pendingR_any HX2.out (by omega)).mono ?_
  rintro e w3 ⟨rfl, rfl⟩
  go_wp2_with fail
  go_at_call 40
  refine (up_any HF2.out).mono ?_
  rintro e w3 ⟨rfl, rfl⟩
  go_wp2_with fail
  go_at_call 89
  refine (upR_any HX2.out).mono ?_
  rintro e w3 ⟨rfl, rfl⟩
  go_wp2_with fail
  go_at_call 12
  refine (paths_any HF2.out (by omega)).mono ?_
  rintro e w4 ⟨⟨v1, rfl, ho1⟩, hx4⟩
  have hv1 := strs_paths ho1 (by omega)
  obtain ⟨a1, c1, rfl, l1, l2, l3, -⟩ := hv1.get
  have HV1 : Hid _ := hv1
  clear ho1 hv1
  go_wp2_with fail
  go_at_call 90
  refine (pathsR_any (IsRef.ext HX2.out hx4) (by omega)).mono ?_
  rintro e w5 ⟨⟨v2, rfl, hv2⟩, hx5⟩
  obtain ⟨a2, c2, rfl, -⟩ := hv2.get
  have HV2 : Hid _ := hv2
  clear hv2
  go_wp2_with fail
  go_at_call 65
  refine (texts_any _ _ _ _ _ (IsStrs.ext HV1.out hx5) HV2.out).mono ?_
  rw [show (pathsL m.now == pathsL m.now) = true by simp]
  rintro e w6 ⟨rfl, hx6⟩
  have hx26 := (hx4.trans hx5).trans hx6
  have HF6 : Hid _ := IsFs.ext HF2.out hx26
  have HX6 : Hid _ := IsRef.ext HX2.out hx26
  have HIS : Hid _ := IsStrs.ext (IsStrs.ext HV1.out hx5) hx6
  have hpl : (pathsL m.now).length = m.now.length := by simp [pathsL]
  have HPL : Hid _ := hpl
  rw [hpl] at l1 l2 ⊢
  have hx06 := hx02.trans hx26
  have HX06 : Hid _ := hx06
  clear hpl hx4 hx5 hx6 hx26 hx1 hx2 hx02 hx06
  go_wp2_with fail
  go_loopw [6] (fun i wr => ∃ k : Nat, k ≤ m.now.length ∧ i = .int .i64 k ∧ Ext w6 wr) (fun i _ => m.now.length - (intOf i).toNat)
  case atStart => exact ⟨0, Nat.zero_le _, rfl, Ext.refl _⟩
  case round =>
    obtain ⟨k, hk, rfl, hx⟩ := hrel
    by_cases hlt : k < m.now.length
    · obtain ⟨p, hp⟩ : ∃ p, (pathsL m.now)[k]? = some p := ⟨_, List.getElem?_eq_getElem (by rw [HPL.out]; exact hlt)⟩
      obtain ⟨f1, hf1⟩ := paths_get hp
      obtain ⟨_, _, he, -, -, -, hg⟩ := (IsStrs.ext HIS.out hx).get
      cases he
      obtain ⟨bb, oo, rfl, hc⟩ := hg k (by rw [HPL.out]; exact hlt)
      have y1 := hc k (by rw [HPL.out]; exact hlt)
      rw [show (pathsL m.now).getD k [] = p by rw [List.getD_eq_getElem?_getD, hp]; rfl] at y1
      have hps : p.length ≤ 1000000 := HS.out _ (List.mem_of_getElem? hf1)
      have HK1 : Hid _ := peek_at HR.out hf1
      have HA : Hid _ := IsFs.ext HF6.out hx
      have HB : Hid _ := IsRef.ext HX6.out hx
      clear hp hf1 hg hc
      go_wp2_with fail
      go_at_call 13
      refine (peek_any p HA.out hps).mono ?_
      rw [HK1.out]
      rintro e w7 ⟨⟨u1, rfl, hd1⟩, hx7⟩
      obtain ⟨s1, t1, rfl, -⟩ := id hd1.bytes
      have HD1 : Hid _ := hd1
      have HB7 : Hid _ := IsRef.ext HB.out hx7
      have y2 := hx7.cell y1
      clear hd1
      dsimp only
      go_upto_region 10 with fail
      obtain ⟨w8, hw8⟩ : ∃ w8, w8 = w7.alloc (.cells #[.int .i64 f1.mode, .slice s1 f1.data.length t1, .int .i64 f1.time] 30) := ⟨_, rfl⟩
      rw [← hw8]
      have hx8 : Ext w7 w8 := by rw [hw8]; exact (Ext.refl _).alloc _
      have hb8 : w8.heap[w7.heap.size]? = some (.cells #[.int .i64 f1.mode, .slice s1 f1.data.length t1, .int .i64 f1.time] 30 (0, 0)) := by rw [hw8]; exact alloc_at _ _
      have y3 := hx8.cell y2
      clear hw8
      go_wp2_with fail
      go_at_call 91
      refine (peekR_any p (IsRef.ext HB7.out hx8)).mono ?_
      rw [HK1.out]
      rintro e w9 ⟨⟨u2, rfl, hd2⟩, hx9⟩
      obtain ⟨s2, t2, rfl, -⟩ := id hd2.bytes
      have HD2 : Hid _ := hd2
      have hb9 := hx9.row hb8
      clear hd2 hb8
      dsimp only
      go_upto_region 11 with fail
      obtain ⟨wa, hwa⟩ : ∃ wa, wa = w9.alloc (.cells #[.int .i64 f1.mode, .slice s2 f1.data.length t2, .int .i64 f1.time] 92) := ⟨_, rfl⟩
      rw [← hwa]
      have hxa : Ext w9 wa := by rw [hwa]; exact (Ext.refl _).alloc _
      have hba : wa.heap[w9.heap.size]? = some (.cells #[.int .i64 f1.mode, .slice s2 f1.data.length t2, .int .i64 f1.time] 92 (0, 0)) := by rw [hwa]; exact alloc_at _ _
      have hbb := hxa.row hb9
      obtain ⟨x0, x1, x2⟩ := cellsAt3 hbb
      obtain ⟨z0, z1, z2⟩ := cellsAt3 hba
      have hx57 := (hx8.trans hx9).trans hxa
      have HE1 : Hid (IsBytes wa (.slice s1 f1.data.length t1) f1.data) := (IsData.ext HD1.out hx57).bytes
      have HE2 : Hid (IsBytes wa (.slice s2 f1.data.length t2) f1.data) := (IsData.ext HD2.out hxa).bytes
      have HXR : Hid _ := (hx.trans hx7).trans hx57
      clear hwa hb9 hba hbb hx57 hxa hx9 hx8 hx7 y1 y2 y3
      go_wp2_with fail
      go_at_call 62
      refine (file_same f1 _ _ _ HE1.out HE2.out).mono ?_
      rintro e wb ⟨rfl, hxb⟩
      go_wp2
      go_roundw
      case rel => exact ⟨k + 1, by omega, by go_num, Ext.trans HXR.out hxb⟩
      case measure => simp [intOf]; omega
    · have HA : Hid _ := IsFs.ext HF6.out hx
      have HB : Hid _ := IsRef.ext HX6.out hx
      have HX0 : Hid _ := Ext.trans HX06.out hx
      clear hx
      go_wp2_with fail
      go_at_call 19
      refine (user_any HA.out (by omega)).mono ?_
      rintro e w7 ⟨⟨v3, rfl, ho3⟩, hx7⟩
      have hu3 := (OwnE.readL ho3 (by omega)).read
      obtain ⟨a3, c3, rfl, q1, q2, q3, -⟩ := readB_get hu3
      have HU3 : Hid _ := hu3
      clear ho3 hu3
      go_wp2_with fail
      go_at_call 92
      refine (userR_any (IsRef.ext HB.out hx7) (by omega)).mono ?_
      rintro e w8 ⟨⟨v4, rfl, hu4⟩, hx8⟩
      obtain ⟨a4, c4, rfl, r1, r2, r3, -⟩ := readB_get hu4
      have HU4 : Hid _ := hu4
      have HU5 : Hid _ := ReadB.ext HU3.out hx8
      have HX8 : Hid _ := Ext.trans (Ext.trans HX0.out hx7) hx8
      clear hu4 hx7 hx8
      go_wp2_with fail
      go_loopw [13] (fun i wr => ∃ k : Nat, k ≤ m.users.length ∧ i = .int .i64 k ∧ Ext w8 wr) (fun i _ => m.users.length - (intOf i).toNat)
      case atStart => exact ⟨0, Nat.zero_le _, rfl, Ext.refl _⟩
      case round =>
        obtain ⟨n, hn, rfl, hx⟩ := hrel
        by_cases hlt2 : n < m.users.length
        · obtain ⟨E, he⟩ : ∃ e, m.users[n]? = some e := ⟨_, List.getElem?_eq_getElem hlt2⟩
          obtain ⟨_, _, he5, -, -, -, g5⟩ := readB_get (ReadB.ext HU5.out hx)
          cases he5
          obtain ⟨_, _, he4, -, -, -, g4⟩ := readB_get (ReadB.ext HU4.out hx)
          cases he4
          obtain ⟨b5, o5, cs5, rfl, ⟨d5, rfl, hd5, -⟩, k5⟩ := g5 n E he
          obtain ⟨b4, o4, cs4, rfl, ⟨d4, rfl, hd4, -⟩, k4⟩ := g4 n E he
          have x0 := k5 0 _ rfl
          have x1 := k5 1 _ rfl
          have x2 := k5 2 _ rfl
          have x5 := k5 5 _ rfl
          have x6 := k5 6 _ rfl
          have y0 := k4 0 _ rfl
          have y1 := k4 1 _ rfl
          have y2 := k4 2 _ rfl
          have y5 := k4 5 _ rfl
          have y6 := k4 6 _ rfl
          simp only [Nat.add_zero] at x0 y0
          have HBY : Hid (∀ j, Calls Tryz.prog 35 #[d5, d4] (wr.drewN j) fun e w' => e = .returned (.bool true) ∧ w' = wr.drewN j) := fun j => by
            have := bytesEq_any d5 d4 E.data E.data (wr.drewN j) (IsBytes.ext hd5 (Ext.drawn _ _)) (IsBytes.ext hd4 (Ext.drawn _ _))
            rwa [show (E.data == E.data) = true by simp] at this
          have HXX : Hid _ := hx
          clear hd5 hd4 k5 k4 g5 g4 he hx
          go_upto_region 19 with fail
          go_quiet (first | (go_at_call 35; exact Calls.quiet_of_same (HBY.out _)))
          go_wp2
          go_roundw
          case rel => exact ⟨n + 1, by omega, by go_num, Ext.trans HXX.out (Ext.drawn _ _)⟩
          case measure => simp [intOf]; omega
        · go_wp2
          go_ret
          exact ⟨rfl, Ext.trans HX8.out hx⟩

end Go.Proofs.YtoajnaopainpnaaGreatDoor

/-! marlaw5.FsimPlays: true at any room and any operations. Conditions: as each theorem states. -/
namespace Go.Proofs.YtoajnaopainpnaaGreatDoor
open Go Go.RowKit
variable [Inhabited BaseW]

def YRel (w0 w : World) (fv xv : Value) (k : Nat) : Prop := ∃ (g : Nat) (S O O' : Nat → Prop) (m : Fs), fv = .pointer (some ⟨g, 0, none⟩) ∧ Two w0 S O O' w fv xv m ∧ Good k m

set_option maxRecDepth 100000 in
set_option maxHeartbeats 16000000 in
theorem plays_any (room : Int) (v : Value) (l : List Opn) (w : World) (hb : Ext baseW w) (hE : Env w) (hv : IsOps w v l) (hi : ∀ o ∈ l, I64 o.keep ∧ I64 o.torn ∧ ∀ e ∈ o.plan, I64 e.keep ∧ I64 e.torn) :
    Calls Tryz.prog 9 #[.int .i64 room, v] w fun e w' => e = .returned (.bool true) ∧ Ext w w' := by
  obtain ⟨a, cap, rfl, h1, h2, h3, h4⟩ := ops_cells hv
  have HV : Hid _ := hv
  have H4 : Hid _ := h4
  have HI : Hid _ := hi
  have HE : Hid _ := hE
  have HB : Hid _ := hb
  have kc := fun (w : World) (C : Array Value) (n c : Nat) => Lib.run_convert_bytes_const (P := Tryz.prog) w 28 5 C n c Tryz.underlying28 Tryz.underlying5
  clear h4 hv hi hE hb
  go_enter Tryz.func9, Tryz.ntmps9
  go_wp2_with fail
  go_at_call 10
  refine (first_any w HE.out).mono ?_
  rintro e w1 ⟨rfl, hx1⟩
  have HE1 : Hid _ := HE.out.ext hx1
  go_wp2_with fail
  go_at_call 22
  refine (fewOps_any hx1 HV.out).mono ?_
  obtain ⟨fe, hfe⟩ : ∃ fe, fewOps l = fe := ⟨_, rfl⟩
  rw [hfe]
  have HFE : Hid _ := hfe
  clear hfe
  rintro e w2 ⟨rfl, hx2⟩
  have HE2 : Hid _ := HE1.out.ext hx2
  have hx02 := hx1.trans hx2
  cases fe with
  | false =>
    go_wp2_with fail
    go_at_call 10
    refine (first_any _ HE2.out).mono ?_
    rintro e w3 ⟨rfl, hx3⟩
    go_wp2
    go_ret
    exact ⟨rfl, hx02.trans hx3⟩
  | true =>
    have HFEW : Hid _ := few_ops HFE.out HI.out
    have hl100 := HFEW.out.1
    go_wp2_with fail
    go_at_call 20
    by_cases hroom : room < 0 ∨ 1073741824 < room
    · refine (new_no room _ hroom).mono ?_
      rintro e w3 ⟨rfl, rfl⟩
      go_wp2_with fail
      go_at_call 21
      refine (newR_no room _ hroom).mono ?_
      rintro e w3 ⟨rfl, rfl⟩
      go_wp2_with fail
      go_loopw [9] (fun i wr => i = .int .i64 0 ∧ Ext w3 wr) (fun _ _ => 0)
      case atStart => exact ⟨rfl, Ext.refl _⟩
      case round =>
        obtain ⟨rfl, hx⟩ := hrel
        have HEr : Hid _ := HE2.out.ext hx
        go_wp2_with fail
        go_at_call 10
        refine (first_any _ HEr.out).mono ?_
        rintro e w4 ⟨rfl, hx4⟩
        go_wp2
        go_ret
        exact ⟨rfl, (hx02.trans hx).trans hx4⟩
    · have hr0 : 0 ≤ room := by omega
      have hr1 : room ≤ 1073741824 := by omega
      refine (new_yes room _ hr0 hr1).mono ?_
      rintro e w3 ⟨⟨p, rfl, hf⟩, hx3⟩
      go_wp2_with fail
      go_at_call 21
      refine (newR_yes room _ hr0 hr1).mono ?_
      rintro e w4 ⟨⟨q, rfl, hq⟩, hx4⟩
      have HT : Hid _ := Two.base (Two.new hf hx3 hq hx4 (Ext.trans HB.out hx02)) hx02 HB.out
      obtain ⟨gf, rfl⟩ : ∃ g, p = .pointer (some ⟨g, 0, none⟩) := by
        obtain ⟨g, gm, gd, vp, vl, vu, L, c0, hpe, -⟩ := hf
        exact ⟨g, hpe⟩
      obtain ⟨gx, rfl⟩ := hq.ptr
      have HG0 : Hid (Good 0 (newM room)) := good_new hr0 hr1
      clear hf hq hx3 hx4 hx02 hx1 hx2
      go_wp2_with fail
      go_loopw [5, 9] (fun fv i wr => ∃ k : Nat, k ≤ l.length ∧ i = .int .i64 k ∧ Hid (YRel w wr fv (.pointer (some ⟨gx, 0, none⟩)) k)) (fun _ i _ => l.length - (intOf i).toNat)
      case atStart => exact ⟨0, Nat.zero_le _, rfl, gf, _, _, _, _, rfl, HT.out, HG0.out⟩
      case round =>
        obtain ⟨k, hk, rfl, hC⟩ := hrel
        obtain ⟨g, S, O, O', m, rfl, hT, hG⟩ := hC.out
        have HT1 : Hid _ := hT
        have HG : Hid _ := hG
        have hxw := hT.ext
        clear hT hG hC
        by_cases hlt : k < l.length
        · obtain ⟨E, he⟩ : ∃ e, l[k]? = some e := ⟨_, List.getElem?_eq_getElem hlt⟩
          obtain ⟨b, o, cs, rfl, hop, hc⟩ := H4.out k E he
          have HOP : Hid _ := hop
          have HOK : Hid (OpOk E) := HFEW.out.2 E (List.mem_of_getElem? he)
          obtain ⟨vd, vp, rfl, hd, hpl⟩ := hop
          obtain ⟨s1, s2, rfl, -⟩ := id hd.bytes
          obtain ⟨_, ⟨p1, p2, rfl, -⟩, -⟩ := id hpl
          have c0 := hxw.cell (hc 0 _ rfl)
          simp only [Nat.add_zero] at c0
          have HC : Hid (∀ w', Ext w w' → w'.cell? ⟨b, o + k * 8, none⟩ = some (.int .i64 E.kind) ∧ w'.cell? ⟨b, o + k * 8 + 1, none⟩ = some (.int .i64 E.mode) ∧ w'.cell? ⟨b, o + k * 8 + 2, none⟩ = some (.int .i64 E.keep) ∧ w'.cell? ⟨b, o + k * 8 + 3, none⟩ = some (.int .i64 E.torn) ∧ w'.cell? ⟨b, o + k * 8 + 4, none⟩ = some (S8 E.path) ∧ w'.cell? ⟨b, o + k * 8 + 5, none⟩ = some (S8 E.dest) ∧ w'.cell? ⟨b, o + k * 8 + 6, none⟩ = some (.slice s1 E.data.length s2) ∧ w'.cell? ⟨b, o + k * 8 + 7, none⟩ = some (.slice p1 E.plan.length p2)) := fun w' hx => by
            have h := fun j u hu => hx.cell (hc j u hu)
            exact ⟨h 0 _ rfl, h 1 _ rfl, h 2 _ rfl, h 3 _ rfl, h 4 _ rfl, h 5 _ rfl, h 6 _ rfl, h 7 _ rfl⟩
          clear hd hpl hc he
          by_cases hkk : E.kind < 0 ∨ 12 < E.kind
          · obtain ⟨d0, d1, d2, d3, d4, d5, d6, d7⟩ := HC.out wr hxw
            clear d1 d2 d3 d4 d5 d6 d7 c0
            have htm := HG.out.time
            have hcl := HG.out.calls
            rcases hkk with hk0 | hk1
            case' inr => have hk0 : ¬ E.kind < 0 := by omega
            all_goals
              go_wp2_with fail
              go_at_call 30
              refine (copy_any HT1.out.fs HG.out.ok (by omega) (by omega)).mono ?_
              rintro e w5 ⟨⟨p', S', O9, rfl, hf', hS', hO'⟩, hx5⟩
              obtain ⟨-, -, g5, rfl⟩ := hf'.rise
              have HP5 : Hid (Pile w w5 [(2, .fs (.pointer (some ⟨g5, 0, none⟩)) m), (0, .fs (.pointer (some ⟨g, 0, none⟩)) m), (1, .ref (.pointer (some ⟨gx, 0, none⟩)) m)]) := Pile.addCopy (Pile.ofTwo HT1.out 0 1 (by decide)) 2 (by simp) hx5 hf' hS' hO'
              clear hf' hS' hO' hx5
              go_wp2_with fail
              obtain ⟨wa, hwa⟩ : ∃ wa, wa = w5.alloc (.cells #[.int .u8 113] 5 (1, 2)) := ⟨_, rfl⟩
              have hxa : Ext w5 wa := by rw [hwa]; exact (Ext.refl _).alloc _
              have hba := bytes_block (w := wa) (l := [113]) (n := 1) (fr := (1, 2)) (g := w5.heap.size) (by rw [hwa]; exact alloc_at _ _) rfl (by omega)
              rw [← hwa]
              have HPA : Hid _ := Pile.more HP5.out hxa
              obtain ⟨SA, OA, hOne, hback, -⟩ := Pile.post HPA.out 0 (f := .pointer (some ⟨g, 0, none⟩)) (m := m) (by simp)
              go_at_call 34
              refine (userWrite_any [113] 1 _ [113] (HE.out.ext hOne.ext) hOne.fs HG.out.ok (by omega) (by decide) hba.1 (by decide) (fun hh => may_eq _ hh) (typed_out hba.2 ⟨_, _, _, rfl⟩)).mono ?_
              rintro e w6 ⟨rfl, h6⟩
              have HP6 : Hid (Pile w w6 [(2, .fs (.pointer (some ⟨g5, 0, none⟩)) m), (0, .fs (.pointer (some ⟨g, 0, none⟩)) (userWrite m [113] 1 [113]).1), (1, .ref (.pointer (some ⟨gx, 0, none⟩)) m)]) := hback _ _ _ h6 (by intro y hy; simp only [List.mem_cons, List.not_mem_nil, or_false] at hy ⊢; rcases hy with rfl | rfl | rfl <;> simp)
              clear h6 hback hOne hba hwa hxa
              obtain ⟨SB, OB, hOne2, hback2, -⟩ := Pile.post HP6.out 0 (f := .pointer (some ⟨g, 0, none⟩)) (m := (userWrite m [113] 1 [113]).1) (by simp)
              have hut := (userWrite_time (m := m) (path := [113]) (mode := 1) (data := [113])).2
              go_wp2_with fail
              go_at_call 32
              refine (crash_any 1 1 hOne2.fs (ok_userWrite HG.out.ok) (by omega) (i64_small _ (by decide) (by decide)) (i64_small _ (by decide) (by decide))).mono ?_
              rintro e w7 ⟨rfl, h7⟩
              have HP7 : Hid (Pile w w7 [(2, .fs (.pointer (some ⟨g5, 0, none⟩)) m), (1, .ref (.pointer (some ⟨gx, 0, none⟩)) m)]) := hback2 _ _ _ h7 (by intro y hy; simp only [List.mem_cons, List.not_mem_nil, or_false] at hy ⊢; rcases hy with rfl | rfl <;> simp)
              obtain ⟨SC, OC, OC', hT7, -⟩ := Pile.two HP7.out HB.out 2 1 (by decide) (f := .pointer (some ⟨g5, 0, none⟩)) (x := .pointer (some ⟨gx, 0, none⟩)) (m := m) (m2 := m) (by simp) (by simp)
              have HT7 : Hid _ := hT7
              obtain ⟨d0, d1, d2, d3, d4, d5, d6, d7⟩ := HC.out w7 hT7.ext
              clear h7 hback2 hOne2 hT7 hut
              go_wp2_with fail
              go_at_call 25
              refine (doesOp_any HT7.out HE.out HG.out (by omega) HOP.out HOK.out).mono ?_
              rintro e w8 ⟨rfl, S1, O1, O1', hT8, -, hfr⟩
              have HT8 : Hid _ := hT8
              have HG8 : Hid (Good (k + 1) (stepM m E)) := step_good HG.out HOK.out
              clear hT8 hfr
              go_wp2_with fail
              go_at_call 41
              refine (same_any HT8.out.fs HT8.out.ref HG8.out.ok (by have := HG8.out.time; omega)).mono ?_
              rintro e w9 ⟨rfl, hx9⟩
              go_wp2
              go_roundw
              case rel => exact ⟨k + 1, by omega, by go_num, g5, _, _, _, _, rfl, Two.more HT8.out hx9, HG8.out⟩
              case measure => simp [intOf]; omega
          · have hk0 : ¬ E.kind < 0 := by omega
            have hk1 : ¬ (12 : Int) < E.kind := by omega
            obtain ⟨d0, d1, d2, d3, d4, d5, d6, d7⟩ := HC.out wr hxw
            clear c0 hxw
            go_wp2_with fail
            go_at_call 25
            refine (doesOp_any HT1.out HE.out HG.out (by omega) HOP.out HOK.out).mono ?_
            rintro e w6 ⟨rfl, S1, O1, O1', hT6, -, hfr⟩
            have HT6 : Hid _ := hT6
            have HG6 : Hid (Good (k + 1) (stepM m E)) := step_good HG.out HOK.out
            clear hT6 hfr
            go_wp2_with fail
            go_at_call 41
            refine (same_any HT6.out.fs HT6.out.ref HG6.out.ok (by have := HG6.out.time; omega)).mono ?_
            rintro e w7 ⟨rfl, hx7⟩
            go_wp2
            go_roundw
            case rel => exact ⟨k + 1, by omega, by go_num, g, _, _, _, _, rfl, Two.more HT6.out hx7, HG6.out⟩
            case measure => simp [intOf]; omega
        · have HEr : Hid _ := HE.out.ext hxw
          go_wp2_with fail
          go_at_call 10
          refine (first_any _ HEr.out).mono ?_
          rintro e w5 ⟨rfl, hx5⟩
          go_wp2
          go_ret
          exact ⟨rfl, hxw.trans hx5⟩

end Go.Proofs.YtoajnaopainpnaaGreatDoor

/-! marlaw5.FsimPlays: whatever the input, the law returns true, and the input reads as it did: its row's statement and its tied card. Conditions: what the row lists: the library's variables hold what the program's text lays. -/
namespace Go.Proofs.YtoajnaopainpnaaGreatDoor.fsimPlays
open Go Go.ChangeShapes Go.WideShapes Go.ChangeAt Go.RowKit Go.Deep

set_option maxRecDepth 100000 in
theorem contract (H : Type) (enc : TypeId × Value → H) (W : World) (base : Nat) (args : Array Value) (ds gs : List (DataW H)) (before : List MemPlace)
    (hval : ∀ (j : Nat) t v, Tryz.f9.params[j]? = some t → args[j]? = some v → Value.okWide Tryz.prog W .any base t v)
    (hW : DataW.Whole enc Tryz.prog Tryz.f9.params.toList Rows.fsimPlaysSpec.vars false W args.toList ds gs before)
    (hsz : (DataW.weightsEach Tryz.prog (Tryz.f9.params.toList ++ (OpenSpec.ofChange Rows.fsimPlaysSpec).bare.plain.varTypes Tryz.prog) (ds ++ gs)).all (· ≤ reachBytes) = true)
    (hL : laidMetH Tryz.prog Rows.fsimPlaysRow.laid W) (hS : W.ShapedOpen Tryz.prog) :
    Calls Tryz.prog 9 args W fun e W' => ∃ v, e = .returned v ∧ Rows.fsimPlaysSpec.post enc Tryz.prog Tryz.f9 false true false false W args v W' := by
  have hW' := hW
  obtain ⟨p, q, hA0, hV, rfl, hfz, hnd⟩ := hW
  have hA : DataW.TrodAll enc Tryz.prog W 0 (fun _ => true) true Tryz.f9.params.toList args.toList ds p := hA0
  obtain ⟨rfl, rfl⟩ := trodVars_none hV
  clear hA0
  simp only [List.append_nil] at hW'
  have hE : Env W := env_of hS
  letI : Inhabited BaseW := ⟨⟨W⟩⟩
  have hBW : baseW = W := rfl
  have hBE : Ext baseW W := Ext.refl W
  have hAll := hA
  have hlt : ∀ x ∈ p, x.block < W.heap.size := fun x hx => by simpa using hW'.lt x (by simpa using hx)
  rw [Tryz.params9] at hA hval hsz
  obtain ⟨v0, vs0, d0, ds0, p0, q0, ha0, hd0, hp0, h0, hA⟩ := trodAll_cons hA
  obtain ⟨v1, vs1, d1, ds1, p1, q1, ha1, hd1, hp1, h1, hA⟩ := trodAll_cons hA
  obtain ⟨hn0, hn1, hn2⟩ := trodAll_nil hA
  subst hn0 hn1 hn2
  subst hp1 hd1 ha1
  subst hp0 hd0
  obtain rfl : args = #[v0, v1] := by cases args; simp_all
  clear ha0
  have hv0 := hval 0 3 v0 rfl rfl
  obtain ⟨n, rfl, -, -, hw0⟩ := open_int Tryz.underlying3 hv0 h0
  have hn : I64 n := i64_wf hw0
  have hv1 := hval 1 22 v1 rfl rfl
  obtain ⟨l, hl, hil⟩ := arg_ops (j := 1) hBW hv1 h1 hsz rfl rfl
  refine (plays_any n v1 l W hBE hE hl hil).mono fun e W' ⟨he, hg⟩ => ?_
  subst he
  have harg := trodAll_below laidOut hg hAll hlt (by rw [Tryz.params9]; exact fun t ht => by simp only [List.mem_cons, List.not_mem_nil, or_false] at ht; rcases ht with rfl | rfl <;> exact ⟨by kernel_rfl, of_decide_eq_true (by kernel_rfl)⟩)
  exact ⟨_, rfl, _, _, _, [], _, [], hW', trodAll_mk1 (shut_bool Tryz.underlying4 _), harg, rfl, hg.frame _, fun h => by cases h⟩

theorem laid_met (os : Os) : laidMetH Tryz.prog Rows.fsimPlaysRow.laid ((World.laidAll Tryz.prog os Rows.fsimPlaysRow.laid).forCall (fun _ _ => 0) ⟨#[], #[.int .i64 0, .slice none 0 0], []⟩).memory := by
  rw [MakeChecks.laidMetH_plain _ _ _ (by kernel_rfl)]
  exact laidMet_laidAll _ (by kernel_rfl) (by kernel_rfl)
theorem reads (os : Os) {H : Type} (enc : TypeId × Value → H) : ∃ places, DataW.whole enc Tryz.prog ((World.laidAll Tryz.prog os Rows.fsimPlaysRow.laid).forCall (fun _ _ => 0) ⟨#[], #[.int .i64 0, .slice none 0 0], []⟩).memory Tryz.f9.params.toList Rows.fsimPlaysSpec.vars false #[.int .i64 0, .slice none 0 0].toList 8 = some ([.lit (.int .i64 0), .nil], [], places) :=
  ⟨[], by kernel_rfl⟩

set_option maxRecDepth 100000 in
theorem lifted (os : Os) (started : os.Started) (H : Type) (enc : TypeId × Value → H) (F : Stop.Interp) :
    ReturnsInHanded {} Tryz.checked os 9 .any ((OpenSpec.ofChange Rows.fsimPlaysSpec).preRow enc Tryz.prog Tryz.f9 Rows.fsimPlaysRow.domain false Rows.fsimPlaysRow.laid) (((OpenSpec.ofChange Rows.fsimPlaysSpec).at F).post enc Tryz.prog Tryz.f9 false true false false) := by
  obtain ⟨places, hx⟩ := reads os enc
  refine returnsInHanded_of_row (C := Tryz.checked) (s := OpenSpec.ofChange Rows.fsimPlaysSpec) own started (by kernel_rfl) Tryz.func9
    (witness_row_at (enc := enc) (C := Tryz.checked) false (World.laidAll Tryz.prog os Rows.fsimPlaysRow.laid) #[.int .i64 0, .slice none 0 0] (World.laidAll_os _ _ _) (by kernel_rfl) (by kernel_rfl) (by kernel_rfl)
      (OpenSpec.preRow_of_cond 8 hx (by kernel_rfl) (fun k hk => by cases hk) (by kernel_rfl) (laid_met os))) ?_
  intro W base args ds gs before hval hW _ _ hsz hL hS _
  exact contract H enc W base args ds gs before hval hW hsz hL hS

theorem said : Rows.FsimPlaysSaid :=
  OpenClaim.holds_of_cond 9 Tryz.f9 rfl rfl rfl rfl rfl rfl rfl ⟨rfl, rfl, rfl, rfl, rfl⟩ rfl rfl rfl rfl rfl (by kernel_rfl) Tryz.func9 (by kernel_rfl)
    (of_decide_eq_true (by kernel_rfl)) (by unfold Func.isWrapper; first | (rw [if_pos (by decide +kernel)]; kernel_rfl) | (rw [if_neg (by decide +kernel)]; exact ⟨rfl, rfl⟩))
    (fun os started H enc _ F => by rw [OpenClaim.pre_eq_preRow]; exact lifted os started H enc F)

theorem plain (f : FuncId) (fn : Func) (hf : Tryz.pinned.checked.prog.funcNamed "marline/marlaw5.FsimPlays" = some f) (hfn : Tryz.pinned.checked.prog.funcs[f]? = some fn) :
    false = Tryz.pinned.checked.prog.looks [] ∧ ∀ (j : Nat) t, fn.params[j]? = some t → Tryz.pinned.checked.prog.wantsStandIn t = false := by
  obtain rfl : f = 9 := Option.some.inj ((show Tryz.prog.funcNamed "marline/marlaw5.FsimPlays" = some 9 by kernel_rfl).symm.trans hf) |>.symm
  obtain rfl : fn = Tryz.f9 := (Option.some.inj (Tryz.func9.symm.trans hfn)).symm
  refine ⟨by kernel_rfl, fun j t ht => ?_⟩
  rw [Tryz.params9] at ht
  have hm : t ∈ [3, 22] := by simpa using Array.mem_of_getElem? ht
  simp only [List.mem_cons, List.not_mem_nil, or_false] at hm
  rcases hm with rfl | rfl
  · exact (show Tryz.prog.wantsStandIn 3 = false by kernel_rfl)
  · exact (show Tryz.prog.wantsStandIn 22 = false by kernel_rfl)

/-- The card. -/
theorem card : Rows.FsimPlaysCardSaid :=
  Claim7.holds_tied_plain_at .later [] _ _ _ _ said (fun _ h => by cases h) (by kernel_rfl) (fun _ h => by cases h) fsimPlays_row_tie rfl ⟨rfl, rfl⟩ (by kernel_rfl) rfl plain (by kernel_rfl)

end Go.Proofs.YtoajnaopainpnaaGreatDoor.fsimPlays
