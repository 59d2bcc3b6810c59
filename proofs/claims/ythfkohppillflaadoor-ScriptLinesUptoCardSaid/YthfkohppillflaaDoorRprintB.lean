/- marref24.Print at any kind. Conditions: as an act that is printed by the program; paths of at most 1000000 bytes. -/
import Derived.Test.YthfkohppillflaaDoorRprint
namespace Go.Proofs.YthfkohppillflaaDoor
open Go Go.RowKit

set_option maxRecDepth 100000 in
set_option maxHeartbeats 8000000 in
theorem rprint_low (x : Ac) (cs : List Value) (w : World) (hx : IsAc w cs x) (hs : x.small) (hp : x.path.length ≤ 1000000) (hep : ∀ e ∈ x.events, e.path.length ≤ 1000000) (hk1 : ¬ 1 ≤ x.kind) :
    Calls Tryd.prog 12 #[.agg cs.toArray] w fun e w' => e = .returned (S8 (printL x)) ∧ Ext w w' := by
  obtain ⟨vd, vf, ve, rfl, hd, hf, he⟩ := hx
  have HB : Hid _ := hd
  have HS : Hid _ := hs
  have HEP : Hid _ := hep
  obtain ⟨a1, n1, rfl, -⟩ := id hd
  obtain ⟨a2, n2, rfl, -, hl2, -, g4⟩ := hf.get
  obtain ⟨a3, n3, rfl, -, hl3, -, m4⟩ := he.get
  have hnf := hs.nf
  have hne := hs.ne
  have G4 : Hid _ := g4
  have M4 : Hid _ := m4
  obtain ⟨w1, hw1⟩ : ∃ w1, w1 = w.alloc (.cells (acCells x.kind x.a x.b x.n x.path (.slice a1 x.data.length n1) (.slice a2 x.fates.length n2) (.slice a3 x.events.length n3)) 34) := ⟨_, rfl⟩
  have hx1 : Ext w w1 := by rw [hw1]; exact (Ext.refl _).alloc _
  have hg1 : w1.heap[w.heap.size]? = some (.cells (acCells x.kind x.a x.b x.n x.path (.slice a1 x.data.length n1) (.slice a2 x.fates.length n2) (.slice a3 x.events.length n3)) 34 (0, 0)) := by rw [hw1]; exact alloc_at _ _
  have HW1 : Hid _ := hw1
  obtain ⟨c0, c1, c2, c3, c4, c5, c6, c7⟩ := cellsAt8 hg1
  clear hw1 hd hf he g4 m4 hs hep
  obtain ⟨bz, hbz⟩ : ∃ bz : Bool, bz = false := ⟨_, rfl⟩
  have HBZ : Hid _ := hbz
  have HG : Hid (tellsB x = (bz && x.events.all evTold)) := by
    unfold Hid tellsB
    rw [hbz, decide_eq_false (p := 1 ≤ x.kind) hk1]
    simp
  clear hbz
  go_enter Tryd.func12, Tryd.ntmps12
  go_wp2_with fail
  rw [show w.alloc (.cells #[.int .i64 x.kind, .int .i64 x.a, .int .i64 x.b, .int .i64 x.n, S8 x.path, .slice a1 x.data.length n1, .slice a2 x.fates.length n2, .slice a3 x.events.length n3] 34) = w1 from HW1.out.symm]
  go_wp2_with fail
  obtain ⟨w2, hw2⟩ : ∃ w2, w2 = w1 := ⟨_, rfl⟩
  rw [← hw2]
  have hx02 : Ext w w2 := by rw [hw2]; exact hx1
  have HROW : Hid (∀ wr, Ext w2 wr → wr.heap[w.heap.size]? = some (.cells (acCells x.kind x.a x.b x.n x.path (.slice a1 x.data.length n1) (.slice a2 x.fates.length n2) (.slice a3 x.events.length n3)) 34 (0, 0))) := fun wr h => h.row (by rw [hw2]; exact hg1)
  clear hw2 hx1
  clear c0 c1 c2 c3 c4 c5 c6 c7 hg1
  have hs0 := hx02.size
  skip
  go_wp2_with fail
  go_loopw [4, 6] (fun f i wr => ∃ k : Nat, k ≤ x.fates.length ∧ i = .int .i64 k ∧ f = S8 (fL x k) ∧ (fL x k).length ≤ 22 * k ∧ Ext w2 wr) (fun _ i _ => x.fates.length - (intOf i).toNat)
  case atStart => exact ⟨0, Nat.zero_le _, rfl, rfl, by simp [fL_zero], Ext.refl _⟩
  case round =>
    obtain ⟨k, hk, rfl, rfl, hfk, hxr⟩ := hrel
    obtain ⟨c0, c1, c2, c3, c4, c5, c6, c7⟩ := cellsAt8 (HROW.out wr hxr)
    by_cases hlt : k < x.fates.length
    · obtain ⟨f, hff⟩ : ∃ f, x.fates[k]? = some f := ⟨_, List.getElem?_eq_getElem hlt⟩
      obtain ⟨b, o, rfl, hc⟩ := G4.out k hlt
      have hcf := (hx02.trans hxr).cell (hc k hlt)
      rw [show x.fates.getD k 0 = f by rw [List.getD_eq_getElem?_getD, hff]; rfl] at hcf
      have hfo := HS.out.ok.2.2.2.2.1 f (List.mem_of_getElem? hff)
      have hil := itoa_len _ hfo
      have HFO : Hid _ := hfo
      have HFF : Hid _ := hff
      clear hc hff hfo c0 c1 c2 c3 c4 c5 c7
      by_cases hk0 : k = 0
      · subst hk0
        simp only [Nat.add_zero] at hcf
        have HN : Hid (fL x 1 = Lib.itoa f) := fL_one HFF.out
        have hz : fL x 0 = [] := rfl
        obtain ⟨T, hT⟩ : ∃ T, Lib.itoa f = T := ⟨_, rfl⟩
        have HT : Hid _ := hT
        rw [hT] at hil
        have hcat := cat8 [] T
        clear hT
        go_wp2_with (go_at_call 36; go_must (refine (dec_any f _ HFO.out).mono ?_; rw [HT.out]; rintro e w3 ⟨rfl, hx3⟩))
        go_roundw
        case rel => exact ⟨1, by omega, by go_num, by rw [HN.out, HT.out], by rw [HN.out, HT.out]; omega, hxr.trans hx3⟩
        case measure => simp [intOf]; omega
      · have hkp : (0 : Int) < (k : Int) := by omega
        have HN : Hid (fL x (k + 1) = fL x k ++ [44] ++ Lib.itoa f) := fL_more HFF.out (by omega)
        obtain ⟨T, hT⟩ : ∃ T, Lib.itoa f = T := ⟨_, rfl⟩
        have HT : Hid _ := hT
        rw [hT] at hil
        obtain ⟨F, hF⟩ : ∃ F, fL x k = F := ⟨_, rfl⟩
        have HF0 : Hid _ := hF
        rw [hF] at hfk
        obtain ⟨F1, hF1⟩ : ∃ F1, F ++ [44] = F1 := ⟨_, rfl⟩
        have HF1 : Hid _ := hF1
        have hl1 : F1.length = F.length + 1 := by rw [← hF1]; simp
        obtain ⟨F2, hF2⟩ : ∃ F2, F1 ++ T = F2 := ⟨_, rfl⟩
        have HF2 : Hid _ := hF2
        have hl2 : F2.length = F1.length + T.length := by rw [← hF2]; simp
        have hcat1 : ((⟨F.toArray⟩ : ByteArray) ++ (⟨#[44]⟩ : ByteArray)) = (⟨F1.toArray⟩ : ByteArray) := by rw [← hF1]; exact cat8 F [44]
        have hcat2 : ((⟨F1.toArray⟩ : ByteArray) ++ (⟨T.toArray⟩ : ByteArray)) = (⟨F2.toArray⟩ : ByteArray) := by rw [← hF2]; exact cat8 F1 T
        clear hT hF1 hF2 hk0
        go_wp2_with (go_at_call 36; go_must (refine (dec_any f _ HFO.out).mono ?_; rw [HT.out]; rintro e w3 ⟨rfl, hx3⟩))
        go_roundw
        case rel => exact ⟨k + 1, by omega, by go_num, by rw [HN.out, HF0.out, HT.out, HF1.out, HF2.out], by rw [HN.out, HF0.out, HT.out, HF1.out, HF2.out]; omega, hxr.trans hx3⟩
        case measure => simp [intOf]; omega
    · have hkk : k = x.fates.length := by omega
      subst hkk
      have HXR : Hid _ := hxr
      clear c0 c1 c2 c3 c4 c5 hk hlt
      go_wp2_with fail
      go_loopw [3, 5, 7] (fun gd v i wr => ∃ k : Nat, k ≤ x.events.length ∧ i = .int .i64 k ∧ gd = .bool (bz && (x.events.take k).all evTold) ∧ v = S8 (vL x k) ∧ (vL x k).length ≤ 9200001 * k ∧ Ext w2 wr) (fun _ _ i _ => x.events.length - (intOf i).toNat)
      case atStart => exact ⟨0, Nat.zero_le _, rfl, by simp [HBZ.out], rfl, by simp [vL_zero], HXR.out⟩
      case round =>
        obtain ⟨k, hk, rfl, rfl, rfl, hvk, hxr⟩ := hrel
        obtain ⟨c0, c1, c2, c3, c4, c5, c6, c7⟩ := cellsAt8 (HROW.out wr hxr)
        have hx0r := hx02.trans hxr
        by_cases hlt : k < x.events.length
        · obtain ⟨e, hee⟩ : ∃ e, x.events[k]? = some e := ⟨_, List.getElem?_eq_getElem hlt⟩
          obtain ⟨b, o, vd', rfl, hb, y0, y1, y2, y3, y4, y5, y6⟩ := M4.out k e hee
          have f0 := hx0r.cell y0
          have f1 := hx0r.cell y1
          have f2 := hx0r.cell y2
          have f3 := hx0r.cell y3
          have f4 := hx0r.cell y4
          have f5 := hx0r.cell y5
          have f6 := hx0r.cell y6
          have HEV : Hid _ := hb.ext hx0r
          obtain ⟨va, vc, rfl, -⟩ := hb
          have heo := HS.out.ok.2.2.2.2.2 e (List.mem_of_getElem? hee)
          have hep2 := HS.out.ep e (List.mem_of_getElem? hee)
          have hel := evS_len e heo hep2.1 hep2.2
          have HEO : Hid _ := heo
          have HE2 : Hid _ := hep2
          have HEE : Hid _ := hee
          have hpe := HEP.out e (List.mem_of_getElem? hee)
          have HPE : Hid _ := hpe
          obtain ⟨gd0, hgd0⟩ : ∃ gd0, (bz && (x.events.take k).all evTold) = gd0 := ⟨_, rfl⟩
          have HG0 : Hid _ := hgd0
          rw [hgd0]
          obtain ⟨T, hT⟩ : ∃ T, evS e = T := ⟨_, rfl⟩
          have HT : Hid _ := hT
          rw [hT] at hel
          obtain ⟨p, hpp⟩ : ∃ p, e.path = p := ⟨_, rfl⟩
          have HPP : Hid _ := hpp
          obtain ⟨pb, hpb⟩ : ∃ pb, plainB p = pb := ⟨_, rfl⟩
          have HPB : Hid _ := hpb
          have h58 := cut_one_iff 58 p
          have h44 := cut_one_iff 44 p
          obtain ⟨b58, hb58⟩ : ∃ b58, (!(Lib.contains p [58])) = b58 := ⟨_, rfl⟩
          obtain ⟨b44, hb44⟩ : ∃ b44, (!(Lib.contains p [44])) = b44 := ⟨_, rfl⟩
          rw [hb58] at h58
          rw [hb44] at h44
          have i58 : (((cut 58 p).length : Int) == 1) = b58 := by rw [← h58]; exact nat_one _
          have i44 : (((cut 44 p).length : Int) == 1) = b44 := by rw [← h44]; exact nat_one _
          have HEQ : Hid ((bz && (x.events.take (k + 1)).all evTold) = (gd0 && (pb && (b58 && b44)))) := by
            unfold Hid
            rw [told_snoc HEE.out, ← Bool.and_assoc, hgd0]
            unfold evTold
            rw [hpp, hpb, hb58, hb44]
          have hpl : p.length ≤ 1000000 := by rw [← hpp]; exact hpe
          have HPL : Hid _ := hpl
          rw [hpp] at f5
          have hcl58 := cut_length 58 p
          have hcl44 := cut_length 44 p
          have HIS : Hid (IsEv wr [.int .i64 e.t, .int .i64 e.kind, .int .i64 e.mode, .int .i64 e.keep, .int .i64 e.torn, S8 p, .slice va e.data.length vc] e) := ⟨_, by rw [hpp], HEV.out⟩
          have hdp : (⟨p.toArray⟩ : ByteArray).toList = p := Lib.toList_data _
          clear hee hgd0 hT hpp hpb hb58 hb44 h58 h44 hpe heo hep2 y0 y1 y2 y3 y4 y5 y6 c0 c1 c2 c3 c4 c5 c6
          by_cases hk0 : k = 0
          · subst hk0
            simp only [Nat.zero_mul, Nat.add_zero] at f0 f1 f2 f3 f4 f5 f6
            have HN : Hid (vL x 1 = T) := by unfold Hid; rw [vL_one HEE.out, HT.out]
            have hz : vL x 0 = [] := rfl
            have hcat := cat8 [] T
            cases gd0 with
            | false =>
              go_wp2_with (go_at_call 37; go_must (refine (revent_any e [.int .i64 e.t, .int .i64 e.kind, .int .i64 e.mode, .int .i64 e.keep, .int .i64 e.torn, S8 p, .slice va e.data.length vc] _ HIS.out HEO.out HE2.out.1 HE2.out.2).mono ?_; rw [HT.out]; rintro e' w3 ⟨rfl, hx3⟩; have c7b := hx3.cell c7; have f5b := hx3.cell f5; have hx23 := hxr.trans hx3))
              go_roundw
              case rel => exact ⟨1, by omega, by go_num, by rw [HEQ.out]; rfl, by rw [HN.out], by rw [HN.out]; omega, hx23⟩
              case measure => simp [intOf]; omega
            | true =>
              cases pb with
              | false =>
                go_wp2_with (first | (go_at_call 37; go_must (refine (revent_any e [.int .i64 e.t, .int .i64 e.kind, .int .i64 e.mode, .int .i64 e.keep, .int .i64 e.torn, S8 p, .slice va e.data.length vc] _ HIS.out HEO.out HE2.out.1 HE2.out.2).mono ?_; rw [HT.out]; rintro e' w3 ⟨rfl, hx3⟩; have c7b := hx3.cell c7; have f5b := hx3.cell f5; have hx23 := hxr.trans hx3)) | (go_at_call 35; go_must (refine (rpath24_any p _ HPL.out).mono ?_; rw [HPB.out]; rintro e' w4 ⟨rfl, hx4⟩; have hx24 := hx23.trans hx4)))
                go_roundw
                case rel => exact ⟨1, by omega, by go_num, by rw [HEQ.out]; rfl, by rw [HN.out], by rw [HN.out]; omega, hx24⟩
                case measure => simp [intOf]; omega
              | true =>
                go_wp2_with (first | (go_at_call 37; go_must (refine (revent_any e [.int .i64 e.t, .int .i64 e.kind, .int .i64 e.mode, .int .i64 e.keep, .int .i64 e.torn, S8 p, .slice va e.data.length vc] _ HIS.out HEO.out HE2.out.1 HE2.out.2).mono ?_; rw [HT.out]; rintro e' w3 ⟨rfl, hx3⟩; have c7b := hx3.cell c7; have f5b := hx3.cell f5; have hx23 := hxr.trans hx3)) | (go_at_call 35; go_must (refine (rpath24_any p _ HPL.out).mono ?_; rw [HPB.out]; rintro e' w4 ⟨rfl, hx4⟩; have hx24 := hx23.trans hx4)))
                go_at_call 23
                refine (rsplit_any ⟨p.toArray⟩ 58 _ HPL.out).mono ?_
                rintro e' w5 ⟨v5, rfl, hv5, -, hx5⟩
                rw [show (⟨p.toArray⟩ : ByteArray).data.toList = p from rfl] at hv5
                obtain ⟨j1, j2, rfl, -⟩ := hv5.get
                clear hv5
                have hx25 := hx24.trans hx5
                cases b58 with
                | false =>
                  go_wp2
                  go_roundw
                  case rel => exact ⟨1, by omega, by go_num, by rw [HEQ.out]; rfl, by rw [HN.out], by rw [HN.out]; omega, hx25⟩
                  case measure => simp [intOf]; omega
                | true =>
                  go_wp2_with fail
                  go_at_call 23
                  refine (rsplit_any ⟨p.toArray⟩ 44 _ HPL.out).mono ?_
                  rintro e' w6 ⟨v6, rfl, hv6, -, hx6⟩
                  rw [show (⟨p.toArray⟩ : ByteArray).data.toList = p from rfl] at hv6
                  obtain ⟨j3, j4, rfl, -⟩ := hv6.get
                  clear hv6
                  have hx26 := hx25.trans hx6
                  go_wp2
                  go_roundw
                  case rel => exact ⟨1, by omega, by go_num, by rw [HEQ.out]; rfl, by rw [HN.out], by rw [HN.out]; omega, hx26⟩
                  case measure => simp [intOf]; omega
          · have hkp : (0 : Int) < (k : Int) := by omega
            obtain ⟨F, hF⟩ : ∃ F, vL x k = F := ⟨_, rfl⟩
            have HF0 : Hid _ := hF
            rw [hF] at hvk
            obtain ⟨F1, hF1⟩ : ∃ F1, F ++ [44] = F1 := ⟨_, rfl⟩
            have hl1 : F1.length = F.length + 1 := by rw [← hF1]; simp
            obtain ⟨F2, hF2⟩ : ∃ F2, F1 ++ T = F2 := ⟨_, rfl⟩
            have hl2 : F2.length = F1.length + T.length := by rw [← hF2]; simp
            have hcat1 : ((⟨F.toArray⟩ : ByteArray) ++ (⟨#[44]⟩ : ByteArray)) = (⟨F1.toArray⟩ : ByteArray) := by rw [← hF1]; exact cat8 F [44]
            have hcat2 : ((⟨F1.toArray⟩ : ByteArray) ++ (⟨T.toArray⟩ : ByteArray)) = (⟨F2.toArray⟩ : ByteArray) := by rw [← hF2]; exact cat8 F1 T
            have HN : Hid (vL x (k + 1) = F2) := by unfold Hid; rw [vL_more HEE.out (by omega), HF0.out, HT.out, hF1, hF2]
            clear hF1 hF2 hk0
            cases gd0 with
            | false =>
              go_wp2_with (go_at_call 37; go_must (refine (revent_any e [.int .i64 e.t, .int .i64 e.kind, .int .i64 e.mode, .int .i64 e.keep, .int .i64 e.torn, S8 p, .slice va e.data.length vc] _ HIS.out HEO.out HE2.out.1 HE2.out.2).mono ?_; rw [HT.out]; rintro e' w3 ⟨rfl, hx3⟩; have c7b := hx3.cell c7; have f5b := hx3.cell f5; have hx23 := hxr.trans hx3))
              go_roundw
              case rel => exact ⟨k + 1, by omega, by go_num, by rw [HEQ.out]; rfl, by rw [HN.out], by rw [HN.out]; omega, hx23⟩
              case measure => simp [intOf]; omega
            | true =>
              cases pb with
              | false =>
                go_wp2_with (first | (go_at_call 37; go_must (refine (revent_any e [.int .i64 e.t, .int .i64 e.kind, .int .i64 e.mode, .int .i64 e.keep, .int .i64 e.torn, S8 p, .slice va e.data.length vc] _ HIS.out HEO.out HE2.out.1 HE2.out.2).mono ?_; rw [HT.out]; rintro e' w3 ⟨rfl, hx3⟩; have c7b := hx3.cell c7; have f5b := hx3.cell f5; have hx23 := hxr.trans hx3)) | (go_at_call 35; go_must (refine (rpath24_any p _ HPL.out).mono ?_; rw [HPB.out]; rintro e' w4 ⟨rfl, hx4⟩; have hx24 := hx23.trans hx4)))
                go_roundw
                case rel => exact ⟨k + 1, by omega, by go_num, by rw [HEQ.out]; rfl, by rw [HN.out], by rw [HN.out]; omega, hx24⟩
                case measure => simp [intOf]; omega
              | true =>
                go_wp2_with (first | (go_at_call 37; go_must (refine (revent_any e [.int .i64 e.t, .int .i64 e.kind, .int .i64 e.mode, .int .i64 e.keep, .int .i64 e.torn, S8 p, .slice va e.data.length vc] _ HIS.out HEO.out HE2.out.1 HE2.out.2).mono ?_; rw [HT.out]; rintro e' w3 ⟨rfl, hx3⟩; have c7b := hx3.cell c7; have f5b := hx3.cell f5; have hx23 := hxr.trans hx3)) | (go_at_call 35; go_must (refine (rpath24_any p _ HPL.out).mono ?_; rw [HPB.out]; rintro e' w4 ⟨rfl, hx4⟩; have hx24 := hx23.trans hx4)))
                go_at_call 23
                refine (rsplit_any ⟨p.toArray⟩ 58 _ HPL.out).mono ?_
                rintro e' w5 ⟨v5, rfl, hv5, -, hx5⟩
                rw [show (⟨p.toArray⟩ : ByteArray).data.toList = p from rfl] at hv5
                obtain ⟨j1, j2, rfl, -⟩ := hv5.get
                clear hv5
                have hx25 := hx24.trans hx5
                cases b58 with
                | false =>
                  go_wp2
                  go_roundw
                  case rel => exact ⟨k + 1, by omega, by go_num, by rw [HEQ.out]; rfl, by rw [HN.out], by rw [HN.out]; omega, hx25⟩
                  case measure => simp [intOf]; omega
                | true =>
                  go_wp2_with fail
                  go_at_call 23
                  refine (rsplit_any ⟨p.toArray⟩ 44 _ HPL.out).mono ?_
                  rintro e' w6 ⟨v6, rfl, hv6, -, hx6⟩
                  rw [show (⟨p.toArray⟩ : ByteArray).data.toList = p from rfl] at hv6
                  obtain ⟨j3, j4, rfl, -⟩ := hv6.get
                  clear hv6
                  have hx26 := hx25.trans hx6
                  go_wp2
                  go_roundw
                  case rel => exact ⟨k + 1, by omega, by go_num, by rw [HEQ.out]; rfl, by rw [HN.out], by rw [HN.out]; omega, hx26⟩
                  case measure => simp [intOf]; omega
        · have hkk : k = x.events.length := by omega
          subst hkk
          obtain ⟨gd, hgd⟩ : ∃ gd, (bz && (x.events.take x.events.length).all evTold) = gd := ⟨_, rfl⟩
          have hTL : tellsB x = gd := by rw [← hgd, List.take_length]; exact HG.out
          rw [hgd]
          clear hgd
          cases gd with
          | false =>
            have HP : Hid (printL x = [63]) := by unfold Hid printL; rw [hTL]; rfl
            go_wp2
            go_ret
            rw [HP.out]
            exact ⟨rfl, hx0r⟩
          | true =>
            have hno := HG.out
            rw [HBZ.out, hTL] at hno
            cases hno

set_option maxRecDepth 100000 in
set_option maxHeartbeats 8000000 in
theorem rprint_high (x : Ac) (cs : List Value) (w : World) (hx : IsAc w cs x) (hs : x.small) (hp : x.path.length ≤ 1000000) (hep : ∀ e ∈ x.events, e.path.length ≤ 1000000) (hk1 : 1 ≤ x.kind) (hk8 : ¬ x.kind ≤ 8) :
    Calls Tryd.prog 12 #[.agg cs.toArray] w fun e w' => e = .returned (S8 (printL x)) ∧ Ext w w' := by
  obtain ⟨vd, vf, ve, rfl, hd, hf, he⟩ := hx
  have HB : Hid _ := hd
  have HS : Hid _ := hs
  have HEP : Hid _ := hep
  obtain ⟨a1, n1, rfl, -⟩ := id hd
  obtain ⟨a2, n2, rfl, -, hl2, -, g4⟩ := hf.get
  obtain ⟨a3, n3, rfl, -, hl3, -, m4⟩ := he.get
  have hnf := hs.nf
  have hne := hs.ne
  have G4 : Hid _ := g4
  have M4 : Hid _ := m4
  obtain ⟨w1, hw1⟩ : ∃ w1, w1 = w.alloc (.cells (acCells x.kind x.a x.b x.n x.path (.slice a1 x.data.length n1) (.slice a2 x.fates.length n2) (.slice a3 x.events.length n3)) 34) := ⟨_, rfl⟩
  have hx1 : Ext w w1 := by rw [hw1]; exact (Ext.refl _).alloc _
  have hg1 : w1.heap[w.heap.size]? = some (.cells (acCells x.kind x.a x.b x.n x.path (.slice a1 x.data.length n1) (.slice a2 x.fates.length n2) (.slice a3 x.events.length n3)) 34 (0, 0)) := by rw [hw1]; exact alloc_at _ _
  have HW1 : Hid _ := hw1
  obtain ⟨c0, c1, c2, c3, c4, c5, c6, c7⟩ := cellsAt8 hg1
  clear hw1 hd hf he g4 m4 hs hep
  obtain ⟨bz, hbz⟩ : ∃ bz : Bool, bz = false := ⟨_, rfl⟩
  have HBZ : Hid _ := hbz
  have HG : Hid (tellsB x = (bz && x.events.all evTold)) := by
    unfold Hid tellsB
    rw [hbz, decide_eq_false (p := x.kind ≤ 8) hk8]
    simp
  clear hbz
  go_enter Tryd.func12, Tryd.ntmps12
  go_wp2_with fail
  rw [show w.alloc (.cells #[.int .i64 x.kind, .int .i64 x.a, .int .i64 x.b, .int .i64 x.n, S8 x.path, .slice a1 x.data.length n1, .slice a2 x.fates.length n2, .slice a3 x.events.length n3] 34) = w1 from HW1.out.symm]
  go_wp2_with fail
  obtain ⟨w2, hw2⟩ : ∃ w2, w2 = w1 := ⟨_, rfl⟩
  rw [← hw2]
  have hx02 : Ext w w2 := by rw [hw2]; exact hx1
  have HROW : Hid (∀ wr, Ext w2 wr → wr.heap[w.heap.size]? = some (.cells (acCells x.kind x.a x.b x.n x.path (.slice a1 x.data.length n1) (.slice a2 x.fates.length n2) (.slice a3 x.events.length n3)) 34 (0, 0))) := fun wr h => h.row (by rw [hw2]; exact hg1)
  clear hw2 hx1
  clear c0 c1 c2 c3 c4 c5 c6 c7 hg1
  have hs0 := hx02.size
  skip
  go_wp2_with fail
  go_loopw [4, 6] (fun f i wr => ∃ k : Nat, k ≤ x.fates.length ∧ i = .int .i64 k ∧ f = S8 (fL x k) ∧ (fL x k).length ≤ 22 * k ∧ Ext w2 wr) (fun _ i _ => x.fates.length - (intOf i).toNat)
  case atStart => exact ⟨0, Nat.zero_le _, rfl, rfl, by simp [fL_zero], Ext.refl _⟩
  case round =>
    obtain ⟨k, hk, rfl, rfl, hfk, hxr⟩ := hrel
    obtain ⟨c0, c1, c2, c3, c4, c5, c6, c7⟩ := cellsAt8 (HROW.out wr hxr)
    by_cases hlt : k < x.fates.length
    · obtain ⟨f, hff⟩ : ∃ f, x.fates[k]? = some f := ⟨_, List.getElem?_eq_getElem hlt⟩
      obtain ⟨b, o, rfl, hc⟩ := G4.out k hlt
      have hcf := (hx02.trans hxr).cell (hc k hlt)
      rw [show x.fates.getD k 0 = f by rw [List.getD_eq_getElem?_getD, hff]; rfl] at hcf
      have hfo := HS.out.ok.2.2.2.2.1 f (List.mem_of_getElem? hff)
      have hil := itoa_len _ hfo
      have HFO : Hid _ := hfo
      have HFF : Hid _ := hff
      clear hc hff hfo c0 c1 c2 c3 c4 c5 c7
      by_cases hk0 : k = 0
      · subst hk0
        simp only [Nat.add_zero] at hcf
        have HN : Hid (fL x 1 = Lib.itoa f) := fL_one HFF.out
        have hz : fL x 0 = [] := rfl
        obtain ⟨T, hT⟩ : ∃ T, Lib.itoa f = T := ⟨_, rfl⟩
        have HT : Hid _ := hT
        rw [hT] at hil
        have hcat := cat8 [] T
        clear hT
        go_wp2_with (go_at_call 36; go_must (refine (dec_any f _ HFO.out).mono ?_; rw [HT.out]; rintro e w3 ⟨rfl, hx3⟩))
        go_roundw
        case rel => exact ⟨1, by omega, by go_num, by rw [HN.out, HT.out], by rw [HN.out, HT.out]; omega, hxr.trans hx3⟩
        case measure => simp [intOf]; omega
      · have hkp : (0 : Int) < (k : Int) := by omega
        have HN : Hid (fL x (k + 1) = fL x k ++ [44] ++ Lib.itoa f) := fL_more HFF.out (by omega)
        obtain ⟨T, hT⟩ : ∃ T, Lib.itoa f = T := ⟨_, rfl⟩
        have HT : Hid _ := hT
        rw [hT] at hil
        obtain ⟨F, hF⟩ : ∃ F, fL x k = F := ⟨_, rfl⟩
        have HF0 : Hid _ := hF
        rw [hF] at hfk
        obtain ⟨F1, hF1⟩ : ∃ F1, F ++ [44] = F1 := ⟨_, rfl⟩
        have HF1 : Hid _ := hF1
        have hl1 : F1.length = F.length + 1 := by rw [← hF1]; simp
        obtain ⟨F2, hF2⟩ : ∃ F2, F1 ++ T = F2 := ⟨_, rfl⟩
        have HF2 : Hid _ := hF2
        have hl2 : F2.length = F1.length + T.length := by rw [← hF2]; simp
        have hcat1 : ((⟨F.toArray⟩ : ByteArray) ++ (⟨#[44]⟩ : ByteArray)) = (⟨F1.toArray⟩ : ByteArray) := by rw [← hF1]; exact cat8 F [44]
        have hcat2 : ((⟨F1.toArray⟩ : ByteArray) ++ (⟨T.toArray⟩ : ByteArray)) = (⟨F2.toArray⟩ : ByteArray) := by rw [← hF2]; exact cat8 F1 T
        clear hT hF1 hF2 hk0
        go_wp2_with (go_at_call 36; go_must (refine (dec_any f _ HFO.out).mono ?_; rw [HT.out]; rintro e w3 ⟨rfl, hx3⟩))
        go_roundw
        case rel => exact ⟨k + 1, by omega, by go_num, by rw [HN.out, HF0.out, HT.out, HF1.out, HF2.out], by rw [HN.out, HF0.out, HT.out, HF1.out, HF2.out]; omega, hxr.trans hx3⟩
        case measure => simp [intOf]; omega
    · have hkk : k = x.fates.length := by omega
      subst hkk
      have HXR : Hid _ := hxr
      clear c0 c1 c2 c3 c4 c5 hk hlt
      go_wp2_with fail
      go_loopw [3, 5, 7] (fun gd v i wr => ∃ k : Nat, k ≤ x.events.length ∧ i = .int .i64 k ∧ gd = .bool (bz && (x.events.take k).all evTold) ∧ v = S8 (vL x k) ∧ (vL x k).length ≤ 9200001 * k ∧ Ext w2 wr) (fun _ _ i _ => x.events.length - (intOf i).toNat)
      case atStart => exact ⟨0, Nat.zero_le _, rfl, by simp [HBZ.out], rfl, by simp [vL_zero], HXR.out⟩
      case round =>
        obtain ⟨k, hk, rfl, rfl, rfl, hvk, hxr⟩ := hrel
        obtain ⟨c0, c1, c2, c3, c4, c5, c6, c7⟩ := cellsAt8 (HROW.out wr hxr)
        have hx0r := hx02.trans hxr
        by_cases hlt : k < x.events.length
        · obtain ⟨e, hee⟩ : ∃ e, x.events[k]? = some e := ⟨_, List.getElem?_eq_getElem hlt⟩
          obtain ⟨b, o, vd', rfl, hb, y0, y1, y2, y3, y4, y5, y6⟩ := M4.out k e hee
          have f0 := hx0r.cell y0
          have f1 := hx0r.cell y1
          have f2 := hx0r.cell y2
          have f3 := hx0r.cell y3
          have f4 := hx0r.cell y4
          have f5 := hx0r.cell y5
          have f6 := hx0r.cell y6
          have HEV : Hid _ := hb.ext hx0r
          obtain ⟨va, vc, rfl, -⟩ := hb
          have heo := HS.out.ok.2.2.2.2.2 e (List.mem_of_getElem? hee)
          have hep2 := HS.out.ep e (List.mem_of_getElem? hee)
          have hel := evS_len e heo hep2.1 hep2.2
          have HEO : Hid _ := heo
          have HE2 : Hid _ := hep2
          have HEE : Hid _ := hee
          have hpe := HEP.out e (List.mem_of_getElem? hee)
          have HPE : Hid _ := hpe
          obtain ⟨gd0, hgd0⟩ : ∃ gd0, (bz && (x.events.take k).all evTold) = gd0 := ⟨_, rfl⟩
          have HG0 : Hid _ := hgd0
          rw [hgd0]
          obtain ⟨T, hT⟩ : ∃ T, evS e = T := ⟨_, rfl⟩
          have HT : Hid _ := hT
          rw [hT] at hel
          obtain ⟨p, hpp⟩ : ∃ p, e.path = p := ⟨_, rfl⟩
          have HPP : Hid _ := hpp
          obtain ⟨pb, hpb⟩ : ∃ pb, plainB p = pb := ⟨_, rfl⟩
          have HPB : Hid _ := hpb
          have h58 := cut_one_iff 58 p
          have h44 := cut_one_iff 44 p
          obtain ⟨b58, hb58⟩ : ∃ b58, (!(Lib.contains p [58])) = b58 := ⟨_, rfl⟩
          obtain ⟨b44, hb44⟩ : ∃ b44, (!(Lib.contains p [44])) = b44 := ⟨_, rfl⟩
          rw [hb58] at h58
          rw [hb44] at h44
          have i58 : (((cut 58 p).length : Int) == 1) = b58 := by rw [← h58]; exact nat_one _
          have i44 : (((cut 44 p).length : Int) == 1) = b44 := by rw [← h44]; exact nat_one _
          have HEQ : Hid ((bz && (x.events.take (k + 1)).all evTold) = (gd0 && (pb && (b58 && b44)))) := by
            unfold Hid
            rw [told_snoc HEE.out, ← Bool.and_assoc, hgd0]
            unfold evTold
            rw [hpp, hpb, hb58, hb44]
          have hpl : p.length ≤ 1000000 := by rw [← hpp]; exact hpe
          have HPL : Hid _ := hpl
          rw [hpp] at f5
          have hcl58 := cut_length 58 p
          have hcl44 := cut_length 44 p
          have HIS : Hid (IsEv wr [.int .i64 e.t, .int .i64 e.kind, .int .i64 e.mode, .int .i64 e.keep, .int .i64 e.torn, S8 p, .slice va e.data.length vc] e) := ⟨_, by rw [hpp], HEV.out⟩
          have hdp : (⟨p.toArray⟩ : ByteArray).toList = p := Lib.toList_data _
          clear hee hgd0 hT hpp hpb hb58 hb44 h58 h44 hpe heo hep2 y0 y1 y2 y3 y4 y5 y6 c0 c1 c2 c3 c4 c5 c6
          by_cases hk0 : k = 0
          · subst hk0
            simp only [Nat.zero_mul, Nat.add_zero] at f0 f1 f2 f3 f4 f5 f6
            have HN : Hid (vL x 1 = T) := by unfold Hid; rw [vL_one HEE.out, HT.out]
            have hz : vL x 0 = [] := rfl
            have hcat := cat8 [] T
            cases gd0 with
            | false =>
              go_wp2_with (go_at_call 37; go_must (refine (revent_any e [.int .i64 e.t, .int .i64 e.kind, .int .i64 e.mode, .int .i64 e.keep, .int .i64 e.torn, S8 p, .slice va e.data.length vc] _ HIS.out HEO.out HE2.out.1 HE2.out.2).mono ?_; rw [HT.out]; rintro e' w3 ⟨rfl, hx3⟩; have c7b := hx3.cell c7; have f5b := hx3.cell f5; have hx23 := hxr.trans hx3))
              go_roundw
              case rel => exact ⟨1, by omega, by go_num, by rw [HEQ.out]; rfl, by rw [HN.out], by rw [HN.out]; omega, hx23⟩
              case measure => simp [intOf]; omega
            | true =>
              cases pb with
              | false =>
                go_wp2_with (first | (go_at_call 37; go_must (refine (revent_any e [.int .i64 e.t, .int .i64 e.kind, .int .i64 e.mode, .int .i64 e.keep, .int .i64 e.torn, S8 p, .slice va e.data.length vc] _ HIS.out HEO.out HE2.out.1 HE2.out.2).mono ?_; rw [HT.out]; rintro e' w3 ⟨rfl, hx3⟩; have c7b := hx3.cell c7; have f5b := hx3.cell f5; have hx23 := hxr.trans hx3)) | (go_at_call 35; go_must (refine (rpath24_any p _ HPL.out).mono ?_; rw [HPB.out]; rintro e' w4 ⟨rfl, hx4⟩; have hx24 := hx23.trans hx4)))
                go_roundw
                case rel => exact ⟨1, by omega, by go_num, by rw [HEQ.out]; rfl, by rw [HN.out], by rw [HN.out]; omega, hx24⟩
                case measure => simp [intOf]; omega
              | true =>
                go_wp2_with (first | (go_at_call 37; go_must (refine (revent_any e [.int .i64 e.t, .int .i64 e.kind, .int .i64 e.mode, .int .i64 e.keep, .int .i64 e.torn, S8 p, .slice va e.data.length vc] _ HIS.out HEO.out HE2.out.1 HE2.out.2).mono ?_; rw [HT.out]; rintro e' w3 ⟨rfl, hx3⟩; have c7b := hx3.cell c7; have f5b := hx3.cell f5; have hx23 := hxr.trans hx3)) | (go_at_call 35; go_must (refine (rpath24_any p _ HPL.out).mono ?_; rw [HPB.out]; rintro e' w4 ⟨rfl, hx4⟩; have hx24 := hx23.trans hx4)))
                go_at_call 23
                refine (rsplit_any ⟨p.toArray⟩ 58 _ HPL.out).mono ?_
                rintro e' w5 ⟨v5, rfl, hv5, -, hx5⟩
                rw [show (⟨p.toArray⟩ : ByteArray).data.toList = p from rfl] at hv5
                obtain ⟨j1, j2, rfl, -⟩ := hv5.get
                clear hv5
                have hx25 := hx24.trans hx5
                cases b58 with
                | false =>
                  go_wp2
                  go_roundw
                  case rel => exact ⟨1, by omega, by go_num, by rw [HEQ.out]; rfl, by rw [HN.out], by rw [HN.out]; omega, hx25⟩
                  case measure => simp [intOf]; omega
                | true =>
                  go_wp2_with fail
                  go_at_call 23
                  refine (rsplit_any ⟨p.toArray⟩ 44 _ HPL.out).mono ?_
                  rintro e' w6 ⟨v6, rfl, hv6, -, hx6⟩
                  rw [show (⟨p.toArray⟩ : ByteArray).data.toList = p from rfl] at hv6
                  obtain ⟨j3, j4, rfl, -⟩ := hv6.get
                  clear hv6
                  have hx26 := hx25.trans hx6
                  go_wp2
                  go_roundw
                  case rel => exact ⟨1, by omega, by go_num, by rw [HEQ.out]; rfl, by rw [HN.out], by rw [HN.out]; omega, hx26⟩
                  case measure => simp [intOf]; omega
          · have hkp : (0 : Int) < (k : Int) := by omega
            obtain ⟨F, hF⟩ : ∃ F, vL x k = F := ⟨_, rfl⟩
            have HF0 : Hid _ := hF
            rw [hF] at hvk
            obtain ⟨F1, hF1⟩ : ∃ F1, F ++ [44] = F1 := ⟨_, rfl⟩
            have hl1 : F1.length = F.length + 1 := by rw [← hF1]; simp
            obtain ⟨F2, hF2⟩ : ∃ F2, F1 ++ T = F2 := ⟨_, rfl⟩
            have hl2 : F2.length = F1.length + T.length := by rw [← hF2]; simp
            have hcat1 : ((⟨F.toArray⟩ : ByteArray) ++ (⟨#[44]⟩ : ByteArray)) = (⟨F1.toArray⟩ : ByteArray) := by rw [← hF1]; exact cat8 F [44]
            have hcat2 : ((⟨F1.toArray⟩ : ByteArray) ++ (⟨T.toArray⟩ : ByteArray)) = (⟨F2.toArray⟩ : ByteArray) := by rw [← hF2]; exact cat8 F1 T
            have HN : Hid (vL x (k + 1) = F2) := by unfold Hid; rw [vL_more HEE.out (by omega), HF0.out, HT.out, hF1, hF2]
            clear hF1 hF2 hk0
            cases gd0 with
            | false =>
              go_wp2_with (go_at_call 37; go_must (refine (revent_any e [.int .i64 e.t, .int .i64 e.kind, .int .i64 e.mode, .int .i64 e.keep, .int .i64 e.torn, S8 p, .slice va e.data.length vc] _ HIS.out HEO.out HE2.out.1 HE2.out.2).mono ?_; rw [HT.out]; rintro e' w3 ⟨rfl, hx3⟩; have c7b := hx3.cell c7; have f5b := hx3.cell f5; have hx23 := hxr.trans hx3))
              go_roundw
              case rel => exact ⟨k + 1, by omega, by go_num, by rw [HEQ.out]; rfl, by rw [HN.out], by rw [HN.out]; omega, hx23⟩
              case measure => simp [intOf]; omega
            | true =>
              cases pb with
              | false =>
                go_wp2_with (first | (go_at_call 37; go_must (refine (revent_any e [.int .i64 e.t, .int .i64 e.kind, .int .i64 e.mode, .int .i64 e.keep, .int .i64 e.torn, S8 p, .slice va e.data.length vc] _ HIS.out HEO.out HE2.out.1 HE2.out.2).mono ?_; rw [HT.out]; rintro e' w3 ⟨rfl, hx3⟩; have c7b := hx3.cell c7; have f5b := hx3.cell f5; have hx23 := hxr.trans hx3)) | (go_at_call 35; go_must (refine (rpath24_any p _ HPL.out).mono ?_; rw [HPB.out]; rintro e' w4 ⟨rfl, hx4⟩; have hx24 := hx23.trans hx4)))
                go_roundw
                case rel => exact ⟨k + 1, by omega, by go_num, by rw [HEQ.out]; rfl, by rw [HN.out], by rw [HN.out]; omega, hx24⟩
                case measure => simp [intOf]; omega
              | true =>
                go_wp2_with (first | (go_at_call 37; go_must (refine (revent_any e [.int .i64 e.t, .int .i64 e.kind, .int .i64 e.mode, .int .i64 e.keep, .int .i64 e.torn, S8 p, .slice va e.data.length vc] _ HIS.out HEO.out HE2.out.1 HE2.out.2).mono ?_; rw [HT.out]; rintro e' w3 ⟨rfl, hx3⟩; have c7b := hx3.cell c7; have f5b := hx3.cell f5; have hx23 := hxr.trans hx3)) | (go_at_call 35; go_must (refine (rpath24_any p _ HPL.out).mono ?_; rw [HPB.out]; rintro e' w4 ⟨rfl, hx4⟩; have hx24 := hx23.trans hx4)))
                go_at_call 23
                refine (rsplit_any ⟨p.toArray⟩ 58 _ HPL.out).mono ?_
                rintro e' w5 ⟨v5, rfl, hv5, -, hx5⟩
                rw [show (⟨p.toArray⟩ : ByteArray).data.toList = p from rfl] at hv5
                obtain ⟨j1, j2, rfl, -⟩ := hv5.get
                clear hv5
                have hx25 := hx24.trans hx5
                cases b58 with
                | false =>
                  go_wp2
                  go_roundw
                  case rel => exact ⟨k + 1, by omega, by go_num, by rw [HEQ.out]; rfl, by rw [HN.out], by rw [HN.out]; omega, hx25⟩
                  case measure => simp [intOf]; omega
                | true =>
                  go_wp2_with fail
                  go_at_call 23
                  refine (rsplit_any ⟨p.toArray⟩ 44 _ HPL.out).mono ?_
                  rintro e' w6 ⟨v6, rfl, hv6, -, hx6⟩
                  rw [show (⟨p.toArray⟩ : ByteArray).data.toList = p from rfl] at hv6
                  obtain ⟨j3, j4, rfl, -⟩ := hv6.get
                  clear hv6
                  have hx26 := hx25.trans hx6
                  go_wp2
                  go_roundw
                  case rel => exact ⟨k + 1, by omega, by go_num, by rw [HEQ.out]; rfl, by rw [HN.out], by rw [HN.out]; omega, hx26⟩
                  case measure => simp [intOf]; omega
        · have hkk : k = x.events.length := by omega
          subst hkk
          obtain ⟨gd, hgd⟩ : ∃ gd, (bz && (x.events.take x.events.length).all evTold) = gd := ⟨_, rfl⟩
          have hTL : tellsB x = gd := by rw [← hgd, List.take_length]; exact HG.out
          rw [hgd]
          clear hgd
          cases gd with
          | false =>
            have HP : Hid (printL x = [63]) := by unfold Hid printL; rw [hTL]; rfl
            go_wp2
            go_ret
            rw [HP.out]
            exact ⟨rfl, hx0r⟩
          | true =>
            have hno := HG.out
            rw [HBZ.out, hTL] at hno
            cases hno

theorem rprint_any (x : Ac) (cs : List Value) (w : World) (hx : IsAc w cs x) (hs : x.small) (hp : x.path.length ≤ 1000000) (hep : ∀ e ∈ x.events, e.path.length ≤ 1000000) :
    Calls Tryd.prog 12 #[.agg cs.toArray] w fun e w' => e = .returned (S8 (printL x)) ∧ Ext w w' := by
  by_cases h1 : 1 ≤ x.kind
  · by_cases h8 : x.kind ≤ 8
    · exact rprint_mid x cs w hx hs hp hep h1 h8
    · exact rprint_high x cs w hx hs hp hep h1 h8
  · exact rprint_low x cs w hx hs hp hep h1

end Go.Proofs.YthfkohppillflaaDoor
