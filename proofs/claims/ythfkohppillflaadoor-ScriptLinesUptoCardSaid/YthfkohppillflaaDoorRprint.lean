/- marref24.Print: an act as the document prints it. Conditions: as an act that is printed by the program; paths of at most 1000000 bytes. -/
import Derived.Test.YthfkohppillflaaDoorRevent
import Derived.Test.YthfkohppillflaaDoorPureBack
import Derived.Test.YthfkohppillflaaDoorPlain
namespace Go.Proofs.YthfkohppillflaaDoor
open Go Go.RowKit

theorem mem_contains {c : UInt8} : ∀ {l : B8}, 0 ≤ Lib.index l [c] → c ∈ l
  | [], h => by simp [Lib.index] at h
  | x :: l, h => by
    by_cases hx : x = c
    · simp [hx]
    · rw [index_one_ne x c l hx] at h
      have : 0 ≤ Lib.index l [c] := by
        by_cases h1 : Lib.index l [c] = -1
        · rw [h1] at h; simp at h
        · have := Lib.index_ge l [c]; omega
      exact List.mem_cons_of_mem _ (mem_contains this)
theorem cut_many {c : UInt8} : ∀ {l : B8}, c ∈ l → 2 ≤ (cut c l).length
  | [], h => by simp at h
  | x :: l, h => by
    unfold cut
    have hn := cut_ne c l
    by_cases hx : (x == c) = true
    · rw [if_pos hx]
      have : 1 ≤ (cut c l).length := by
        cases hc : cut c l with
        | nil => exact (hn hc).elim
        | cons a t => simp
      simp only [List.length_cons]
      omega
    · rw [if_neg hx]
      have hm : c ∈ l := by
        rcases List.mem_cons.1 h with h | h
        · exact (hx (by simp [h])).elim
        · exact h
      have := cut_many hm
      cases hc : cut c l with
      | nil => exact (hn hc).elim
      | cons a t => rw [hc] at this; simpa using this
theorem cut_one_iff (c : UInt8) (l : B8) : ((cut c l).length == 1) = !(Lib.contains l [c]) := by
  by_cases h : c ∈ l
  · have h1 := cut_many h
    have h2 := contains_mem h
    have h3 : Lib.contains l [c] = true := by unfold Lib.contains; simpa using h2
    rw [h3]
    simp
    omega
  · rw [cut_one h]
    have h3 : Lib.contains l [c] = false := by
      unfold Lib.contains
      simp only [decide_eq_false_iff_not]
      exact fun h2 => h (mem_contains h2)
    rw [h3]
    rfl

theorem join_snoc (c : UInt8) : ∀ (L : List B8) (x : B8), L ≠ [] → Lib.join (L ++ [x]) [c] = Lib.join L [c] ++ [c] ++ x
  | [], _, h => (h rfl).elim
  | [y], x, _ => by
    show Lib.join [y, x] [c] = _
    rw [join_more, join_one, join_one]
  | y :: z :: L, x, _ => by
    show Lib.join (y :: z :: (L ++ [x])) [c] = _
    have := join_snoc c (z :: L) x (by simp)
    rw [join_more, join_more]
    rw [show z :: (L ++ [x]) = (z :: L) ++ [x] from rfl, this]
    simp only [List.append_assoc]

theorem nat_one (n : Nat) : ((n : Int) == 1) = (n == 1) := by
  by_cases h : n = 1
  · subst h; rfl
  · rw [beq_eq_false_iff_ne.2 h, beq_eq_false_iff_ne.2 (show (n : Int) ≠ 1 by omega)]
theorem told_snoc {l : List Ev} {k : Nat} {e : Ev} (h : l[k]? = some e) : (l.take (k + 1)).all evTold = ((l.take k).all evTold && evTold e) := by
  obtain ⟨hlt, rfl⟩ := List.getElem?_eq_some_iff.1 h
  rw [List.take_succ_eq_append_getElem hlt, List.all_append]
  simp only [List.all_cons, List.all_nil, Bool.and_true]

def fL (x : Ac) (k : Nat) : B8 := Lib.join ((x.fates.take k).map Lib.itoa) [44]
def vL (x : Ac) (k : Nat) : B8 := Lib.join ((x.events.take k).map evS) [44]
theorem fL_zero (x : Ac) : fL x 0 = [] := rfl
theorem vL_zero (x : Ac) : vL x 0 = [] := rfl
theorem fL_one {x : Ac} {f : Int} (h : x.fates[0]? = some f) : fL x 1 = Lib.itoa f := by
  unfold fL
  rw [List.take_add_one, h]
  exact join_one _ _
theorem vL_one {x : Ac} {e : Ev} (h : x.events[0]? = some e) : vL x 1 = evS e := by
  unfold vL
  rw [List.take_add_one, h]
  exact join_one _ _
theorem fL_more {x : Ac} {k : Nat} {f : Int} (h : x.fates[k]? = some f) (hk : 0 < k) : fL x (k + 1) = fL x k ++ [44] ++ Lib.itoa f := by
  unfold fL
  rw [List.take_add_one, h, Option.toList_some, List.map_append]
  refine join_snoc 44 _ _ ?_
  have := (List.getElem?_eq_some_iff.1 h).1
  intro hn
  have h2 := congrArg List.length hn
  simp only [List.length_map, List.length_take, List.length_nil] at h2
  omega
theorem vL_more {x : Ac} {k : Nat} {e : Ev} (h : x.events[k]? = some e) (hk : 0 < k) : vL x (k + 1) = vL x k ++ [44] ++ evS e := by
  unfold vL
  rw [List.take_add_one, h, Option.toList_some, List.map_append]
  refine join_snoc 44 _ _ ?_
  have := (List.getElem?_eq_some_iff.1 h).1
  intro hn
  have h2 := congrArg List.length hn
  simp only [List.length_map, List.length_take, List.length_nil] at h2
  omega

set_option maxRecDepth 100000 in
set_option maxHeartbeats 8000000 in
theorem rprint_mid (x : Ac) (cs : List Value) (w : World) (hx : IsAc w cs x) (hs : x.small) (hp : x.path.length ≤ 1000000) (hep : ∀ e ∈ x.events, e.path.length ≤ 1000000) (hk1 : 1 ≤ x.kind) (hk8 : x.kind ≤ 8) :
    Calls Tryd.prog 12 #[.agg cs.toArray] w fun e w' => e = .returned (S8 (printL x)) ∧ Ext w w' := by
  obtain ⟨vd, vf, ve, rfl, hd, hf, he⟩ := hx
  have HB : Hid _ := hd
  have HS : Hid _ := hs
  have HEP : Hid _ := hep
  obtain ⟨a1, n1, rfl, -⟩ := id hd
  obtain ⟨a2, n2, rfl, -, hl2, -, g4⟩ := hf.get
  obtain ⟨a3, n3, rfl, -, hl3, -, m4⟩ := he.get
  have hnf := hs.nf
  have hne := hs.ne
  have G4 : Hid _ := g4
  have M4 : Hid _ := m4
  obtain ⟨w1, hw1⟩ : ∃ w1, w1 = w.alloc (.cells (acCells x.kind x.a x.b x.n x.path (.slice a1 x.data.length n1) (.slice a2 x.fates.length n2) (.slice a3 x.events.length n3)) 34) := ⟨_, rfl⟩
  have hx1 : Ext w w1 := by rw [hw1]; exact (Ext.refl _).alloc _
  have hg1 : w1.heap[w.heap.size]? = some (.cells (acCells x.kind x.a x.b x.n x.path (.slice a1 x.data.length n1) (.slice a2 x.fates.length n2) (.slice a3 x.events.length n3)) 34 (0, 0)) := by rw [hw1]; exact alloc_at _ _
  have HW1 : Hid _ := hw1
  obtain ⟨c0, c1, c2, c3, c4, c5, c6, c7⟩ := cellsAt8 hg1
  clear hw1 hd hf he g4 m4 hs hep
  have HG : Hid (tellsB x = (plainB x.path && x.events.all evTold)) := by
    unfold Hid tellsB
    rw [decide_eq_true hk1, decide_eq_true hk8, Bool.true_and, Bool.true_and, Bool.and_comm]
  go_enter Tryd.func12, Tryd.ntmps12
  go_wp2_with fail
  rw [show w.alloc (.cells #[.int .i64 x.kind, .int .i64 x.a, .int .i64 x.b, .int .i64 x.n, S8 x.path, .slice a1 x.data.length n1, .slice a2 x.fates.length n2, .slice a3 x.events.length n3] 34) = w1 from HW1.out.symm]
  go_wp2_with fail
  go_at_call 35
  refine (rpath24_any x.path _ hp).mono ?_
  rintro e w2 ⟨rfl, hx2⟩
  have hx02 := hx1.trans hx2
  have HROW : Hid (∀ wr, Ext w2 wr → wr.heap[w.heap.size]? = some (.cells (acCells x.kind x.a x.b x.n x.path (.slice a1 x.data.length n1) (.slice a2 x.fates.length n2) (.slice a3 x.events.length n3)) 34 (0, 0))) := fun wr h => h.row (hx2.row hg1)
  clear c0 c1 c2 c3 c4 c5 c6 c7 hg1
  have hs0 := hx02.size
  skip
  go_wp2_with fail
  go_loopw [4, 6] (fun f i wr => ∃ k : Nat, k ≤ x.fates.length ∧ i = .int .i64 k ∧ f = S8 (fL x k) ∧ (fL x k).length ≤ 22 * k ∧ Ext w2 wr) (fun _ i _ => x.fates.length - (intOf i).toNat)
  case atStart => exact ⟨0, Nat.zero_le _, rfl, rfl, by simp [fL_zero], Ext.refl _⟩
  case round =>
    obtain ⟨k, hk, rfl, rfl, hfk, hxr⟩ := hrel
    obtain ⟨c0, c1, c2, c3, c4, c5, c6, c7⟩ := cellsAt8 (HROW.out wr hxr)
    by_cases hlt : k < x.fates.length
    · obtain ⟨f, hff⟩ : ∃ f, x.fates[k]? = some f := ⟨_, List.getElem?_eq_getElem hlt⟩
      obtain ⟨b, o, rfl, hc⟩ := G4.out k hlt
      have hcf := (hx02.trans hxr).cell (hc k hlt)
      rw [show x.fates.getD k 0 = f by rw [List.getD_eq_getElem?_getD, hff]; rfl] at hcf
      have hfo := HS.out.ok.2.2.2.2.1 f (List.mem_of_getElem? hff)
      have hil := itoa_len _ hfo
      have HFO : Hid _ := hfo
      have HFF : Hid _ := hff
      clear hc hff hfo c0 c1 c2 c3 c4 c5 c7
      by_cases hk0 : k = 0
      · subst hk0
        simp only [Nat.add_zero] at hcf
        have HN : Hid (fL x 1 = Lib.itoa f) := fL_one HFF.out
        have hz : fL x 0 = [] := rfl
        obtain ⟨T, hT⟩ : ∃ T, Lib.itoa f = T := ⟨_, rfl⟩
        have HT : Hid _ := hT
        rw [hT] at hil
        have hcat := cat8 [] T
        clear hT
        go_wp2_with (go_at_call 36; go_must (refine (dec_any f _ HFO.out).mono ?_; rw [HT.out]; rintro e w3 ⟨rfl, hx3⟩))
        go_roundw
        case rel => exact ⟨1, by omega, by go_num, by rw [HN.out, HT.out], by rw [HN.out, HT.out]; omega, hxr.trans hx3⟩
        case measure => simp [intOf]; omega
      · have hkp : (0 : Int) < (k : Int) := by omega
        have HN : Hid (fL x (k + 1) = fL x k ++ [44] ++ Lib.itoa f) := fL_more HFF.out (by omega)
        obtain ⟨T, hT⟩ : ∃ T, Lib.itoa f = T := ⟨_, rfl⟩
        have HT : Hid _ := hT
        rw [hT] at hil
        obtain ⟨F, hF⟩ : ∃ F, fL x k = F := ⟨_, rfl⟩
        have HF0 : Hid _ := hF
        rw [hF] at hfk
        obtain ⟨F1, hF1⟩ : ∃ F1, F ++ [44] = F1 := ⟨_, rfl⟩
        have HF1 : Hid _ := hF1
        have hl1 : F1.length = F.length + 1 := by rw [← hF1]; simp
        obtain ⟨F2, hF2⟩ : ∃ F2, F1 ++ T = F2 := ⟨_, rfl⟩
        have HF2 : Hid _ := hF2
        have hl2 : F2.length = F1.length + T.length := by rw [← hF2]; simp
        have hcat1 : ((⟨F.toArray⟩ : ByteArray) ++ (⟨#[44]⟩ : ByteArray)) = (⟨F1.toArray⟩ : ByteArray) := by rw [← hF1]; exact cat8 F [44]
        have hcat2 : ((⟨F1.toArray⟩ : ByteArray) ++ (⟨T.toArray⟩ : ByteArray)) = (⟨F2.toArray⟩ : ByteArray) := by rw [← hF2]; exact cat8 F1 T
        clear hT hF1 hF2 hk0
        go_wp2_with (go_at_call 36; go_must (refine (dec_any f _ HFO.out).mono ?_; rw [HT.out]; rintro e w3 ⟨rfl, hx3⟩))
        go_roundw
        case rel => exact ⟨k + 1, by omega, by go_num, by rw [HN.out, HF0.out, HT.out, HF1.out, HF2.out], by rw [HN.out, HF0.out, HT.out, HF1.out, HF2.out]; omega, hxr.trans hx3⟩
        case measure => simp [intOf]; omega
    · have hkk : k = x.fates.length := by omega
      subst hkk
      have HXR : Hid _ := hxr
      clear c0 c1 c2 c3 c4 c5 hk hlt
      go_wp2_with fail
      go_loopw [3, 5, 7] (fun gd v i wr => ∃ k : Nat, k ≤ x.events.length ∧ i = .int .i64 k ∧ gd = .bool (plainB x.path && (x.events.take k).all evTold) ∧ v = S8 (vL x k) ∧ (vL x k).length ≤ 9200001 * k ∧ Ext w2 wr) (fun _ _ i _ => x.events.length - (intOf i).toNat)
      case atStart => exact ⟨0, Nat.zero_le _, rfl, by simp, rfl, by simp [vL_zero], HXR.out⟩
      case round =>
        obtain ⟨k, hk, rfl, rfl, rfl, hvk, hxr⟩ := hrel
        obtain ⟨c0, c1, c2, c3, c4, c5, c6, c7⟩ := cellsAt8 (HROW.out wr hxr)
        have hx0r := hx02.trans hxr
        by_cases hlt : k < x.events.length
        · obtain ⟨e, hee⟩ : ∃ e, x.events[k]? = some e := ⟨_, List.getElem?_eq_getElem hlt⟩
          obtain ⟨b, o, vd', rfl, hb, y0, y1, y2, y3, y4, y5, y6⟩ := M4.out k e hee
          have f0 := hx0r.cell y0
          have f1 := hx0r.cell y1
          have f2 := hx0r.cell y2
          have f3 := hx0r.cell y3
          have f4 := hx0r.cell y4
          have f5 := hx0r.cell y5
          have f6 := hx0r.cell y6
          have HEV : Hid _ := hb.ext hx0r
          obtain ⟨va, vc, rfl, -⟩ := hb
          have heo := HS.out.ok.2.2.2.2.2 e (List.mem_of_getElem? hee)
          have hep2 := HS.out.ep e (List.mem_of_getElem? hee)
          have hel := evS_len e heo hep2.1 hep2.2
          have HEO : Hid _ := heo
          have HE2 : Hid _ := hep2
          have HEE : Hid _ := hee
          have hpe := HEP.out e (List.mem_of_getElem? hee)
          have HPE : Hid _ := hpe
          obtain ⟨gd0, hgd0⟩ : ∃ gd0, (plainB x.path && (x.events.take k).all evTold) = gd0 := ⟨_, rfl⟩
          have HG0 : Hid _ := hgd0
          rw [hgd0]
          obtain ⟨T, hT⟩ : ∃ T, evS e = T := ⟨_, rfl⟩
          have HT : Hid _ := hT
          rw [hT] at hel
          obtain ⟨p, hpp⟩ : ∃ p, e.path = p := ⟨_, rfl⟩
          have HPP : Hid _ := hpp
          obtain ⟨pb, hpb⟩ : ∃ pb, plainB p = pb := ⟨_, rfl⟩
          have HPB : Hid _ := hpb
          have h58 := cut_one_iff 58 p
          have h44 := cut_one_iff 44 p
          obtain ⟨b58, hb58⟩ : ∃ b58, (!(Lib.contains p [58])) = b58 := ⟨_, rfl⟩
          obtain ⟨b44, hb44⟩ : ∃ b44, (!(Lib.contains p [44])) = b44 := ⟨_, rfl⟩
          rw [hb58] at h58
          rw [hb44] at h44
          have i58 : (((cut 58 p).length : Int) == 1) = b58 := by rw [← h58]; exact nat_one _
          have i44 : (((cut 44 p).length : Int) == 1) = b44 := by rw [← h44]; exact nat_one _
          have HEQ : Hid ((plainB x.path && (x.events.take (k + 1)).all evTold) = (gd0 && (pb && (b58 && b44)))) := by
            unfold Hid
            rw [told_snoc HEE.out, ← Bool.and_assoc, hgd0]
            unfold evTold
            rw [hpp, hpb, hb58, hb44]
          have hpl : p.length ≤ 1000000 := by rw [← hpp]; exact hpe
          have HPL : Hid _ := hpl
          rw [hpp] at f5
          have hcl58 := cut_length 58 p
          have hcl44 := cut_length 44 p
          have HIS : Hid (IsEv wr [.int .i64 e.t, .int .i64 e.kind, .int .i64 e.mode, .int .i64 e.keep, .int .i64 e.torn, S8 p, .slice va e.data.length vc] e) := ⟨_, by rw [hpp], HEV.out⟩
          have hdp : (⟨p.toArray⟩ : ByteArray).toList = p := Lib.toList_data _
          clear hee hgd0 hT hpp hpb hb58 hb44 h58 h44 hpe heo hep2 y0 y1 y2 y3 y4 y5 y6 c0 c1 c2 c3 c4 c5 c6
          by_cases hk0 : k = 0
          · subst hk0
            simp only [Nat.zero_mul, Nat.add_zero] at f0 f1 f2 f3 f4 f5 f6
            have HN : Hid (vL x 1 = T) := by unfold Hid; rw [vL_one HEE.out, HT.out]
            have hz : vL x 0 = [] := rfl
            have hcat := cat8 [] T
            cases gd0 with
            | false =>
              go_wp2_with (go_at_call 37; go_must (refine (revent_any e [.int .i64 e.t, .int .i64 e.kind, .int .i64 e.mode, .int .i64 e.keep, .int .i64 e.torn, S8 p, .slice va e.data.length vc] _ HIS.out HEO.out HE2.out.1 HE2.out.2).mono ?_; rw [HT.out]; rintro e' w3 ⟨rfl, hx3⟩; have c7b := hx3.cell c7; have f5b := hx3.cell f5; have hx23 := hxr.trans hx3))
              go_roundw
              case rel => exact ⟨1, by omega, by go_num, by rw [HEQ.out]; rfl, by rw [HN.out], by rw [HN.out]; omega, hx23⟩
              case measure => simp [intOf]; omega
            | true =>
              cases pb with
              | false =>
                go_wp2_with (first | (go_at_call 37; go_must (refine (revent_any e [.int .i64 e.t, .int .i64 e.kind, .int .i64 e.mode, .int .i64 e.keep, .int .i64 e.torn, S8 p, .slice va e.data.length vc] _ HIS.out HEO.out HE2.out.1 HE2.out.2).mono ?_; rw [HT.out]; rintro e' w3 ⟨rfl, hx3⟩; have c7b := hx3.cell c7; have f5b := hx3.cell f5; have hx23 := hxr.trans hx3)) | (go_at_call 35; go_must (refine (rpath24_any p _ HPL.out).mono ?_; rw [HPB.out]; rintro e' w4 ⟨rfl, hx4⟩; have hx24 := hx23.trans hx4)))
                go_roundw
                case rel => exact ⟨1, by omega, by go_num, by rw [HEQ.out]; rfl, by rw [HN.out], by rw [HN.out]; omega, hx24⟩
                case measure => simp [intOf]; omega
              | true =>
                go_wp2_with (first | (go_at_call 37; go_must (refine (revent_any e [.int .i64 e.t, .int .i64 e.kind, .int .i64 e.mode, .int .i64 e.keep, .int .i64 e.torn, S8 p, .slice va e.data.length vc] _ HIS.out HEO.out HE2.out.1 HE2.out.2).mono ?_; rw [HT.out]; rintro e' w3 ⟨rfl, hx3⟩; have c7b := hx3.cell c7; have f5b := hx3.cell f5; have hx23 := hxr.trans hx3)) | (go_at_call 35; go_must (refine (rpath24_any p _ HPL.out).mono ?_; rw [HPB.out]; rintro e' w4 ⟨rfl, hx4⟩; have hx24 := hx23.trans hx4)))
                go_at_call 23
                refine (rsplit_any ⟨p.toArray⟩ 58 _ HPL.out).mono ?_
                rintro e' w5 ⟨v5, rfl, hv5, -, hx5⟩
                rw [show (⟨p.toArray⟩ : ByteArray).data.toList = p from rfl] at hv5
                obtain ⟨j1, j2, rfl, -⟩ := hv5.get
                clear hv5
                have hx25 := hx24.trans hx5
                cases b58 with
                | false =>
                  go_wp2
                  go_roundw
                  case rel => exact ⟨1, by omega, by go_num, by rw [HEQ.out]; rfl, by rw [HN.out], by rw [HN.out]; omega, hx25⟩
                  case measure => simp [intOf]; omega
                | true =>
                  go_wp2_with fail
                  go_at_call 23
                  refine (rsplit_any ⟨p.toArray⟩ 44 _ HPL.out).mono ?_
                  rintro e' w6 ⟨v6, rfl, hv6, -, hx6⟩
                  rw [show (⟨p.toArray⟩ : ByteArray).data.toList = p from rfl] at hv6
                  obtain ⟨j3, j4, rfl, -⟩ := hv6.get
                  clear hv6
                  have hx26 := hx25.trans hx6
                  go_wp2
                  go_roundw
                  case rel => exact ⟨1, by omega, by go_num, by rw [HEQ.out]; rfl, by rw [HN.out], by rw [HN.out]; omega, hx26⟩
                  case measure => simp [intOf]; omega
          · have hkp : (0 : Int) < (k : Int) := by omega
            obtain ⟨F, hF⟩ : ∃ F, vL x k = F := ⟨_, rfl⟩
            have HF0 : Hid _ := hF
            rw [hF] at hvk
            obtain ⟨F1, hF1⟩ : ∃ F1, F ++ [44] = F1 := ⟨_, rfl⟩
            have hl1 : F1.length = F.length + 1 := by rw [← hF1]; simp
            obtain ⟨F2, hF2⟩ : ∃ F2, F1 ++ T = F2 := ⟨_, rfl⟩
            have hl2 : F2.length = F1.length + T.length := by rw [← hF2]; simp
            have hcat1 : ((⟨F.toArray⟩ : ByteArray) ++ (⟨#[44]⟩ : ByteArray)) = (⟨F1.toArray⟩ : ByteArray) := by rw [← hF1]; exact cat8 F [44]
            have hcat2 : ((⟨F1.toArray⟩ : ByteArray) ++ (⟨T.toArray⟩ : ByteArray)) = (⟨F2.toArray⟩ : ByteArray) := by rw [← hF2]; exact cat8 F1 T
            have HN : Hid (vL x (k + 1) = F2) := by unfold Hid; rw [vL_more HEE.out (by omega), HF0.out, HT.out, hF1, hF2]
            clear hF1 hF2 hk0
            cases gd0 with
            | false =>
              go_wp2_with (go_at_call 37; go_must (refine (revent_any e [.int .i64 e.t, .int .i64 e.kind, .int .i64 e.mode, .int .i64 e.keep, .int .i64 e.torn, S8 p, .slice va e.data.length vc] _ HIS.out HEO.out HE2.out.1 HE2.out.2).mono ?_; rw [HT.out]; rintro e' w3 ⟨rfl, hx3⟩; have c7b := hx3.cell c7; have f5b := hx3.cell f5; have hx23 := hxr.trans hx3))
              go_roundw
              case rel => exact ⟨k + 1, by omega, by go_num, by rw [HEQ.out]; rfl, by rw [HN.out], by rw [HN.out]; omega, hx23⟩
              case measure => simp [intOf]; omega
            | true =>
              cases pb with
              | false =>
                go_wp2_with (first | (go_at_call 37; go_must (refine (revent_any e [.int .i64 e.t, .int .i64 e.kind, .int .i64 e.mode, .int .i64 e.keep, .int .i64 e.torn, S8 p, .slice va e.data.length vc] _ HIS.out HEO.out HE2.out.1 HE2.out.2).mono ?_; rw [HT.out]; rintro e' w3 ⟨rfl, hx3⟩; have c7b := hx3.cell c7; have f5b := hx3.cell f5; have hx23 := hxr.trans hx3)) | (go_at_call 35; go_must (refine (rpath24_any p _ HPL.out).mono ?_; rw [HPB.out]; rintro e' w4 ⟨rfl, hx4⟩; have hx24 := hx23.trans hx4)))
                go_roundw
                case rel => exact ⟨k + 1, by omega, by go_num, by rw [HEQ.out]; rfl, by rw [HN.out], by rw [HN.out]; omega, hx24⟩
                case measure => simp [intOf]; omega
              | true =>
                go_wp2_with (first | (go_at_call 37; go_must (refine (revent_any e [.int .i64 e.t, .int .i64 e.kind, .int .i64 e.mode, .int .i64 e.keep, .int .i64 e.torn, S8 p, .slice va e.data.length vc] _ HIS.out HEO.out HE2.out.1 HE2.out.2).mono ?_; rw [HT.out]; rintro e' w3 ⟨rfl, hx3⟩; have c7b := hx3.cell c7; have f5b := hx3.cell f5; have hx23 := hxr.trans hx3)) | (go_at_call 35; go_must (refine (rpath24_any p _ HPL.out).mono ?_; rw [HPB.out]; rintro e' w4 ⟨rfl, hx4⟩; have hx24 := hx23.trans hx4)))
                go_at_call 23
                refine (rsplit_any ⟨p.toArray⟩ 58 _ HPL.out).mono ?_
                rintro e' w5 ⟨v5, rfl, hv5, -, hx5⟩
                rw [show (⟨p.toArray⟩ : ByteArray).data.toList = p from rfl] at hv5
                obtain ⟨j1, j2, rfl, -⟩ := hv5.get
                clear hv5
                have hx25 := hx24.trans hx5
                cases b58 with
                | false =>
                  go_wp2
                  go_roundw
                  case rel => exact ⟨k + 1, by omega, by go_num, by rw [HEQ.out]; rfl, by rw [HN.out], by rw [HN.out]; omega, hx25⟩
                  case measure => simp [intOf]; omega
                | true =>
                  go_wp2_with fail
                  go_at_call 23
                  refine (rsplit_any ⟨p.toArray⟩ 44 _ HPL.out).mono ?_
                  rintro e' w6 ⟨v6, rfl, hv6, -, hx6⟩
                  rw [show (⟨p.toArray⟩ : ByteArray).data.toList = p from rfl] at hv6
                  obtain ⟨j3, j4, rfl, -⟩ := hv6.get
                  clear hv6
                  have hx26 := hx25.trans hx6
                  go_wp2
                  go_roundw
                  case rel => exact ⟨k + 1, by omega, by go_num, by rw [HEQ.out]; rfl, by rw [HN.out], by rw [HN.out]; omega, hx26⟩
                  case measure => simp [intOf]; omega
        · have hkk : k = x.events.length := by omega
          subst hkk
          obtain ⟨gd, hgd⟩ : ∃ gd, (plainB x.path && (x.events.take x.events.length).all evTold) = gd := ⟨_, rfl⟩
          have hTL : tellsB x = gd := by rw [← hgd, List.take_length]; exact HG.out
          rw [hgd]
          clear hgd
          cases gd with
          | false =>
            have HP : Hid (printL x = [63]) := by unfold Hid printL; rw [hTL]; rfl
            go_wp2
            go_ret
            rw [HP.out]
            exact ⟨rfl, hx0r⟩
          | true =>
            have HTL : Hid _ := hTL
            have hkd := hTL
            unfold tellsB at hkd
            simp only [Bool.and_eq_true, decide_eq_true_eq] at hkd
            obtain ⟨-, hkd1, hkd8, -⟩ := hkd
            clear hTL c6
            have hkk : ∃ kk : Nat, x.kind = kk ∧ 1 ≤ kk ∧ kk ≤ 8 := ⟨x.kind.toNat, by omega, by omega, by omega⟩
            obtain ⟨kk, hkk, hkk1, hkk8⟩ := hkk
            obtain ⟨WD, hWD⟩ : ∃ WD, wordsL.getD (kk - 1) [] = WD := ⟨_, rfl⟩
            have hrw : (rwordsL.map S8)[kk]? = some (S8 WD) := by
              rw [← hWD]
              obtain ⟨j, rfl⟩ : ∃ j, kk = j + 1 := ⟨kk - 1, by omega⟩
              have hj : j < wordsL.length := by show j < 8; omega
              simp [rwordsL, List.getD_eq_getElem?_getD, List.getElem?_eq_getElem hj]
            have hWDl : WD.length ≤ 7 := by
              rw [← hWD]
              generalize kk - 1 = n
              rcases n with _ | _ | _ | _ | _ | _ | _ | _ | n <;> simp [wordsL]
            have HRW : Hid _ := hrw
            have ha1 := itoa_len _ HS.out.ok.2.1
            have D1 : Hid (∀ w', Calls Tryd.prog 36 #[.int .i64 x.a] w' fun x' w2 => x' = .returned (S8 (Lib.itoa x.a)) ∧ Ext w' w2) := fun w' => dec_any _ w' HS.out.ok.2.1
            have ha2 := itoa_len _ HS.out.ok.2.2.1
            have D2 : Hid (∀ w', Calls Tryd.prog 36 #[.int .i64 x.b] w' fun x' w2 => x' = .returned (S8 (Lib.itoa x.b)) ∧ Ext w' w2) := fun w' => dec_any _ w' HS.out.ok.2.2.1
            have ha3 := itoa_len _ HS.out.ok.2.2.2.1
            have D3 : Hid (∀ w', Calls Tryd.prog 36 #[.int .i64 x.n] w' fun x' w2 => x' = .returned (S8 (Lib.itoa x.n)) ∧ Ext w' w2) := fun w' => dec_any _ w' HS.out.ok.2.2.2.1
            have hpl := orL_le x.path
            have N5 : Hid (∀ w', Calls Tryd.prog 38 #[S8 x.path] w' fun x' w2 => x' = .returned (S8 (orL x.path)) ∧ w2 = w') := fun w' => rnone_any x.path w'
            have hhl := hexL_length x.data
            have hol := orL_le (hexL x.data)
            have N6 : Hid (∀ w', Calls Tryd.prog 38 #[S8 (hexL x.data)] w' fun x' w2 => x' = .returned (S8 (orL (hexL x.data))) ∧ w2 = w') := fun w' => rnone_any _ w'
            have hfl2 := orL_le (fL x x.fates.length)
            have N7 : Hid (∀ w', Calls Tryd.prog 38 #[S8 (fL x x.fates.length)] w' fun x' w2 => x' = .returned (S8 (orL (fL x x.fates.length))) ∧ w2 = w') := fun w' => rnone_any _ w'
            have hvl2 := orL_le (vL x x.events.length)
            have N8 : Hid (∀ w', Calls Tryd.prog 38 #[S8 (vL x x.events.length)] w' fun x' w2 => x' = .returned (S8 (orL (vL x x.events.length))) ∧ w2 = w') := fun w' => rnone_any _ w'
            have HSP : Hid (printL x = Lib.join [WD, Lib.itoa x.a, Lib.itoa x.b, Lib.itoa x.n, orL x.path, orL (hexL x.data), orL (fL x x.fates.length), orL (vL x x.events.length)] [32]) := by
              unfold Hid printL fL vL
              rw [if_pos HTL.out, List.take_length, List.take_length, ← hWD, hkk]
              congr 3
              omega
            generalize Lib.itoa x.a = A1 at *
            generalize Lib.itoa x.b = A2 at *
            generalize Lib.itoa x.n = A3 at *
            generalize orL x.path = PP at *
            generalize orL (hexL x.data) = DD at *
            generalize orL (fL x x.fates.length) = FF at *
            generalize orL (vL x x.events.length) = VV at *
            generalize fL x x.fates.length = F0 at *
            generalize vL x x.events.length = V0 at *
            have HX : Hid (∀ w', Ext wr w' → Calls Tryd.prog 39 #[.slice a1 x.data.length n1] w' fun x' w2 => x' = .returned (S8 (hexL x.data)) ∧ Ext w' w2) := fun w' hx => rhex_any _ _ _ (IsBytes.ext HB.out (hx0r.trans hx)) HS.out.data
            have hdl3 := HS.out.data
            obtain ⟨s5, hs5⟩ : ∃ s5 : B8, WD ++ [32] = s5 := ⟨_, rfl⟩
            have ls5 : s5.length = WD.length + ([32] : B8).length := by rw [← hs5, List.length_append]
            simp only [List.length_cons, List.length_nil] at ls5
            have Es5 : Hid _ := hs5
            obtain ⟨s9, hs9⟩ : ∃ s9 : B8, s5 ++ A1 = s9 := ⟨_, rfl⟩
            have ls9 : s9.length = s5.length + (A1 : B8).length := by rw [← hs9, List.length_append]
            have Es9 : Hid _ := hs9
            obtain ⟨s10, hs10⟩ : ∃ s10 : B8, s9 ++ [32] = s10 := ⟨_, rfl⟩
            have ls10 : s10.length = s9.length + ([32] : B8).length := by rw [← hs10, List.length_append]
            simp only [List.length_cons, List.length_nil] at ls10
            have Es10 : Hid _ := hs10
            obtain ⟨s14, hs14⟩ : ∃ s14 : B8, s10 ++ A2 = s14 := ⟨_, rfl⟩
            have ls14 : s14.length = s10.length + (A2 : B8).length := by rw [← hs14, List.length_append]
            have Es14 : Hid _ := hs14
            obtain ⟨s15, hs15⟩ : ∃ s15 : B8, s14 ++ [32] = s15 := ⟨_, rfl⟩
            have ls15 : s15.length = s14.length + ([32] : B8).length := by rw [← hs15, List.length_append]
            simp only [List.length_cons, List.length_nil] at ls15
            have Es15 : Hid _ := hs15
            obtain ⟨s19, hs19⟩ : ∃ s19 : B8, s15 ++ A3 = s19 := ⟨_, rfl⟩
            have ls19 : s19.length = s15.length + (A3 : B8).length := by rw [← hs19, List.length_append]
            have Es19 : Hid _ := hs19
            obtain ⟨s20, hs20⟩ : ∃ s20 : B8, s19 ++ [32] = s20 := ⟨_, rfl⟩
            have ls20 : s20.length = s19.length + ([32] : B8).length := by rw [← hs20, List.length_append]
            simp only [List.length_cons, List.length_nil] at ls20
            have Es20 : Hid _ := hs20
            obtain ⟨s24, hs24⟩ : ∃ s24 : B8, s20 ++ PP = s24 := ⟨_, rfl⟩
            have ls24 : s24.length = s20.length + (PP : B8).length := by rw [← hs24, List.length_append]
            have Es24 : Hid _ := hs24
            obtain ⟨s25, hs25⟩ : ∃ s25 : B8, s24 ++ [32] = s25 := ⟨_, rfl⟩
            have ls25 : s25.length = s24.length + ([32] : B8).length := by rw [← hs25, List.length_append]
            simp only [List.length_cons, List.length_nil] at ls25
            have Es25 : Hid _ := hs25
            obtain ⟨s30, hs30⟩ : ∃ s30 : B8, s25 ++ DD = s30 := ⟨_, rfl⟩
            have ls30 : s30.length = s25.length + (DD : B8).length := by rw [← hs30, List.length_append]
            have Es30 : Hid _ := hs30
            obtain ⟨s31, hs31⟩ : ∃ s31 : B8, s30 ++ [32] = s31 := ⟨_, rfl⟩
            have ls31 : s31.length = s30.length + ([32] : B8).length := by rw [← hs31, List.length_append]
            simp only [List.length_cons, List.length_nil] at ls31
            have Es31 : Hid _ := hs31
            obtain ⟨s34, hs34⟩ : ∃ s34 : B8, s31 ++ FF = s34 := ⟨_, rfl⟩
            have ls34 : s34.length = s31.length + (FF : B8).length := by rw [← hs34, List.length_append]
            have Es34 : Hid _ := hs34
            obtain ⟨s35, hs35⟩ : ∃ s35 : B8, s34 ++ [32] = s35 := ⟨_, rfl⟩
            have ls35 : s35.length = s34.length + ([32] : B8).length := by rw [← hs35, List.length_append]
            simp only [List.length_cons, List.length_nil] at ls35
            have Es35 : Hid _ := hs35
            obtain ⟨s38, hs38⟩ : ∃ s38 : B8, s35 ++ VV = s38 := ⟨_, rfl⟩
            have ls38 : s38.length = s35.length + (VV : B8).length := by rw [← hs38, List.length_append]
            have Es38 : Hid _ := hs38
            have HEE : Hid (printL x = s38) := by
              unfold Hid
              rw [HSP.out, join_more, join_more, join_more, join_more, join_more, join_more, join_more, join_one]
              rw [← hs38, ← hs35, ← hs34, ← hs31, ← hs30, ← hs25, ← hs24, ← hs20, ← hs19, ← hs15, ← hs14, ← hs10, ← hs9, ← hs5]
              simp only [List.append_assoc, List.cons_append, List.nil_append]
            rw [hkk] at c0
            clear hWD hrw hkk hs5 hs9 hs10 hs14 hs15 hs19 hs20 hs24 hs25 hs30 hs31 hs34 hs35 hs38
            have hkk0 : (0 : Int) ≤ (kk : Int) := by omega
            have hkk9 : (kk : Int) < 9 := by omega
            go_wp2
            apply wp_region_mix 39 [undef, _, .int .i64 (kk : Int), undef, S8 WD, S8 s5, _, .int .i64 x.a, S8 A1, S8 s9, S8 s10, _, .int .i64 x.b, S8 A2, S8 s14, S8 s15, _, .int .i64 x.n, S8 A3, S8 s19, S8 s20, _, S8 x.path, S8 PP, S8 s24, S8 s25, _, .slice a1 x.data.length n1, S8 (hexL x.data), S8 DD, S8 s30, S8 s31, S8 F0, S8 FF, S8 s34, S8 s35, S8 V0, S8 VV, S8 s38] [some (fun u w' => ∃ g, u = .slice (some ⟨g, 0, none⟩) 9 9 ∧ w'.heap[g]? = some (.cells (rwordsL.map S8).toArray 9 (0, 0))), none, none, some (fun u w' => ∃ g, u = .pointer (some ⟨g, kk, none⟩) ∧ w'.cell? ⟨g, kk, none⟩ = some (S8 WD)), none, none, none, none, none, none, none, none, none, none, none, none, none, none, none, none, none, none, none, none, none, none, none, none, none, none, none, none, none, none, none, none, none, none, none] [[], [], [1], [0, 2], [3], [4], [], [6], [7], [5, 8], [9], [], [11], [12], [10, 13], [14], [], [16], [17], [15, 18], [19], [], [21], [22], [20, 23], [24], [], [26], [27], [28], [25, 29], [30], [], [32], [31, 33], [34], [], [36], [35, 37]] (by kernel_rfl) (by kernel_rfl) (by simp [mixV])
            · refine ⟨?_, ?_, trivial⟩
              · exact fun u w w' he ⟨g, h1, h3⟩ => ⟨g, h1, (he.block g (Array.getElem?_eq_some_iff.1 h3).1).trans h3⟩
              · exact fun u w w' he ⟨g, h1, h3⟩ => ⟨g, h1, he.cell h3⟩
            · simp (maxSteps := 1000000) only [List.take_succ_cons, List.take_zero, oblFrom, stepObl, fillFrom, Act.put, List.setIfInBounds_toArray, List.set_cons_zero, List.set_cons_succ, knows, getV, mixV, List.getD_cons_zero, List.getD_cons_succ, and_true, true_and, forall_const]
              refine ⟨?_, ?_, ?_, ?_, ?_, ?_, ?_, ?_, ?_, ?_, ?_, ?_, ?_, ?_, ?_, ?_, ?_, ?_, ?_, ?_, ?_, ?_, ?_, ?_, ?_, ?_, ?_, ?_, ?_, ?_, ?_, ?_, ?_, ?_, ?_, ?_, ?_, ?_, ?_⟩
              · intro xs wq hq R hR
                go_simp
                exact (rwords_any _).mono (by rintro x' w8 ⟨⟨g, rfl, -, hg⟩, h2⟩; exact ⟨_, rfl, hR _ _ h2 ⟨g, rfl, hg⟩⟩)
              · intro xs wq hq R hR
                have f0 := hq.cell c0; have f1 := hq.cell c1; have f2 := hq.cell c2; have f3 := hq.cell c3; have f4 := hq.cell c4; have f5 := hq.cell c5
                go_simp
                exact hR _ _ (Ext.refl _) rfl
              · intro xs wq hq hk R hR
                have f0 := hq.cell c0; have f1 := hq.cell c1; have f2 := hq.cell c2; have f3 := hq.cell c3; have f4 := hq.cell c4; have f5 := hq.cell c5
                go_simp
                exact hR _ _ (Ext.refl _) rfl
              · intro xs wq hq hk R hR
                obtain ⟨hk0, hk1⟩ := hk
                obtain ⟨g, hg, hgc⟩ := hk0
                have hcl : wq.cell? ⟨g, kk, none⟩ = some (S8 WD) := (cell_of_row _ _ kk _ _ _ hgc).trans (by rw [List.getElem?_toArray]; exact HRW.out)
                go_simp
                exact hR _ _ (Ext.refl _) ⟨g, rfl, hcl⟩
              · intro xs wq hq hk R hR
                obtain ⟨g, hg, hgc⟩ := hk
                go_simp
                exact hR _ _ (Ext.refl _) rfl
              · intro xs wq hq hk R hR
                go_simp
                rw [if_neg (by omega)]
                exact hR _ _ (Ext.refl _) (cat_eq Es5.out)
              · intro xs wq hq R hR
                have f0 := hq.cell c0; have f1 := hq.cell c1; have f2 := hq.cell c2; have f3 := hq.cell c3; have f4 := hq.cell c4; have f5 := hq.cell c5
                go_simp
                exact hR _ _ (Ext.refl _) rfl
              · intro xs wq hq hk R hR
                have f0 := hq.cell c0; have f1 := hq.cell c1; have f2 := hq.cell c2; have f3 := hq.cell c3; have f4 := hq.cell c4; have f5 := hq.cell c5
                go_simp
                exact hR _ _ (Ext.refl _) rfl
              · intro xs wq hq hk R hR
                go_simp
                exact (D1.out _).mono (by rintro x' w8 ⟨rfl, h2⟩; exact ⟨_, rfl, hR _ _ h2 rfl⟩)
              · intro xs wq hq hk R hR
                obtain ⟨hk0, hk1⟩ := hk
                go_simp
                rw [if_neg (by omega)]
                exact hR _ _ (Ext.refl _) (cat_eq Es9.out)
              · intro xs wq hq hk R hR
                go_simp
                rw [if_neg (by omega)]
                exact hR _ _ (Ext.refl _) (cat_eq Es10.out)
              · intro xs wq hq R hR
                have f0 := hq.cell c0; have f1 := hq.cell c1; have f2 := hq.cell c2; have f3 := hq.cell c3; have f4 := hq.cell c4; have f5 := hq.cell c5
                go_simp
                exact hR _ _ (Ext.refl _) rfl
              · intro xs wq hq hk R hR
                have f0 := hq.cell c0; have f1 := hq.cell c1; have f2 := hq.cell c2; have f3 := hq.cell c3; have f4 := hq.cell c4; have f5 := hq.cell c5
                go_simp
                exact hR _ _ (Ext.refl _) rfl
              · intro xs wq hq hk R hR
                go_simp
                exact (D2.out _).mono (by rintro x' w8 ⟨rfl, h2⟩; exact ⟨_, rfl, hR _ _ h2 rfl⟩)
              · intro xs wq hq hk R hR
                obtain ⟨hk0, hk1⟩ := hk
                go_simp
                rw [if_neg (by omega)]
                exact hR _ _ (Ext.refl _) (cat_eq Es14.out)
              · intro xs wq hq hk R hR
                go_simp
                rw [if_neg (by omega)]
                exact hR _ _ (Ext.refl _) (cat_eq Es15.out)
              · intro xs wq hq R hR
                have f0 := hq.cell c0; have f1 := hq.cell c1; have f2 := hq.cell c2; have f3 := hq.cell c3; have f4 := hq.cell c4; have f5 := hq.cell c5
                go_simp
                exact hR _ _ (Ext.refl _) rfl
              · intro xs wq hq hk R hR
                have f0 := hq.cell c0; have f1 := hq.cell c1; have f2 := hq.cell c2; have f3 := hq.cell c3; have f4 := hq.cell c4; have f5 := hq.cell c5
                go_simp
                exact hR _ _ (Ext.refl _) rfl
              · intro xs wq hq hk R hR
                go_simp
                exact (D3.out _).mono (by rintro x' w8 ⟨rfl, h2⟩; exact ⟨_, rfl, hR _ _ h2 rfl⟩)
              · intro xs wq hq hk R hR
                obtain ⟨hk0, hk1⟩ := hk
                go_simp
                rw [if_neg (by omega)]
                exact hR _ _ (Ext.refl _) (cat_eq Es19.out)
              · intro xs wq hq hk R hR
                go_simp
                rw [if_neg (by omega)]
                exact hR _ _ (Ext.refl _) (cat_eq Es20.out)
              · intro xs wq hq R hR
                have f0 := hq.cell c0; have f1 := hq.cell c1; have f2 := hq.cell c2; have f3 := hq.cell c3; have f4 := hq.cell c4; have f5 := hq.cell c5
                go_simp
                exact hR _ _ (Ext.refl _) rfl
              · intro xs wq hq hk R hR
                have f0 := hq.cell c0; have f1 := hq.cell c1; have f2 := hq.cell c2; have f3 := hq.cell c3; have f4 := hq.cell c4; have f5 := hq.cell c5
                go_simp
                exact hR _ _ (Ext.refl _) rfl
              · intro xs wq hq hk R hR
                go_simp
                exact (N5.out _).mono (by rintro x' w8 ⟨rfl, rfl⟩; exact ⟨_, rfl, hR _ _ (Ext.refl _) rfl⟩)
              · intro xs wq hq hk R hR
                obtain ⟨hk0, hk1⟩ := hk
                go_simp
                rw [if_neg (by omega)]
                exact hR _ _ (Ext.refl _) (cat_eq Es24.out)
              · intro xs wq hq hk R hR
                go_simp
                rw [if_neg (by omega)]
                exact hR _ _ (Ext.refl _) (cat_eq Es25.out)
              · intro xs wq hq R hR
                have f0 := hq.cell c0; have f1 := hq.cell c1; have f2 := hq.cell c2; have f3 := hq.cell c3; have f4 := hq.cell c4; have f5 := hq.cell c5
                go_simp
                exact hR _ _ (Ext.refl _) rfl
              · intro xs wq hq hk R hR
                have f0 := hq.cell c0; have f1 := hq.cell c1; have f2 := hq.cell c2; have f3 := hq.cell c3; have f4 := hq.cell c4; have f5 := hq.cell c5
                go_simp
                exact hR _ _ (Ext.refl _) rfl
              · intro xs wq hq hk R hR
                go_simp
                exact (HX.out _ hq).mono (by rintro x' w8 ⟨rfl, h2⟩; exact ⟨_, rfl, hR _ _ h2 rfl⟩)
              · intro xs wq hq hk R hR
                go_simp
                exact (N6.out _).mono (by rintro x' w8 ⟨rfl, rfl⟩; exact ⟨_, rfl, hR _ _ (Ext.refl _) rfl⟩)
              · intro xs wq hq hk R hR
                obtain ⟨hk0, hk1⟩ := hk
                go_simp
                rw [if_neg (by omega)]
                exact hR _ _ (Ext.refl _) (cat_eq Es30.out)
              · intro xs wq hq hk R hR
                go_simp
                rw [if_neg (by omega)]
                exact hR _ _ (Ext.refl _) (cat_eq Es31.out)
              · intro xs wq hq R hR
                have f0 := hq.cell c0; have f1 := hq.cell c1; have f2 := hq.cell c2; have f3 := hq.cell c3; have f4 := hq.cell c4; have f5 := hq.cell c5
                go_simp
                exact hR _ _ (Ext.refl _) rfl
              · intro xs wq hq hk R hR
                go_simp
                exact (N7.out _).mono (by rintro x' w8 ⟨rfl, rfl⟩; exact ⟨_, rfl, hR _ _ (Ext.refl _) rfl⟩)
              · intro xs wq hq hk R hR
                obtain ⟨hk0, hk1⟩ := hk
                go_simp
                rw [if_neg (by omega)]
                exact hR _ _ (Ext.refl _) (cat_eq Es34.out)
              · intro xs wq hq hk R hR
                go_simp
                rw [if_neg (by omega)]
                exact hR _ _ (Ext.refl _) (cat_eq Es35.out)
              · intro xs wq hq R hR
                have f0 := hq.cell c0; have f1 := hq.cell c1; have f2 := hq.cell c2; have f3 := hq.cell c3; have f4 := hq.cell c4; have f5 := hq.cell c5
                go_simp
                exact hR _ _ (Ext.refl _) rfl
              · intro xs wq hq hk R hR
                go_simp
                exact (N8.out _).mono (by rintro x' w8 ⟨rfl, rfl⟩; exact ⟨_, rfl, hR _ _ (Ext.refl _) rfl⟩)
              · intro xs wq hq hk R hR
                obtain ⟨hk0, hk1⟩ := hk
                go_simp
                rw [if_neg (by omega)]
                exact hR _ _ (Ext.refl _) (cat_eq Es38.out)
            intro xs wz hz hk
            simp only [heldV, Nat.zero_add, Nat.reduceAdd, and_true] at hk
            obtain ⟨q0, q1, q2, q3, q4, q5, q6, q7, q8, q9, q10, q11, q12, q13, q14, q15, q16, q17, q18, q19, q20, q21, q22, q23, q24, q25, q26, q27, q28, q29, q30, q31, q32, q33, q34, q35, q36, q37, q38⟩ := hk
            simp (maxSteps := 1000000) only [List.take_succ_cons, List.take_zero, List.drop_succ_cons, List.drop_zero, fillFrom, Act.put, List.setIfInBounds_toArray, List.set_cons_zero, List.set_cons_succ, Nat.zero_add, Nat.reduceAdd, q1, q2, q4, q5, q6, q7, q8, q9, q10, q11, q12, q13, q14, q15, q16, q17, q18, q19, q20, q21, q22, q23, q24, q25, q26, q27, q28, q29, q30, q31, q32, q33, q34, q35, q36, q37, q38]
            clear q1 q2 q4 q5 q6 q7 q8 q9 q10 q11 q12 q13 q14 q15 q16 q17 q18 q19 q20 q21 q22 q23 q24 q25 q26 q27 q28 q29 q30 q31 q32 q33 q34 q35 q36 q37 q38
            generalize xs 0 = x0 at *
            generalize xs 3 = x3 at *
            go_wp2
            go_ret
            rw [HEE.out]
            exact ⟨rfl, hx0r.trans hz⟩

end Go.Proofs.YthfkohppillflaaDoor
