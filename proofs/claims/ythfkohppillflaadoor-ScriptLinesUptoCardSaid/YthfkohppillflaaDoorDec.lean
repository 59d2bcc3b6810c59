/- marref.Dec: a number's decimals. Conditions: a number of 64 bits. -/
import Derived.Test.YthfkohppillflaaDoorEvent
import Derived.Test.YthfkohppillflaaDoorRg
import Derived.IntWalk
namespace Go.Proofs.YthfkohppillflaaDoor
open Go Go.RowKit

theorem cat8 (a b : B8) : ((⟨a.toArray⟩ : ByteArray) ++ (⟨b.toArray⟩ : ByteArray)) = (⟨(a ++ b).toArray⟩ : ByteArray) := by
  apply ByteArray.ext
  simp
theorem size8 (a : B8) : (⟨a.toArray⟩ : ByteArray).size = a.length := by
  show a.toArray.size = _
  simp

theorem dec_small {u : Nat} (h : u < 10) : Lib.decDigits u = [UInt8.ofNat (48 + u)] := by rw [Lib.decDigits, dif_pos h]
theorem dec_big {u : Nat} (h : ¬ u < 10) : Lib.decDigits u = Lib.decDigits (u / 10) ++ [UInt8.ofNat (48 + u % 10)] := by rw [Lib.decDigits, dif_neg h]

set_option maxRecDepth 100000 in
set_option maxHeartbeats 1000000 in
theorem dec_any (n : Int) (w : World) (h : I64 n) :
    Calls Tryd.prog 36 #[.int .i64 n] w fun e w' => e = .returned (S8 (Lib.itoa n)) ∧ Ext w w' := by
  induction hN : n.natAbs using Nat.strongRecOn generalizing n w with
  | ind N ih =>
    obtain ⟨hlo, hhi⟩ := h
    obtain ⟨r, hr⟩ : ∃ r : Nat, N % 10 = r := ⟨_, rfl⟩
    obtain ⟨q, hq⟩ : ∃ q : Nat, N / 10 = q := ⟨_, rfl⟩
    obtain ⟨c, hc⟩ : ∃ c : UInt8, UInt8.ofNat (48 + r) = c := ⟨_, rfl⟩
    have hcn : c.toNat = 48 + r := by rw [← hc]; simp only [UInt8.toNat_ofNat']; omega
    have IH : Hid _ := ih
    have hci : (c.toNat : Int) = 48 + (r : Int) := by omega
    have hr9 : (r : Int) ≤ 9 := by omega
    have hqb : (q : Int) ≤ 922337203685477580 := by omega
    have CV : Hid (∀ (w' : World) (g : Nat), w'.heap[g]? = some (.cells #[.int .u8 (48 + (r : Int))] 5 (0, 0)) → (convert 22 9 (.slice (some ⟨g, 0, none⟩) 1 1)).run Tryd.prog w' = .ok (S8 [c]) w') := fun w' g hg => conv_bytes (l := [c]) (Row.new hg (by decide) _ (by simp [hci]))
    have hct := CV.out (w.alloc (.cells #[.int .u8 (48 + (r : Int))] 5)) w.heap.size (alloc_at w _)
    by_cases h0 : n < 0
    · have hnN : n = -(N : Int) := by omega
      have hdN : (N : Int).tdiv 10 = (q : Int) := by rw [Int.tdiv_eq_ediv_of_nonneg (by omega)]; omega
      have hmN : (N : Int).tmod 10 = (r : Int) := by rw [Int.tmod_eq_emod_of_nonneg (by omega)]; omega
      have hdiv : n.tdiv 10 = -(q : Int) := by rw [hnN, Int.neg_tdiv, hdN]
      have hmod : n.tmod 10 = -(r : Int) := by rw [hnN, Int.neg_tmod, hmN]
      clear hdN hmN
      by_cases hq0 : q = 0
      · subst hq0
        have hd0 : n.tdiv 10 = 0 := by rw [hdiv]; rfl
        have HS : Hid (Lib.itoa n = [45] ++ [c]) := by
          unfold Hid Lib.itoa
          rw [if_pos h0, hN, dec_small (by omega), ← hc, show r = N by omega]
          rfl
        have hcat := cat8 [45] [c]
        clear ih hc hr hq hN hnN
        go_enter Tryd.func36, Tryd.ntmps36
        go_wp2
        go_ret
        rw [HS.out]
        exact ⟨rfl, (Ext.refl _).alloc _⟩
      · have HS : Hid (Lib.itoa n = [45] ++ Lib.itoa (q : Int) ++ [c]) := by
          unfold Hid Lib.itoa
          rw [if_pos h0, if_neg (by omega), hN, dec_big (by omega), hq, hr, ← hc]
          rfl
        have hq1 : (-(q : Int) == 0) = false := by simp; omega
        have hI : I64 (q : Int) := by unfold I64; omega
        have hlen := itoa_len _ hI
        have HQ : Hid (∀ w', Calls Tryd.prog 36 #[.int .i64 (q : Int)] w' fun e w2 => e = .returned (S8 (Lib.itoa (q : Int))) ∧ Ext w' w2) := fun w' => IH.out q (by omega) (q : Int) w' hI (by simp)
        generalize Lib.itoa (q : Int) = L at *
        have HL : Hid _ := hlen
        have HC1 : Hid _ := cat8 [45] L
        have HC2 : Hid _ := cat8 ([45] ++ L) [c]
        clear ih hc hr hq hN hnN hq0 hI hct
        go_enter Tryd.func36, Tryd.ntmps36
        go_wp2
        have wq1 : IntKind.i64.wrap (-(q : Int)) = -(q : Int) := IntWalk.i64_in _ (by omega)
        have wq2 : IntKind.i64.wrap (q : Int) = (q : Int) := IntWalk.i64_in _ (by omega)
        have wr1 : IntKind.i64.wrap (48 + (r : Int)) = 48 + (r : Int) := IntWalk.i64_in _ (by omega)
        have wr2 : IntKind.u8.wrap (48 + (r : Int)) = 48 + (r : Int) := by show (48 + (r : Int)) % 256 = _; omega
        apply wp_region_mix 12 [_, .int .i64 (-(q : Int)), .int .i64 (q : Int), S8 L, S8 ([45] ++ L), _, .int .i64 (-(r : Int)), .int .i64 (48 + (r : Int)), .int .u8 (48 + (r : Int)), undef, S8 [c], S8 ([45] ++ L ++ [c])] [none, none, none, none, none, none, none, none, none, some (fun u w' => ∃ g, u = .slice (some ⟨g, 0, none⟩) 1 1 ∧ w'.heap[g]? = some (.cells #[.int .u8 (48 + (r : Int))] 5 (0, 0))), none, none] [[], [0], [1], [2], [3], [], [5], [6], [7], [8], [9], [4, 10]] (by kernel_rfl) (by kernel_rfl) (by simp [mixV])
        · refine ⟨?_, trivial⟩
          · exact fun u w w' he ⟨g, h1, h3⟩ => ⟨g, h1, (he.block g (Array.getElem?_eq_some_iff.1 h3).1).trans h3⟩
        · simp (maxSteps := 1000000) only [List.take_succ_cons, List.take_zero, oblFrom, stepObl, fillFrom, Act.put, List.setIfInBounds_toArray, List.set_cons_zero, List.set_cons_succ, knows, getV, mixV, List.getD_cons_zero, List.getD_cons_succ, and_true, true_and, forall_const]
          refine ⟨?_, ?_, ?_, ?_, ?_, ?_, ?_, ?_, ?_, ?_, ?_, ?_⟩
          · intro xs wq hq R hR
            go_simp
            exact hR _ _ (Ext.refl _) rfl
          · intro xs wq hq hk R hR
            go_simp
            exact hR _ _ (Ext.refl _) rfl
          · intro xs wq hq hk R hR
            go_simp
            exact hR _ _ (Ext.refl _) rfl
          · intro xs wq hq hk R hR
            go_simp
            exact (HQ.out _).mono (by rintro e w8 ⟨rfl, h2⟩; exact ⟨_, rfl, hR _ _ h2 rfl⟩)
          · intro xs wq hq hk R hR
            go_simp
            rw [if_neg (by have := HL.out; omega)]
            exact hR _ _ (Ext.refl _) (congrArg Value.string (cat8 [45] L))
          · intro xs wq hq R hR
            go_simp
            exact hR _ _ (Ext.refl _) rfl
          · intro xs wq hq hk R hR
            go_simp
            exact hR _ _ (Ext.refl _) rfl
          · intro xs wq hq hk R hR
            go_simp
            exact hR _ _ (Ext.refl _) rfl
          · intro xs wq hq hk R hR
            go_simp
            exact hR _ _ (Ext.refl _) rfl
          · intro xs wq hq hk R hR
            go_simp
            exact hR _ _ ((Ext.refl _).alloc _) ⟨_, rfl, alloc_at _ _⟩
          · intro xs wq hq hk R hR
            obtain ⟨g, hg, hgc⟩ := hk
            have hcv := CV.out _ g hgc
            go_simp
            exact hR _ _ (Ext.refl _) rfl
          · intro xs wq hq hk R hR
            obtain ⟨hk0, hk1⟩ := hk
            go_simp
            rw [if_neg (by have := HL.out; omega)]
            exact hR _ _ (Ext.refl _) (congrArg Value.string (cat8 (45 :: L) [c]))
        intro xs w2 hx2 hk
        simp only [heldV, Nat.zero_add, Nat.reduceAdd, and_true] at hk
        obtain ⟨q0, q1, q2, q3, q4, q5, q6, q7, q8, q9, q10, q11⟩ := hk
        simp (maxSteps := 1000000) only [List.take_succ_cons, List.take_zero, List.drop_succ_cons, List.drop_zero, fillFrom, Act.put, List.setIfInBounds_toArray, List.set_cons_zero, List.set_cons_succ, Nat.zero_add, Nat.reduceAdd, q0, q1, q2, q3, q4, q5, q6, q7, q8, q10, q11]
        clear q0 q1 q2 q3 q4 q5 q6 q7 q8 q10 q11
        generalize xs 9 = x9 at *
        go_wp2
        go_ret
        rw [HS.out]
        exact ⟨rfl, hx2⟩
    · have hnN : n = (N : Int) := by omega
      by_cases hq0 : n < 10
      · have hrn : (r : Int) = n := by omega
        rw [hrn] at hct hci
        have HS : Hid (Lib.itoa n = [c]) := by
          unfold Hid Lib.itoa
          rw [if_neg h0, show n.toNat = N by omega, dec_small (by omega), ← hc, show r = N by omega]
        clear ih hc hr hq hN hnN
        go_enter Tryd.func36, Tryd.ntmps36
        go_wp2
        go_ret
        rw [HS.out]
        exact ⟨rfl, (Ext.refl _).alloc _⟩
      · have hdiv : n.tdiv 10 = (q : Int) := by rw [Int.tdiv_eq_ediv_of_nonneg (by omega)]; omega
        have hmod : n.tmod 10 = (r : Int) := by rw [Int.tmod_eq_emod_of_nonneg (by omega)]; omega
        have HS : Hid (Lib.itoa n = Lib.itoa (q : Int) ++ [c]) := by
          unfold Hid Lib.itoa
          rw [if_neg h0, if_neg (by omega), show n.toNat = N by omega, dec_big (by omega), hq, hr, ← hc]
          rfl
        have hI : I64 (q : Int) := by unfold I64; omega
        have hlen := itoa_len _ hI
        have HQ : Hid (∀ w', Calls Tryd.prog 36 #[.int .i64 (q : Int)] w' fun e w2 => e = .returned (S8 (Lib.itoa (q : Int))) ∧ Ext w' w2) := fun w' => IH.out q (by omega) (q : Int) w' hI (by simp)
        generalize Lib.itoa (q : Int) = L at *
        have HL : Hid _ := hlen
        have HC1 : Hid _ := cat8 L [c]
        clear ih hc hr hq hN hnN hI hct
        go_enter Tryd.func36, Tryd.ntmps36
        go_wp2
        have wq2 : IntKind.i64.wrap (q : Int) = (q : Int) := IntWalk.i64_in _ (by omega)
        have wr1 : IntKind.i64.wrap (48 + (r : Int)) = 48 + (r : Int) := IntWalk.i64_in _ (by omega)
        have wr2 : IntKind.u8.wrap (48 + (r : Int)) = 48 + (r : Int) := by show (48 + (r : Int)) % 256 = _; omega
        apply wp_region_mix 10 [_, .int .i64 (q : Int), S8 L, _, .int .i64 (r : Int), .int .i64 (48 + (r : Int)), .int .u8 (48 + (r : Int)), undef, S8 [c], S8 (L ++ [c])] [none, none, none, none, none, none, none, some (fun u w' => ∃ g, u = .slice (some ⟨g, 0, none⟩) 1 1 ∧ w'.heap[g]? = some (.cells #[.int .u8 (48 + (r : Int))] 5 (0, 0))), none, none] [[], [0], [1], [], [3], [4], [5], [6], [7], [2, 8]] (by kernel_rfl) (by kernel_rfl) (by simp [mixV])
        · refine ⟨?_, trivial⟩
          · exact fun u w w' he ⟨g, h1, h3⟩ => ⟨g, h1, (he.block g (Array.getElem?_eq_some_iff.1 h3).1).trans h3⟩
        · simp (maxSteps := 1000000) only [List.take_succ_cons, List.take_zero, oblFrom, stepObl, fillFrom, Act.put, List.setIfInBounds_toArray, List.set_cons_zero, List.set_cons_succ, knows, getV, mixV, List.getD_cons_zero, List.getD_cons_succ, and_true, true_and, forall_const]
          refine ⟨?_, ?_, ?_, ?_, ?_, ?_, ?_, ?_, ?_, ?_⟩
          · intro xs wq hq R hR
            go_simp
            exact hR _ _ (Ext.refl _) rfl
          · intro xs wq hq hk R hR
            go_simp
            exact hR _ _ (Ext.refl _) rfl
          · intro xs wq hq hk R hR
            go_simp
            exact (HQ.out _).mono (by rintro e w8 ⟨rfl, h2⟩; exact ⟨_, rfl, hR _ _ h2 rfl⟩)
          · intro xs wq hq R hR
            go_simp
            exact hR _ _ (Ext.refl _) rfl
          · intro xs wq hq hk R hR
            go_simp
            exact hR _ _ (Ext.refl _) rfl
          · intro xs wq hq hk R hR
            go_simp
            exact hR _ _ (Ext.refl _) rfl
          · intro xs wq hq hk R hR
            go_simp
            exact hR _ _ (Ext.refl _) rfl
          · intro xs wq hq hk R hR
            go_simp
            exact hR _ _ ((Ext.refl _).alloc _) ⟨_, rfl, alloc_at _ _⟩
          · intro xs wq hq hk R hR
            obtain ⟨g, hg, hgc⟩ := hk
            have hcv := CV.out _ g hgc
            go_simp
            exact hR _ _ (Ext.refl _) rfl
          · intro xs wq hq hk R hR
            obtain ⟨hk0, hk1⟩ := hk
            go_simp
            rw [if_neg (by have := HL.out; omega)]
            exact hR _ _ (Ext.refl _) (congrArg Value.string (cat8 L [c]))
        intro xs w2 hx2 hk
        simp only [heldV, Nat.zero_add, Nat.reduceAdd, and_true] at hk
        obtain ⟨q0, q1, q2, q3, q4, q5, q6, q7, q8, q9⟩ := hk
        simp (maxSteps := 1000000) only [List.take_succ_cons, List.take_zero, List.drop_succ_cons, List.drop_zero, fillFrom, Act.put, List.setIfInBounds_toArray, List.set_cons_zero, List.set_cons_succ, Nat.zero_add, Nat.reduceAdd, q0, q1, q2, q3, q4, q5, q6, q8, q9]
        clear q0 q1 q2 q3 q4 q5 q6 q8 q9
        generalize xs 7 = x7 at *
        go_wp2
        go_ret
        rw [HS.out]
        exact ⟨rfl, hx2⟩

end Go.Proofs.YthfkohppillflaaDoor
