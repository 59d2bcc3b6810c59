/- marref24.event: an event as the document prints it. Conditions: numbers of 64 bits, a path and data of at most 3000000 bytes. -/
import Derived.Test.YthfkohppillflaaDoorDec
import Derived.Test.YthfkohppillflaaDoorRhex
namespace Go.Proofs.YthfkohppillflaaDoor
open Go Go.RowKit

theorem cat_eq {a b c : B8} (h : a ++ b = c) : Value.string ((⟨a.toArray⟩ : ByteArray) ++ (⟨b.toArray⟩ : ByteArray)) = S8 c := by
  subst h
  exact congrArg Value.string (cat8 a b)
theorem cellsAt7 {w : World} {g : Nat} {v0 v1 v2 v3 v4 v5 v6 : Value} {t : TypeId} {fr : Nat × Nat} (h : w.heap[g]? = some (.cells #[v0, v1, v2, v3, v4, v5, v6] t fr)) :
    w.cell? ⟨g, 0, none⟩ = some v0 ∧ w.cell? ⟨g, 1, none⟩ = some v1 ∧ w.cell? ⟨g, 2, none⟩ = some v2 ∧ w.cell? ⟨g, 3, none⟩ = some v3 ∧ w.cell? ⟨g, 4, none⟩ = some v4 ∧ w.cell? ⟨g, 5, none⟩ = some v5 ∧ w.cell? ⟨g, 6, none⟩ = some v6 := by
  simp [World.cell?, h]

theorem join_one (x : B8) (c : UInt8) : Lib.join [x] [c] = x := by simp [Lib.join, List.intercalate, List.intersperse]
theorem join_more (x y : B8) (L : List B8) (c : UInt8) : Lib.join (x :: y :: L) [c] = x ++ [c] ++ Lib.join (y :: L) [c] := by
  simp [Lib.join, List.intercalate, List.intersperse]

set_option maxRecDepth 100000 in
set_option maxHeartbeats 4000000 in
theorem revent_any (e : Ev) (cs : List Value) (w : World) (he : IsEv w cs e) (hok : e.ok) (hp : e.path.length ≤ 3000000) (hd : e.data.length ≤ 3000000) :
    Calls Tryd.prog 37 #[.agg cs.toArray] w fun x w' => x = .returned (S8 (evS e)) ∧ Ext w w' := by
  obtain ⟨vd, rfl, hb⟩ := he
  have HB : Hid _ := hb
  obtain ⟨d1, d2, rfl, -⟩ := id hb
  have HDL : Hid _ := hd
  obtain ⟨w1, hw1⟩ : ∃ w1, w1 = w.alloc (.cells #[.int .i64 e.t, .int .i64 e.kind, .int .i64 e.mode, .int .i64 e.keep, .int .i64 e.torn, S8 e.path, .slice d1 e.data.length d2] 64) := ⟨_, rfl⟩
  have hx1 : Ext w w1 := by rw [hw1]; exact (Ext.refl _).alloc _
  obtain ⟨c0, c1, c2, c3, c4, c5, c6⟩ := cellsAt7 (show w1.heap[w.heap.size]? = _ by rw [hw1]; exact alloc_at _ _)
  have HW1 : Hid _ := hw1
  have ha0 := itoa_len _ hok.1
  have D0 : Hid (∀ w', Calls Tryd.prog 36 #[.int .i64 e.t] w' fun x w2 => x = .returned (S8 (Lib.itoa e.t)) ∧ Ext w' w2) := fun w' => dec_any _ w' hok.1
  have ha1 := itoa_len _ hok.2.1
  have D1 : Hid (∀ w', Calls Tryd.prog 36 #[.int .i64 e.kind] w' fun x w2 => x = .returned (S8 (Lib.itoa e.kind)) ∧ Ext w' w2) := fun w' => dec_any _ w' hok.2.1
  have ha2 := itoa_len _ hok.2.2.1
  have D2 : Hid (∀ w', Calls Tryd.prog 36 #[.int .i64 e.mode] w' fun x w2 => x = .returned (S8 (Lib.itoa e.mode)) ∧ Ext w' w2) := fun w' => dec_any _ w' hok.2.2.1
  have ha3 := itoa_len _ hok.2.2.2.1
  have D3 : Hid (∀ w', Calls Tryd.prog 36 #[.int .i64 e.keep] w' fun x w2 => x = .returned (S8 (Lib.itoa e.keep)) ∧ Ext w' w2) := fun w' => dec_any _ w' hok.2.2.2.1
  have ha4 := itoa_len _ hok.2.2.2.2
  have D4 : Hid (∀ w', Calls Tryd.prog 36 #[.int .i64 e.torn] w' fun x w2 => x = .returned (S8 (Lib.itoa e.torn)) ∧ Ext w' w2) := fun w' => dec_any _ w' hok.2.2.2.2
  have hpl := orL_le e.path
  have N5 : Hid (∀ w', Calls Tryd.prog 38 #[S8 e.path] w' fun x w2 => x = .returned (S8 (orL e.path)) ∧ w2 = w') := fun w' => rnone_any e.path w'
  have hhl := hexL_length e.data
  have hol := orL_le (hexL e.data)
  have N6 : Hid (∀ w', Calls Tryd.prog 38 #[S8 (hexL e.data)] w' fun x w2 => x = .returned (S8 (orL (hexL e.data))) ∧ w2 = w') := fun w' => rnone_any _ w'
  have HS : Hid (evS e = Lib.join [Lib.itoa e.t, Lib.itoa e.kind, Lib.itoa e.mode, Lib.itoa e.keep, Lib.itoa e.torn, orL e.path, orL (hexL e.data)] [58]) := rfl
  generalize Lib.itoa e.t = A0 at *
  generalize Lib.itoa e.kind = A1 at *
  generalize Lib.itoa e.mode = A2 at *
  generalize Lib.itoa e.keep = A3 at *
  generalize Lib.itoa e.torn = A4 at *
  generalize orL e.path = PP at *
  generalize orL (hexL e.data) = DD at *
  have HX : Hid (∀ w', Ext w1 w' → Calls Tryd.prog 39 #[.slice d1 e.data.length d2] w' fun x w2 => x = .returned (S8 (hexL e.data)) ∧ Ext w' w2) := fun w' hx => rhex_any _ _ _ (IsBytes.ext HB.out (hx1.trans hx)) HDL.out
  obtain ⟨s3, hs3⟩ : ∃ s3 : B8, A0 ++ [58] = s3 := ⟨_, rfl⟩
  have ls3 : s3.length = A0.length + ([58] : B8).length := by rw [← hs3, List.length_append]
  simp only [List.length_cons, List.length_nil] at ls3
  have Es3 : Hid _ := hs3
  obtain ⟨s7, hs7⟩ : ∃ s7 : B8, s3 ++ A1 = s7 := ⟨_, rfl⟩
  have ls7 : s7.length = s3.length + (A1 : B8).length := by rw [← hs7, List.length_append]
  have Es7 : Hid _ := hs7
  obtain ⟨s8, hs8⟩ : ∃ s8 : B8, s7 ++ [58] = s8 := ⟨_, rfl⟩
  have ls8 : s8.length = s7.length + ([58] : B8).length := by rw [← hs8, List.length_append]
  simp only [List.length_cons, List.length_nil] at ls8
  have Es8 : Hid _ := hs8
  obtain ⟨s12, hs12⟩ : ∃ s12 : B8, s8 ++ A2 = s12 := ⟨_, rfl⟩
  have ls12 : s12.length = s8.length + (A2 : B8).length := by rw [← hs12, List.length_append]
  have Es12 : Hid _ := hs12
  obtain ⟨s13, hs13⟩ : ∃ s13 : B8, s12 ++ [58] = s13 := ⟨_, rfl⟩
  have ls13 : s13.length = s12.length + ([58] : B8).length := by rw [← hs13, List.length_append]
  simp only [List.length_cons, List.length_nil] at ls13
  have Es13 : Hid _ := hs13
  obtain ⟨s17, hs17⟩ : ∃ s17 : B8, s13 ++ A3 = s17 := ⟨_, rfl⟩
  have ls17 : s17.length = s13.length + (A3 : B8).length := by rw [← hs17, List.length_append]
  have Es17 : Hid _ := hs17
  obtain ⟨s18, hs18⟩ : ∃ s18 : B8, s17 ++ [58] = s18 := ⟨_, rfl⟩
  have ls18 : s18.length = s17.length + ([58] : B8).length := by rw [← hs18, List.length_append]
  simp only [List.length_cons, List.length_nil] at ls18
  have Es18 : Hid _ := hs18
  obtain ⟨s22, hs22⟩ : ∃ s22 : B8, s18 ++ A4 = s22 := ⟨_, rfl⟩
  have ls22 : s22.length = s18.length + (A4 : B8).length := by rw [← hs22, List.length_append]
  have Es22 : Hid _ := hs22
  obtain ⟨s23, hs23⟩ : ∃ s23 : B8, s22 ++ [58] = s23 := ⟨_, rfl⟩
  have ls23 : s23.length = s22.length + ([58] : B8).length := by rw [← hs23, List.length_append]
  simp only [List.length_cons, List.length_nil] at ls23
  have Es23 : Hid _ := hs23
  obtain ⟨s27, hs27⟩ : ∃ s27 : B8, s23 ++ PP = s27 := ⟨_, rfl⟩
  have ls27 : s27.length = s23.length + (PP : B8).length := by rw [← hs27, List.length_append]
  have Es27 : Hid _ := hs27
  obtain ⟨s28, hs28⟩ : ∃ s28 : B8, s27 ++ [58] = s28 := ⟨_, rfl⟩
  have ls28 : s28.length = s27.length + ([58] : B8).length := by rw [← hs28, List.length_append]
  simp only [List.length_cons, List.length_nil] at ls28
  have Es28 : Hid _ := hs28
  obtain ⟨s33, hs33⟩ : ∃ s33 : B8, s28 ++ DD = s33 := ⟨_, rfl⟩
  have ls33 : s33.length = s28.length + (DD : B8).length := by rw [← hs33, List.length_append]
  have Es33 : Hid _ := hs33
  have HE : Hid (evS e = s33) := by
    unfold Hid
    rw [HS.out, join_more, join_more, join_more, join_more, join_more, join_more, join_one]
    rw [← hs33, ← hs28, ← hs27, ← hs23, ← hs22, ← hs18, ← hs17, ← hs13, ← hs12, ← hs8, ← hs7, ← hs3]
    simp only [List.append_assoc, List.cons_append, List.nil_append]
  clear hw1 hok hb hs3 hs7 hs8 hs12 hs13 hs17 hs18 hs22 hs23 hs27 hs28 hs33
  go_enter Tryd.func37, Tryd.ntmps37
  go_wp2_with fail
  rw [show w.alloc (.cells #[.int .i64 e.t, .int .i64 e.kind, .int .i64 e.mode, .int .i64 e.keep, .int .i64 e.torn, S8 e.path, .slice d1 e.data.length d2] 64) = w1 from HW1.out.symm]
  apply wp_region_mix 34 [_, .int .i64 e.t, S8 A0, S8 s3, _, .int .i64 e.kind, S8 A1, S8 s7, S8 s8, _, .int .i64 e.mode, S8 A2, S8 s12, S8 s13, _, .int .i64 e.keep, S8 A3, S8 s17, S8 s18, _, .int .i64 e.torn, S8 A4, S8 s22, S8 s23, _, S8 e.path, S8 PP, S8 s27, S8 s28, _, .slice d1 e.data.length d2, S8 (hexL e.data), S8 DD, S8 s33] [none, none, none, none, none, none, none, none, none, none, none, none, none, none, none, none, none, none, none, none, none, none, none, none, none, none, none, none, none, none, none, none, none, none] [[], [0], [1], [2], [], [4], [5], [3, 6], [7], [], [9], [10], [8, 11], [12], [], [14], [15], [13, 16], [17], [], [19], [20], [18, 21], [22], [], [24], [25], [23, 26], [27], [], [29], [30], [31], [28, 32]] (by kernel_rfl) (by kernel_rfl) (by simp [mixV])
  · trivial
  · simp (maxSteps := 1000000) only [List.take_succ_cons, List.take_zero, oblFrom, stepObl, fillFrom, Act.put, List.setIfInBounds_toArray, List.set_cons_zero, List.set_cons_succ, knows, getV, mixV, List.getD_cons_zero, List.getD_cons_succ, and_true, true_and, forall_const]
    refine ⟨?_, ?_, ?_, ?_, ?_, ?_, ?_, ?_, ?_, ?_, ?_, ?_, ?_, ?_, ?_, ?_, ?_, ?_, ?_, ?_, ?_, ?_, ?_, ?_, ?_, ?_, ?_, ?_, ?_, ?_, ?_, ?_, ?_, ?_⟩
    · intro xs wq hq R hR
      have f0 := hq.cell c0; have f1 := hq.cell c1; have f2 := hq.cell c2; have f3 := hq.cell c3; have f4 := hq.cell c4; have f5 := hq.cell c5; have f6 := hq.cell c6
      go_simp
      exact hR _ _ (Ext.refl _) rfl
    · intro xs wq hq hk R hR
      have f0 := hq.cell c0; have f1 := hq.cell c1; have f2 := hq.cell c2; have f3 := hq.cell c3; have f4 := hq.cell c4; have f5 := hq.cell c5; have f6 := hq.cell c6
      go_simp
      exact hR _ _ (Ext.refl _) rfl
    · intro xs wq hq hk R hR
      go_simp
      exact (D0.out _).mono (by rintro x w8 ⟨rfl, h2⟩; exact ⟨_, rfl, hR _ _ h2 rfl⟩)
    · intro xs wq hq hk R hR
      go_simp
      rw [if_neg (by omega)]
      exact hR _ _ (Ext.refl _) (cat_eq Es3.out)
    · intro xs wq hq R hR
      have f0 := hq.cell c0; have f1 := hq.cell c1; have f2 := hq.cell c2; have f3 := hq.cell c3; have f4 := hq.cell c4; have f5 := hq.cell c5; have f6 := hq.cell c6
      go_simp
      exact hR _ _ (Ext.refl _) rfl
    · intro xs wq hq hk R hR
      have f0 := hq.cell c0; have f1 := hq.cell c1; have f2 := hq.cell c2; have f3 := hq.cell c3; have f4 := hq.cell c4; have f5 := hq.cell c5; have f6 := hq.cell c6
      go_simp
      exact hR _ _ (Ext.refl _) rfl
    · intro xs wq hq hk R hR
      go_simp
      exact (D1.out _).mono (by rintro x w8 ⟨rfl, h2⟩; exact ⟨_, rfl, hR _ _ h2 rfl⟩)
    · intro xs wq hq hk R hR
      obtain ⟨hk0, hk1⟩ := hk
      go_simp
      rw [if_neg (by omega)]
      exact hR _ _ (Ext.refl _) (cat_eq Es7.out)
    · intro xs wq hq hk R hR
      go_simp
      rw [if_neg (by omega)]
      exact hR _ _ (Ext.refl _) (cat_eq Es8.out)
    · intro xs wq hq R hR
      have f0 := hq.cell c0; have f1 := hq.cell c1; have f2 := hq.cell c2; have f3 := hq.cell c3; have f4 := hq.cell c4; have f5 := hq.cell c5; have f6 := hq.cell c6
      go_simp
      exact hR _ _ (Ext.refl _) rfl
    · intro xs wq hq hk R hR
      have f0 := hq.cell c0; have f1 := hq.cell c1; have f2 := hq.cell c2; have f3 := hq.cell c3; have f4 := hq.cell c4; have f5 := hq.cell c5; have f6 := hq.cell c6
      go_simp
      exact hR _ _ (Ext.refl _) rfl
    · intro xs wq hq hk R hR
      go_simp
      exact (D2.out _).mono (by rintro x w8 ⟨rfl, h2⟩; exact ⟨_, rfl, hR _ _ h2 rfl⟩)
    · intro xs wq hq hk R hR
      obtain ⟨hk0, hk1⟩ := hk
      go_simp
      rw [if_neg (by omega)]
      exact hR _ _ (Ext.refl _) (cat_eq Es12.out)
    · intro xs wq hq hk R hR
      go_simp
      rw [if_neg (by omega)]
      exact hR _ _ (Ext.refl _) (cat_eq Es13.out)
    · intro xs wq hq R hR
      have f0 := hq.cell c0; have f1 := hq.cell c1; have f2 := hq.cell c2; have f3 := hq.cell c3; have f4 := hq.cell c4; have f5 := hq.cell c5; have f6 := hq.cell c6
      go_simp
      exact hR _ _ (Ext.refl _) rfl
    · intro xs wq hq hk R hR
      have f0 := hq.cell c0; have f1 := hq.cell c1; have f2 := hq.cell c2; have f3 := hq.cell c3; have f4 := hq.cell c4; have f5 := hq.cell c5; have f6 := hq.cell c6
      go_simp
      exact hR _ _ (Ext.refl _) rfl
    · intro xs wq hq hk R hR
      go_simp
      exact (D3.out _).mono (by rintro x w8 ⟨rfl, h2⟩; exact ⟨_, rfl, hR _ _ h2 rfl⟩)
    · intro xs wq hq hk R hR
      obtain ⟨hk0, hk1⟩ := hk
      go_simp
      rw [if_neg (by omega)]
      exact hR _ _ (Ext.refl _) (cat_eq Es17.out)
    · intro xs wq hq hk R hR
      go_simp
      rw [if_neg (by omega)]
      exact hR _ _ (Ext.refl _) (cat_eq Es18.out)
    · intro xs wq hq R hR
      have f0 := hq.cell c0; have f1 := hq.cell c1; have f2 := hq.cell c2; have f3 := hq.cell c3; have f4 := hq.cell c4; have f5 := hq.cell c5; have f6 := hq.cell c6
      go_simp
      exact hR _ _ (Ext.refl _) rfl
    · intro xs wq hq hk R hR
      have f0 := hq.cell c0; have f1 := hq.cell c1; have f2 := hq.cell c2; have f3 := hq.cell c3; have f4 := hq.cell c4; have f5 := hq.cell c5; have f6 := hq.cell c6
      go_simp
      exact hR _ _ (Ext.refl _) rfl
    · intro xs wq hq hk R hR
      go_simp
      exact (D4.out _).mono (by rintro x w8 ⟨rfl, h2⟩; exact ⟨_, rfl, hR _ _ h2 rfl⟩)
    · intro xs wq hq hk R hR
      obtain ⟨hk0, hk1⟩ := hk
      go_simp
      rw [if_neg (by omega)]
      exact hR _ _ (Ext.refl _) (cat_eq Es22.out)
    · intro xs wq hq hk R hR
      go_simp
      rw [if_neg (by omega)]
      exact hR _ _ (Ext.refl _) (cat_eq Es23.out)
    · intro xs wq hq R hR
      have f0 := hq.cell c0; have f1 := hq.cell c1; have f2 := hq.cell c2; have f3 := hq.cell c3; have f4 := hq.cell c4; have f5 := hq.cell c5; have f6 := hq.cell c6
      go_simp
      exact hR _ _ (Ext.refl _) rfl
    · intro xs wq hq hk R hR
      have f0 := hq.cell c0; have f1 := hq.cell c1; have f2 := hq.cell c2; have f3 := hq.cell c3; have f4 := hq.cell c4; have f5 := hq.cell c5; have f6 := hq.cell c6
      go_simp
      exact hR _ _ (Ext.refl _) rfl
    · intro xs wq hq hk R hR
      go_simp
      exact (N5.out _).mono (by rintro x w8 ⟨rfl, rfl⟩; exact ⟨_, rfl, hR _ _ (Ext.refl _) rfl⟩)
    · intro xs wq hq hk R hR
      obtain ⟨hk0, hk1⟩ := hk
      go_simp
      rw [if_neg (by omega)]
      exact hR _ _ (Ext.refl _) (cat_eq Es27.out)
    · intro xs wq hq hk R hR
      go_simp
      rw [if_neg (by omega)]
      exact hR _ _ (Ext.refl _) (cat_eq Es28.out)
    · intro xs wq hq R hR
      have f0 := hq.cell c0; have f1 := hq.cell c1; have f2 := hq.cell c2; have f3 := hq.cell c3; have f4 := hq.cell c4; have f5 := hq.cell c5; have f6 := hq.cell c6
      go_simp
      exact hR _ _ (Ext.refl _) rfl
    · intro xs wq hq hk R hR
      have f0 := hq.cell c0; have f1 := hq.cell c1; have f2 := hq.cell c2; have f3 := hq.cell c3; have f4 := hq.cell c4; have f5 := hq.cell c5; have f6 := hq.cell c6
      go_simp
      exact hR _ _ (Ext.refl _) rfl
    · intro xs wq hq hk R hR
      go_simp
      exact (HX.out _ hq).mono (by rintro x w8 ⟨rfl, h2⟩; exact ⟨_, rfl, hR _ _ h2 rfl⟩)
    · intro xs wq hq hk R hR
      go_simp
      exact (N6.out _).mono (by rintro x w8 ⟨rfl, rfl⟩; exact ⟨_, rfl, hR _ _ (Ext.refl _) rfl⟩)
    · intro xs wq hq hk R hR
      obtain ⟨hk0, hk1⟩ := hk
      go_simp
      rw [if_neg (by omega)]
      exact hR _ _ (Ext.refl _) (cat_eq Es33.out)
  intro xs w2 hx2 hk
  simp only [heldV, Nat.zero_add, Nat.reduceAdd, and_true] at hk
  obtain ⟨q0, q1, q2, q3, q4, q5, q6, q7, q8, q9, q10, q11, q12, q13, q14, q15, q16, q17, q18, q19, q20, q21, q22, q23, q24, q25, q26, q27, q28, q29, q30, q31, q32, q33⟩ := hk
  simp (maxSteps := 1000000) only [List.take_succ_cons, List.take_zero, List.drop_succ_cons, List.drop_zero, fillFrom, Act.put, List.setIfInBounds_toArray, List.set_cons_zero, List.set_cons_succ, Nat.zero_add, Nat.reduceAdd, q0, q1, q2, q3, q4, q5, q6, q7, q8, q9, q10, q11, q12, q13, q14, q15, q16, q17, q18, q19, q20, q21, q22, q23, q24, q25, q26, q27, q28, q29, q30, q31, q32, q33]
  clear q0 q1 q2 q3 q4 q5 q6 q7 q8 q9 q10 q11 q12 q13 q14 q15 q16 q17 q18 q19 q20 q21 q22 q23 q24 q25 q26 q27 q28 q29 q30 q31 q32 q33
  go_wp2
  go_ret
  rw [HE.out]
  exact ⟨rfl, hx1.trans hx2⟩

end Go.Proofs.YthfkohppillflaaDoor
