/- script.readEvent, read: what a line's words say. Conditions: texts of at most 3000000 bytes. -/
import Derived.Test.YthfkohppillflaaDoorMem
namespace Go.Proofs.YthfkohppillflaaDoor
open Go Go.RowKit

def noneL (s : B8) : B8 := if s = [45] then [] else s
def undL (s : B8) : B8 := if s = [45] then [] else undig s
def readEvL (s : B8) : Ev :=
  let l := cut 58 s
  if l.length = 7 then ⟨numV (l.getD 0 []), numV (l.getD 1 []), numV (l.getD 2 []), numV (l.getD 3 []), numV (l.getD 4 []), noneL (l.getD 5 []), undL (l.getD 6 [])⟩ else ⟨0, 0, 0, 0, 0, [], []⟩

theorem print_any (x : Ac) (cs : List Value) (w : World) (hE : Env w) (hx : IsAc w cs x) (hs : x.small) :
    Calls Tryd.prog 11 #[.agg cs.toArray] w fun e w' => e = .returned (S8 (printL x)) ∧ Ext w w' := by
  cases hT : tellsB x with
  | false => exact print_no x cs w hE hx hs hT
  | true =>
    have : printL x = Lib.join (lineL x) [32] := by simp [printL, hT, lineL]
    rw [this]
    exact print_yes x cs w hE hx hs hT

/-- The cells of a new event. -/
def zeroEv : List Value := [.int .i64 0, .int .i64 0, .int .i64 0, .int .i64 0, .int .i64 0, S8 [], .slice none 0 0]

theorem Ext.frozen {w w' : World} (h : Ext w w') {a : Addr} (ha : a.block < w.heap.size) : w'.frozen? a = w.frozen? a := Below.frozen h ha

/-- An event whose data lie in a block of bytes. -/
def IsEvT (w : World) (cs : List Value) (e : Ev) : Prop := ∃ vd, cs = [.int .i64 e.t, .int .i64 e.kind, .int .i64 e.mode, .int .i64 e.keep, .int .i64 e.torn, S8 e.path, vd] ∧ IsBytes w vd e.data ∧ Typed 5 w vd
theorem IsEvT.ev {w : World} {cs : List Value} {e : Ev} (h : IsEvT w cs e) : IsEv w cs e := by
  obtain ⟨vd, h1, h2, _⟩ := h
  exact ⟨vd, h1, h2⟩
theorem IsEvT.keep {w w' : World} {cs : List Value} {e : Ev} (h : IsEvT w cs e) (hk : Keep 5 w w') : IsEvT w' cs e := by
  obtain ⟨vd, h1, h2, h3⟩ := h
  exact ⟨vd, h1, Row.keep h2 h3 hk, h3.keep hk⟩

theorem sizeEv : (Tryd.prog.info? 43).map (·.size) = some 7 := by kernel_rfl

set_option maxRecDepth 100000 in
set_option maxHeartbeats 1000000 in
theorem readEvent_any (l : B8) (w : World) (hE : Env w) (hl : l.length ≤ 3000000) :
    Calls Tryd.prog 50 #[S8 l] w fun e w' => (∃ cs, e = .returned (.agg cs.toArray) ∧ IsEvT w' cs (readEvL l)) ∧ Ext w w' := by
  have hcl := cut_length 58 l
  have HP : Hid _ := fun x => @cut_piece 58 l x
  obtain ⟨L, hL⟩ : ∃ L, cut 58 l = L := ⟨_, rfl⟩
  have HL : Hid _ := hL
  rw [hL] at hcl HP
  have HE : Hid _ := hE
  have HS : Hid _ := split_any ⟨l.toArray⟩ 58 (w.alloc (.cells zeroEv.toArray 43)) (hE.ext ((Ext.refl w).alloc _)) (Nat.lt_of_le_of_lt hl (by decide))
  rw [show (⟨l.toArray⟩ : ByteArray).data.toList = l from rfl, hL] at HS
  clear hL hE
  by_cases h7 : L.length = 7
  · have hne : ((L.length : Int) != 7) = false := by rw [h7]; rfl
    have h77 : (7 : Int) ≤ (L.length : Int) := by omega
    have H7 : Hid _ := h7
    clear h7
    go_enter Tryd.func50, Tryd.ntmps50
    go_wp2_with (go_at_call 20; go_must (refine Calls.mono HS.out ?_; rintro e w2 ⟨v, rfl, hv, -, hx2⟩; obtain ⟨a, cap, rfl, h1, h2, h3, h4⟩ := hv.get))
    obtain ⟨b, o, rfl, hc⟩ := h4 0 (by omega)
    have hrow := hx2.row (alloc_at _ _)
    have hx02 : Ext w w2 := ((Ext.refl _).alloc _).trans hx2
    have c0 : w2.cell? ⟨b, o, none⟩ = some (S8 (L.getD 0 [])) := hc 0 (by omega)
    have c1 := hc 1 (by omega)
    have c2 := hc 2 (by omega)
    have c3 := hc 3 (by omega)
    have c4 := hc 4 (by omega)
    have c5 := hc 5 (by omega)
    have c6 := hc 6 (by omega)
    clear h4 hc hv HS
    generalize hl0 : L.getD 0 [] = l0 at *
    generalize hl1 : L.getD 1 [] = l1 at *
    generalize hl2 : L.getD 2 [] = l2 at *
    generalize hl3 : L.getD 3 [] = l3 at *
    generalize hl4 : L.getD 4 [] = l4 at *
    generalize hl5 : L.getD 5 [] = l5 at *
    generalize hl6 : L.getD 6 [] = l6 at *
    have HR : Hid (readEvL l = ⟨numV l0, numV l1, numV l2, numV l3, numV l4, noneL l5, undL l6⟩) := by
      show readEvL l = _
      unfold readEvL
      simp only [HL.out, H7.out, if_true, hl0, hl1, hl2, hl3, hl4, hl5, hl6]
    have HB : Hid (l0.length ≤ 3000000 ∧ l1.length ≤ 3000000 ∧ l2.length ≤ 3000000 ∧ l3.length ≤ 3000000 ∧ l4.length ≤ 3000000 ∧ l5.length ≤ 3000000 ∧ l6.length ≤ 3000000) := by
      have hb : ∀ k, k < 7 → (L.getD k []).length ≤ 3000000 := fun k hk => Nat.le_trans (HP.out _ (getD_mem (by have := H7.out; omega))) hl
      exact ⟨hl0 ▸ hb 0 (by omega), hl1 ▸ hb 1 (by omega), hl2 ▸ hb 2 (by omega), hl3 ▸ hb 3 (by omega), hl4 ▸ hb 4 (by omega), hl5 ▸ hb 5 (by omega), hl6 ▸ hb 6 (by omega)⟩
    clear hl0 hl1 hl2 hl3 hl4 hl5 hl6 HL HP
    have j0 : 0 < L.length := by omega
    have j1 : (1 : Int) < (L.length : Int) := by omega
    have j2 : (2 : Int) < (L.length : Int) := by omega
    have j3 : (3 : Int) < (L.length : Int) := by omega
    have j4 : (4 : Int) < (L.length : Int) := by omega
    have j5 : (5 : Int) < (L.length : Int) := by omega
    have j6 : (6 : Int) < (L.length : Int) := by omega
    go_wp2
    apply wp_region_mix 29 [_, _, _, .int .i64 (numV l0), _, _, _, .int .i64 (numV l1), _, _, _, .int .i64 (numV l2), _, _, _, .int .i64 (numV l3), _, _, _, .int .i64 (numV l4), _, _, _, S8 (noneL l5), _, _, _, undef, undef] [none, none, none, none, none, none, none, none, none, none, none, none, none, none, none, none, none, none, none, none, none, none, none, none, none, none, none, some (fun u w' => IsBytes w' u (undL l6) ∧ Typed 5 w' u), some (fun u w' => ∃ vd, u = .agg #[.int .i64 (numV l0), .int .i64 (numV l1), .int .i64 (numV l2), .int .i64 (numV l3), .int .i64 (numV l4), S8 (noneL l5), vd] ∧ IsBytes w' vd (undL l6) ∧ Typed 5 w' vd)] [[], [0], [1], [2], [], [4], [5], [6], [], [8], [9], [10], [], [12], [13], [14], [], [16], [17], [18], [], [20], [21], [22], [], [24], [25], [26], [3, 7, 11, 15, 19, 23, 27]] (by kernel_rfl) (by kernel_rfl) (by simp [mixV])
    · refine ⟨?_, ?_, trivial⟩
      · exact fun _ _ _ he ⟨h1, h2⟩ => ⟨h1.ext he, h2.keep (Keep.of_ext he)⟩
      · exact fun _ _ _ he ⟨vd, h1, h2, h3⟩ => ⟨vd, h1, h2.ext he, h3.keep (Keep.of_ext he)⟩
    · simp (maxSteps := 1000000) only [List.take_succ_cons, List.take_zero, oblFrom, stepObl, fillFrom, Act.put, List.setIfInBounds_toArray, List.set_cons_zero, List.set_cons_succ, knows, getV, mixV, List.getD_cons_zero, List.getD_cons_succ, and_true, true_and, forall_const]
      refine ⟨?_, ?_, ?_, ?_, ?_, ?_, ?_, ?_, ?_, ?_, ?_, ?_, ?_, ?_, ?_, ?_, ?_, ?_, ?_, ?_, ?_, ?_, ?_, ?_, ?_, ?_, ?_, ?_, ?_⟩
      · intro xs wq hq R hR
        have f0 := hq.cell c0; have f1 := hq.cell c1; have f2 := hq.cell c2; have f3 := hq.cell c3; have f4 := hq.cell c4; have f5 := hq.cell c5; have f6 := hq.cell c6
        go_simp
        exact hR _ _ (Ext.refl _) rfl
      · intro xs wq hq hk R hR
        have f0 := hq.cell c0; have f1 := hq.cell c1; have f2 := hq.cell c2; have f3 := hq.cell c3; have f4 := hq.cell c4; have f5 := hq.cell c5; have f6 := hq.cell c6
        go_simp
        exact hR _ _ (Ext.refl _) rfl
      · intro xs wq hq hk R hR
        have f0 := hq.cell c0; have f1 := hq.cell c1; have f2 := hq.cell c2; have f3 := hq.cell c3; have f4 := hq.cell c4; have f5 := hq.cell c5; have f6 := hq.cell c6
        go_simp
        exact hR _ _ (Ext.refl _) rfl
      · intro xs wq hq hk R hR
        go_simp
        exact (number_any l0 _ (HE.out.ext (hx02.trans hq)) (by have := HB.out; omega)).mono (by rintro e' w4 ⟨rfl, h2⟩; exact ⟨_, rfl, hR _ _ h2 rfl⟩)
      · intro xs wq hq R hR
        have f0 := hq.cell c0; have f1 := hq.cell c1; have f2 := hq.cell c2; have f3 := hq.cell c3; have f4 := hq.cell c4; have f5 := hq.cell c5; have f6 := hq.cell c6
        go_simp
        exact hR _ _ (Ext.refl _) rfl
      · intro xs wq hq hk R hR
        have f0 := hq.cell c0; have f1 := hq.cell c1; have f2 := hq.cell c2; have f3 := hq.cell c3; have f4 := hq.cell c4; have f5 := hq.cell c5; have f6 := hq.cell c6
        go_simp
        exact hR _ _ (Ext.refl _) rfl
      · intro xs wq hq hk R hR
        have f0 := hq.cell c0; have f1 := hq.cell c1; have f2 := hq.cell c2; have f3 := hq.cell c3; have f4 := hq.cell c4; have f5 := hq.cell c5; have f6 := hq.cell c6
        go_simp
        exact hR _ _ (Ext.refl _) rfl
      · intro xs wq hq hk R hR
        go_simp
        exact (number_any l1 _ (HE.out.ext (hx02.trans hq)) (by have := HB.out; omega)).mono (by rintro e' w4 ⟨rfl, h2⟩; exact ⟨_, rfl, hR _ _ h2 rfl⟩)
      · intro xs wq hq R hR
        have f0 := hq.cell c0; have f1 := hq.cell c1; have f2 := hq.cell c2; have f3 := hq.cell c3; have f4 := hq.cell c4; have f5 := hq.cell c5; have f6 := hq.cell c6
        go_simp
        exact hR _ _ (Ext.refl _) rfl
      · intro xs wq hq hk R hR
        have f0 := hq.cell c0; have f1 := hq.cell c1; have f2 := hq.cell c2; have f3 := hq.cell c3; have f4 := hq.cell c4; have f5 := hq.cell c5; have f6 := hq.cell c6
        go_simp
        exact hR _ _ (Ext.refl _) rfl
      · intro xs wq hq hk R hR
        have f0 := hq.cell c0; have f1 := hq.cell c1; have f2 := hq.cell c2; have f3 := hq.cell c3; have f4 := hq.cell c4; have f5 := hq.cell c5; have f6 := hq.cell c6
        go_simp
        exact hR _ _ (Ext.refl _) rfl
      · intro xs wq hq hk R hR
        go_simp
        exact (number_any l2 _ (HE.out.ext (hx02.trans hq)) (by have := HB.out; omega)).mono (by rintro e' w4 ⟨rfl, h2⟩; exact ⟨_, rfl, hR _ _ h2 rfl⟩)
      · intro xs wq hq R hR
        have f0 := hq.cell c0; have f1 := hq.cell c1; have f2 := hq.cell c2; have f3 := hq.cell c3; have f4 := hq.cell c4; have f5 := hq.cell c5; have f6 := hq.cell c6
        go_simp
        exact hR _ _ (Ext.refl _) rfl
      · intro xs wq hq hk R hR
        have f0 := hq.cell c0; have f1 := hq.cell c1; have f2 := hq.cell c2; have f3 := hq.cell c3; have f4 := hq.cell c4; have f5 := hq.cell c5; have f6 := hq.cell c6
        go_simp
        exact hR _ _ (Ext.refl _) rfl
      · intro xs wq hq hk R hR
        have f0 := hq.cell c0; have f1 := hq.cell c1; have f2 := hq.cell c2; have f3 := hq.cell c3; have f4 := hq.cell c4; have f5 := hq.cell c5; have f6 := hq.cell c6
        go_simp
        exact hR _ _ (Ext.refl _) rfl
      · intro xs wq hq hk R hR
        go_simp
        exact (number_any l3 _ (HE.out.ext (hx02.trans hq)) (by have := HB.out; omega)).mono (by rintro e' w4 ⟨rfl, h2⟩; exact ⟨_, rfl, hR _ _ h2 rfl⟩)
      · intro xs wq hq R hR
        have f0 := hq.cell c0; have f1 := hq.cell c1; have f2 := hq.cell c2; have f3 := hq.cell c3; have f4 := hq.cell c4; have f5 := hq.cell c5; have f6 := hq.cell c6
        go_simp
        exact hR _ _ (Ext.refl _) rfl
      · intro xs wq hq hk R hR
        have f0 := hq.cell c0; have f1 := hq.cell c1; have f2 := hq.cell c2; have f3 := hq.cell c3; have f4 := hq.cell c4; have f5 := hq.cell c5; have f6 := hq.cell c6
        go_simp
        exact hR _ _ (Ext.refl _) rfl
      · intro xs wq hq hk R hR
        have f0 := hq.cell c0; have f1 := hq.cell c1; have f2 := hq.cell c2; have f3 := hq.cell c3; have f4 := hq.cell c4; have f5 := hq.cell c5; have f6 := hq.cell c6
        go_simp
        exact hR _ _ (Ext.refl _) rfl
      · intro xs wq hq hk R hR
        go_simp
        exact (number_any l4 _ (HE.out.ext (hx02.trans hq)) (by have := HB.out; omega)).mono (by rintro e' w4 ⟨rfl, h2⟩; exact ⟨_, rfl, hR _ _ h2 rfl⟩)
      · intro xs wq hq R hR
        have f0 := hq.cell c0; have f1 := hq.cell c1; have f2 := hq.cell c2; have f3 := hq.cell c3; have f4 := hq.cell c4; have f5 := hq.cell c5; have f6 := hq.cell c6
        go_simp
        exact hR _ _ (Ext.refl _) rfl
      · intro xs wq hq hk R hR
        have f0 := hq.cell c0; have f1 := hq.cell c1; have f2 := hq.cell c2; have f3 := hq.cell c3; have f4 := hq.cell c4; have f5 := hq.cell c5; have f6 := hq.cell c6
        go_simp
        exact hR _ _ (Ext.refl _) rfl
      · intro xs wq hq hk R hR
        have f0 := hq.cell c0; have f1 := hq.cell c1; have f2 := hq.cell c2; have f3 := hq.cell c3; have f4 := hq.cell c4; have f5 := hq.cell c5; have f6 := hq.cell c6
        go_simp
        exact hR _ _ (Ext.refl _) rfl
      · intro xs wq hq hk R hR
        go_simp
        exact (none_any l5 _).mono (by rintro e' w4 ⟨rfl, rfl⟩; exact ⟨_, rfl, hR _ _ (Ext.refl _) rfl⟩)
      · intro xs wq hq R hR
        have f0 := hq.cell c0; have f1 := hq.cell c1; have f2 := hq.cell c2; have f3 := hq.cell c3; have f4 := hq.cell c4; have f5 := hq.cell c5; have f6 := hq.cell c6
        go_simp
        exact hR _ _ (Ext.refl _) rfl
      · intro xs wq hq hk R hR
        have f0 := hq.cell c0; have f1 := hq.cell c1; have f2 := hq.cell c2; have f3 := hq.cell c3; have f4 := hq.cell c4; have f5 := hq.cell c5; have f6 := hq.cell c6
        go_simp
        exact hR _ _ (Ext.refl _) rfl
      · intro xs wq hq hk R hR
        have f0 := hq.cell c0; have f1 := hq.cell c1; have f2 := hq.cell c2; have f3 := hq.cell c3; have f4 := hq.cell c4; have f5 := hq.cell c5; have f6 := hq.cell c6
        go_simp
        exact hR _ _ (Ext.refl _) rfl
      · intro xs wq hq hk R hR
        go_simp
        exact (undigits_any l6 _ (by have := HB.out; omega)).mono (by rintro e' w4 ⟨⟨u, rfl, hu, ht⟩, h2⟩; exact ⟨_, rfl, hR _ _ h2 ⟨hu, ht⟩⟩)
      · intro xs wq hq hk R hR
        obtain ⟨hk0, hk1, hk2, hk3, hk4, hk5, hk6⟩ := hk
        obtain ⟨ua, uc, hu, -⟩ := id hk6.1
        go_simp
        exact hR _ _ (Ext.refl _) ⟨_, rfl, hu ▸ hk6.1, hu ▸ hk6.2⟩
    intro xs w3 hx3 hk
    simp only [heldV, Nat.zero_add, Nat.reduceAdd, and_true] at hk
    obtain ⟨q0, q1, q2, q3, q4, q5, q6, q7, q8, q9, q10, q11, q12, q13, q14, q15, q16, q17, q18, q19, q20, q21, q22, q23, q24, q25, q26, q27, q28⟩ := hk
    simp (maxSteps := 1000000) only [List.take_succ_cons, List.take_zero, List.drop_succ_cons, List.drop_zero, fillFrom, Act.put, List.setIfInBounds_toArray, List.set_cons_zero, List.set_cons_succ, Nat.zero_add, Nat.reduceAdd, q0, q1, q2, q3, q4, q5, q6, q7, q8, q9, q10, q11, q12, q13, q14, q15, q16, q17, q18, q19, q20, q21, q22, q23, q24, q25, q26]
    clear q0 q1 q2 q3 q4 q5 q6 q7 q8 q9 q10 q11 q12 q13 q14 q15 q16 q17 q18 q19 q20 q21 q22 q23 q24 q25 q26
    generalize xs 27 = x27 at *
    generalize xs 28 = x28 at *
    obtain ⟨vd, rfl, hvd, hty⟩ := q28
    have hrow3 := hx3.row hrow
    obtain ⟨va, vc, hva, -⟩ := id hvd
    subst hva
    have HV : Hid _ := hvd
    have HT : Hid _ := hty
    have hx03 := hx02.trans hx3
    clear hrow c0 c1 c2 c3 c4 c5 c6 hvd hty q27
    go_wp2_with (refine wpList_store_row rfl 43 (.tmp 2) (.tmp 38) rfl w.heap.size #[.int .i64 (numV l0), .int .i64 (numV l1), .int .i64 (numV l2), .int .i64 (numV l3), .int .i64 (numV l4), S8 (noneL l5), .slice va (undL l6).length vc] rfl rfl 43 _ hrow3 sizeEv rfl (by simp [Value.oneCell']) ?_)
    refine bodyPost_ret (results_cell_row rfl _ _ w.heap.size 43 #[.int .i64 (numV l0), .int .i64 (numV l1), .int .i64 (numV l2), .int .i64 (numV l3), .int .i64 (numV l4), S8 (noneL l5), .slice va (undL l6).length vc] (0, 0) _ rfl (setRow_heap _ _ _ _ _ _ hrow3) Tryd.underlying43 rfl sizeEv) rfl ?_
    refine ⟨⟨_, rfl, ?_⟩, hx03.setRow _ _ (Nat.le_refl _)⟩
    rw [HR.out]
    have hkp := Keep.of_grown (e := 5) (setRow_grown w3 w.heap.size #[.int .i64 (numV l0), .int .i64 (numV l1), .int .i64 (numV l2), .int .i64 (numV l3), .int .i64 (numV l4), S8 (noneL l5), .slice va (undL l6).length vc]) hrow3 (by decide)
    exact ⟨_, rfl, Row.keep HV.out HT.out hkp, Typed.keep HT.out hkp⟩
  · have hne : ((L.length : Int) != 7) = true := by simp; omega
    have H7 : Hid _ := h7
    clear h7
    go_enter Tryd.func50, Tryd.ntmps50
    go_wp2_with (first | (go_at_call 20; go_must (refine Calls.mono HS.out ?_; rintro e w2 ⟨v, rfl, hv, -, hx2⟩; obtain ⟨a, cap, rfl, h1, h2, h3, h4⟩ := hv.get; have H4 : Hid _ := h4; have hrow := hx2.row (alloc_at _ _); clear h4 hv HS)) | (refine wpList_store_row rfl 43 (.tmp 2) (.tmp 9) rfl w.heap.size zeroEv.toArray rfl rfl 43 _ hrow sizeEv rfl (by simp [zeroEv, Value.oneCell']) ?_))
    refine bodyPost_ret (results_cell_row rfl _ _ w.heap.size 43 zeroEv.toArray (0, 0) _ rfl (setRow_heap _ _ _ _ _ _ hrow) Tryd.underlying43 rfl sizeEv) rfl ?_
    refine ⟨⟨zeroEv, rfl, ?_⟩, (((Ext.refl _).alloc _).trans hx2).setRow _ _ (Nat.le_refl _)⟩
    have hr : readEvL l = ⟨0, 0, 0, 0, 0, [], []⟩ := by
      unfold readEvL
      simp only [HL.out]
      exact if_neg H7.out
    rw [hr]
    exact ⟨_, rfl, Row.nil _, Typed.nil _ _ _ _⟩

end Go.Proofs.YthfkohppillflaaDoor
