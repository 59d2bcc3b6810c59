/- script.read: the act that a line's words say. Conditions: at least eight words, each of at most 3000000 bytes. -/
import Derived.Test.YthfkohppillflaaDoorRead
namespace Go.Proofs.YthfkohppillflaaDoor
open Go Go.RowKit

def readL (kind : Int) (L : List B8) : Ac := ⟨kind, numV (L.getD 1 []), numV (L.getD 2 []), numV (L.getD 3 []), noneL (L.getD 4 []), undL (L.getD 5 []), (listL (L.getD 6 [])).map numV, (listL (L.getD 7 [])).map readEvL⟩

def zeroAc : List Value := [.int .i64 0, .int .i64 0, .int .i64 0, .int .i64 0, S8 [], .slice none 0 0, .slice none 0 0, .slice none 0 0]
theorem sizeAc : (Tryd.prog.info? 26).map (·.size) = some 8 := by kernel_rfl

/-- An act all of whose parts lie in blocks of their own element types. -/
def IsEvsT (w : World) (v : Value) (es : List Ev) : Prop := ∃ css : List (List Value), Row w v es.length css.flatten ∧ Typed 43 w v ∧ css.length = es.length ∧ ∀ (i : Nat) c e, css[i]? = some c → es[i]? = some e → IsEvT w c e
def IsAcT (w : World) (cs : List Value) (x : Ac) : Prop := ∃ vd vf ve, cs = [.int .i64 x.kind, .int .i64 x.a, .int .i64 x.b, .int .i64 x.n, S8 x.path, vd, vf, ve] ∧ (IsBytes w vd x.data ∧ Typed 5 w vd) ∧ (IsInts w vf x.fates ∧ Typed 3 w vf) ∧ IsEvsT w ve x.events
theorem IsEvsT.evs {w : World} {v : Value} {es : List Ev} (h : IsEvsT w v es) : IsEvs w v es := by
  obtain ⟨css, h1, _, h2, h3⟩ := h
  exact ⟨css, h1, h2, fun i c e hc he => (h3 i c e hc he).ev⟩
theorem IsAcT.ac {w : World} {cs : List Value} {x : Ac} (h : IsAcT w cs x) : IsAc w cs x := by
  obtain ⟨vd, vf, ve, h1, h2, h3, h4⟩ := h
  exact ⟨vd, vf, ve, h1, h2.1, h3.1, h4.evs⟩
theorem IsEvsT.keep {w w' : World} {v : Value} {es : List Ev} (h : IsEvsT w v es) (k5 : Keep 5 w w') (ke : Keep 43 w w') : IsEvsT w' v es := by
  obtain ⟨css, h1, h0, h2, h3⟩ := h
  exact ⟨css, h1.keep h0 ke, h0.keep ke, h2, fun i c e hc he => (h3 i c e hc he).keep k5⟩
theorem IsAcT.keep {w w' : World} {cs : List Value} {x : Ac} (h : IsAcT w cs x) (k5 : Keep 5 w w') (k3 : Keep 3 w w') (ke : Keep 43 w w') : IsAcT w' cs x := by
  obtain ⟨vd, vf, ve, h1, h2, h3, h4⟩ := h
  exact ⟨vd, vf, ve, h1, ⟨Row.keep h2.1 h2.2 k5, h2.2.keep k5⟩, ⟨Row.keep h3.1 h3.2 k3, h3.2.keep k3⟩, h4.keep k5 ke⟩
theorem IsAcT.ext {w w' : World} {cs : List Value} {x : Ac} (h : IsAcT w cs x) (he : Ext w w') : IsAcT w' cs x := h.keep (Keep.of_ext he) (Keep.of_ext he) (Keep.of_ext he)
/-- A store of a whole act elsewhere. -/
theorem IsAcT.setRow {w : World} {cs : List Value} {x : Ac} (h : IsAcT w cs x) {g : Nat} {old : Array Value} {fr : Nat × Nat} (hg : w.heap[g]? = some (.cells old 26 fr)) (new : Array Value) : IsAcT (w.setRow g new) cs x :=
  h.keep (Keep.of_grown (setRow_grown _ _ _) hg (by decide)) (Keep.of_grown (setRow_grown _ _ _) hg (by decide)) (Keep.of_grown (setRow_grown _ _ _) hg (by decide))

theorem listL_len (l : B8) : (listL l).length ≤ l.length + 1 := by
  unfold listL
  split
  · simp
  · exact (cut_length 44 l).2
theorem listL_piece (l : B8) : ∀ x ∈ listL l, x.length ≤ l.length := by
  unfold listL
  split
  · intro x hx; simp at hx
  · intro x hx; exact cut_piece 44 l hx

/-- The act's block as it is filled. -/
abbrev acCells (kind n1 n2 n3 : Int) (p : B8) (vd vf ve : Value) : Array Value := #[.int .i64 kind, .int .i64 n1, .int .i64 n2, .int .i64 n3, S8 p, vd, vf, ve]

set_option maxRecDepth 100000 in
set_option maxHeartbeats 4000000 in
theorem read_any (kind : Int) (v : Value) (L : List B8) (w : World) (hE : Env w) (hv : IsStrs w v L) (h8 : 8 ≤ L.length) (hlen : ∀ l ∈ L, l.length ≤ 3000000) :
    Calls Tryd.prog 22 #[.int .i64 kind, v] w fun e w' => (∃ cs, e = .returned (.agg cs.toArray) ∧ IsAcT w' cs (readL kind L)) ∧ Ext w w' := by
  obtain ⟨a, cap, rfl, h1, h2, h3, h4⟩ := hv.get
  obtain ⟨b, o, rfl, hc⟩ := h4 0 (by omega)
  have hx1 : Ext w (w.alloc (.cells zeroAc.toArray 26)) := (Ext.refl _).alloc _
  obtain ⟨w1, hw1⟩ : ∃ w1, w1 = w.alloc (.cells zeroAc.toArray 26) := ⟨_, rfl⟩
  rw [← hw1] at hx1
  have hg0 : w1.heap[w.heap.size]? = some (.cells zeroAc.toArray 26 (0, 0)) := by rw [hw1]; exact alloc_at _ _
  have hsz1 : w.heap.size < w1.heap.size := by rw [hw1]; simp
  have HW1 : Hid _ := hw1
  have c1 := hx1.cell (hc 1 (by omega))
  have c2 := hx1.cell (hc 2 (by omega))
  have c3 := hx1.cell (hc 3 (by omega))
  have c4 := hx1.cell (hc 4 (by omega))
  have c5 := hx1.cell (hc 5 (by omega))
  have c6 := hx1.cell (hc 6 (by omega))
  have c7 := hx1.cell (hc 7 (by omega))
  have hb1 : b < w.heap.size := World.block_lt_of_cell? _ _ (hc 1 (by omega))
  generalize hl1 : L.getD 1 [] = l1 at *
  generalize hl2 : L.getD 2 [] = l2 at *
  generalize hl3 : L.getD 3 [] = l3 at *
  generalize hl4 : L.getD 4 [] = l4 at *
  generalize hl5 : L.getD 5 [] = l5 at *
  generalize hl6 : L.getD 6 [] = l6 at *
  generalize hl7 : L.getD 7 [] = l7 at *
  have HR : Hid (readL kind L = ⟨kind, numV l1, numV l2, numV l3, noneL l4, undL l5, (listL l6).map numV, (listL l7).map readEvL⟩) := by
    show readL kind L = _
    unfold readL
    rw [hl1, hl2, hl3, hl4, hl5, hl6, hl7]
  have hb : ∀ k, k < 8 → (L.getD k []).length ≤ 3000000 := fun k hk => hlen _ (getD_mem (by omega))
  have HB : Hid (l1.length ≤ 3000000 ∧ l2.length ≤ 3000000 ∧ l3.length ≤ 3000000 ∧ l4.length ≤ 3000000 ∧ l5.length ≤ 3000000 ∧ l6.length ≤ 3000000 ∧ l7.length ≤ 3000000) :=
    ⟨hl1 ▸ hb 1 (by omega), hl2 ▸ hb 2 (by omega), hl3 ▸ hb 3 (by omega), hl4 ▸ hb 4 (by omega), hl5 ▸ hb 5 (by omega), hl6 ▸ hb 6 (by omega), hl7 ▸ hb 7 (by omega)⟩
  have HE1 : Hid _ := hE.ext hx1
  have j1 : (1 : Int) < (L.length : Int) := by omega
  have j2 : (2 : Int) < (L.length : Int) := by omega
  have j3 : (3 : Int) < (L.length : Int) := by omega
  have j4 : (4 : Int) < (L.length : Int) := by omega
  have j5 : (5 : Int) < (L.length : Int) := by omega
  have j6 : (6 : Int) < (L.length : Int) := by omega
  have j7 : (7 : Int) < (L.length : Int) := by omega
  clear hv hc h4 hl1 hl2 hl3 hl4 hl5 hl6 hl7 hb hlen hE hw1
  go_enter Tryd.func22, Tryd.ntmps22
  go_wp2
  rw [show w.alloc (.cells #[.int .i64 0, .int .i64 0, .int .i64 0, .int .i64 0, S8 [], .slice none 0 0, .slice none 0 0, .slice none 0 0] 26) = w1 from HW1.out.symm]
  apply wp_region_mix 23 [_, _, _, _, .int .i64 (numV l1), _, _, _, .int .i64 (numV l2), _, _, _, .int .i64 (numV l3), _, _, _, S8 (noneL l4), _, _, _, undef, undef, undef] [none, none, none, none, none, none, none, none, none, none, none, none, none, none, none, none, none, none, none, none, some (fun u w' => IsBytes w' u (undL l5) ∧ Typed 5 w' u), some (fun u w' => ∃ vd, u = .agg (acCells kind (numV l1) (numV l2) (numV l3) (noneL l4) vd (.slice none 0 0) (.slice none 0 0)) ∧ IsBytes w' vd (undL l5) ∧ Typed 5 w' vd), some (fun u w' => ∃ ga, u = .pointer (some ⟨ga, 0, none⟩) ∧ w1.heap.size ≤ ga ∧ w'.heap[ga]? = some (.cells zeroAc.toArray 26 (0, 0)))] [[], [], [1], [2], [3], [], [5], [6], [7], [], [9], [10], [11], [], [13], [14], [15], [], [17], [18], [19], [0, 4, 8, 12, 16, 20], []] (by kernel_rfl) (by kernel_rfl) (by simp [mixV])
  · refine ⟨?_, ?_, ?_, trivial⟩
    · exact fun _ _ _ he ⟨h1, h2⟩ => ⟨h1.ext he, h2.keep (Keep.of_ext he)⟩
    · exact fun _ _ _ he ⟨vd, h1, h2, h3⟩ => ⟨vd, h1, h2.ext he, h3.keep (Keep.of_ext he)⟩
    · exact fun _ _ _ he ⟨ga, h1, h2, h3⟩ => ⟨ga, h1, h2, he.row h3⟩
  · simp (maxSteps := 1000000) only [List.take_succ_cons, List.take_zero, oblFrom, stepObl, fillFrom, Act.put, List.setIfInBounds_toArray, List.set_cons_zero, List.set_cons_succ, knows, getV, mixV, List.getD_cons_zero, List.getD_cons_succ, and_true, true_and, forall_const]
    refine ⟨?_, ?_, ?_, ?_, ?_, ?_, ?_, ?_, ?_, ?_, ?_, ?_, ?_, ?_, ?_, ?_, ?_, ?_, ?_, ?_, ?_, ?_, ?_⟩
    · intro xs wq hq R hR
      have f1 := hq.cell c1; have f2 := hq.cell c2; have f3 := hq.cell c3; have f4 := hq.cell c4; have f5 := hq.cell c5
      go_simp
      exact hR _ _ (Ext.refl _) rfl
    · intro xs wq hq R hR
      have f1 := hq.cell c1; have f2 := hq.cell c2; have f3 := hq.cell c3; have f4 := hq.cell c4; have f5 := hq.cell c5
      go_simp
      exact hR _ _ (Ext.refl _) rfl
    · intro xs wq hq hk R hR
      have f1 := hq.cell c1; have f2 := hq.cell c2; have f3 := hq.cell c3; have f4 := hq.cell c4; have f5 := hq.cell c5
      go_simp
      exact hR _ _ (Ext.refl _) rfl
    · intro xs wq hq hk R hR
      have f1 := hq.cell c1; have f2 := hq.cell c2; have f3 := hq.cell c3; have f4 := hq.cell c4; have f5 := hq.cell c5
      go_simp
      exact hR _ _ (Ext.refl _) rfl
    · intro xs wq hq hk R hR
      go_simp
      exact (number_any l1 _ (HE1.out.ext hq) (by have := HB.out; omega)).mono (by rintro e' w4 ⟨rfl, h2⟩; exact ⟨_, rfl, hR _ _ h2 rfl⟩)
    · intro xs wq hq R hR
      have f1 := hq.cell c1; have f2 := hq.cell c2; have f3 := hq.cell c3; have f4 := hq.cell c4; have f5 := hq.cell c5
      go_simp
      exact hR _ _ (Ext.refl _) rfl
    · intro xs wq hq hk R hR
      have f1 := hq.cell c1; have f2 := hq.cell c2; have f3 := hq.cell c3; have f4 := hq.cell c4; have f5 := hq.cell c5
      go_simp
      exact hR _ _ (Ext.refl _) rfl
    · intro xs wq hq hk R hR
      have f1 := hq.cell c1; have f2 := hq.cell c2; have f3 := hq.cell c3; have f4 := hq.cell c4; have f5 := hq.cell c5
      go_simp
      exact hR _ _ (Ext.refl _) rfl
    · intro xs wq hq hk R hR
      go_simp
      exact (number_any l2 _ (HE1.out.ext hq) (by have := HB.out; omega)).mono (by rintro e' w4 ⟨rfl, h2⟩; exact ⟨_, rfl, hR _ _ h2 rfl⟩)
    · intro xs wq hq R hR
      have f1 := hq.cell c1; have f2 := hq.cell c2; have f3 := hq.cell c3; have f4 := hq.cell c4; have f5 := hq.cell c5
      go_simp
      exact hR _ _ (Ext.refl _) rfl
    · intro xs wq hq hk R hR
      have f1 := hq.cell c1; have f2 := hq.cell c2; have f3 := hq.cell c3; have f4 := hq.cell c4; have f5 := hq.cell c5
      go_simp
      exact hR _ _ (Ext.refl _) rfl
    · intro xs wq hq hk R hR
      have f1 := hq.cell c1; have f2 := hq.cell c2; have f3 := hq.cell c3; have f4 := hq.cell c4; have f5 := hq.cell c5
      go_simp
      exact hR _ _ (Ext.refl _) rfl
    · intro xs wq hq hk R hR
      go_simp
      exact (number_any l3 _ (HE1.out.ext hq) (by have := HB.out; omega)).mono (by rintro e' w4 ⟨rfl, h2⟩; exact ⟨_, rfl, hR _ _ h2 rfl⟩)
    · intro xs wq hq R hR
      have f1 := hq.cell c1; have f2 := hq.cell c2; have f3 := hq.cell c3; have f4 := hq.cell c4; have f5 := hq.cell c5
      go_simp
      exact hR _ _ (Ext.refl _) rfl
    · intro xs wq hq hk R hR
      have f1 := hq.cell c1; have f2 := hq.cell c2; have f3 := hq.cell c3; have f4 := hq.cell c4; have f5 := hq.cell c5
      go_simp
      exact hR _ _ (Ext.refl _) rfl
    · intro xs wq hq hk R hR
      have f1 := hq.cell c1; have f2 := hq.cell c2; have f3 := hq.cell c3; have f4 := hq.cell c4; have f5 := hq.cell c5
      go_simp
      exact hR _ _ (Ext.refl _) rfl
    · intro xs wq hq hk R hR
      go_simp
      exact (none_any l4 _).mono (by rintro e' w4 ⟨rfl, rfl⟩; exact ⟨_, rfl, hR _ _ (Ext.refl _) rfl⟩)
    · intro xs wq hq R hR
      have f1 := hq.cell c1; have f2 := hq.cell c2; have f3 := hq.cell c3; have f4 := hq.cell c4; have f5 := hq.cell c5
      go_simp
      exact hR _ _ (Ext.refl _) rfl
    · intro xs wq hq hk R hR
      have f1 := hq.cell c1; have f2 := hq.cell c2; have f3 := hq.cell c3; have f4 := hq.cell c4; have f5 := hq.cell c5
      go_simp
      exact hR _ _ (Ext.refl _) rfl
    · intro xs wq hq hk R hR
      have f1 := hq.cell c1; have f2 := hq.cell c2; have f3 := hq.cell c3; have f4 := hq.cell c4; have f5 := hq.cell c5
      go_simp
      exact hR _ _ (Ext.refl _) rfl
    · intro xs wq hq hk R hR
      go_simp
      exact (undigits_any l5 _ (by have := HB.out; omega)).mono (by rintro e' w4 ⟨⟨u, rfl, hu, ht⟩, h2⟩; exact ⟨_, rfl, hR _ _ h2 ⟨hu, ht⟩⟩)
    · intro xs wq hq hk R hR
      obtain ⟨hk0, hk1, hk2, hk3, hk4, hk5⟩ := hk
      obtain ⟨ua, uc, hu, -⟩ := id hk5.1
      go_simp
      exact hR _ _ (Ext.refl _) ⟨_, rfl, hu ▸ hk5.1, hu ▸ hk5.2⟩
    · intro xs wq hq R hR
      go_simp
      exact hR _ _ ((Ext.refl _).alloc _) ⟨_, rfl, hq.size, alloc_at _ _⟩
  intro xs w3 hx3 hk
  simp only [heldV, Nat.zero_add, Nat.reduceAdd, and_true] at hk
  obtain ⟨q0, q1, q2, q3, q4, q5, q6, q7, q8, q9, q10, q11, q12, q13, q14, q15, q16, q17, q18, q19, q20, q21, q22⟩ := hk
  simp (maxSteps := 1000000) only [List.take_succ_cons, List.take_zero, List.drop_succ_cons, List.drop_zero, fillFrom, Act.put, List.setIfInBounds_toArray, List.set_cons_zero, List.set_cons_succ, Nat.zero_add, Nat.reduceAdd, q0, q1, q2, q3, q4, q5, q6, q7, q8, q9, q10, q11, q12, q13, q14, q15, q16, q17, q18, q19]
  clear q0 q1 q2 q3 q4 q5 q6 q7 q8 q9 q10 q11 q12 q13 q14 q15 q16 q17 q18 q19
  generalize xs 20 = x20 at *
  generalize xs 21 = x21 at *
  generalize xs 22 = x22 at *
  obtain ⟨vd, rfl, hvd, hty⟩ := q21
  obtain ⟨ga, rfl, hga, hgr⟩ := q22
  obtain ⟨va, vc, hva, -⟩ := id hvd
  subst hva
  have hx13 : Ext w1 w3 := hx3
  clear q20
  go_wp2_with (first
    | (refine wpList_store_row rfl 26 (.tmp 5) (.tmp 31) rfl ga (acCells kind (numV l1) (numV l2) (numV l3) (noneL l4) (.slice va (undL l5).length vc) (.slice none 0 0) (.slice none 0 0)) rfl rfl 26 _ hgr sizeAc rfl (by simp [Value.oneCell']) ?_; have hg4 := setRow_heap w3 ga _ (acCells kind (numV l1) (numV l2) (numV l3) (noneL l4) (.slice va (undL l5).length vc) (.slice none 0 0) (.slice none 0 0)) _ _ hgr; have hgw := setRow_grown w3 ga (acCells kind (numV l1) (numV l2) (numV l3) (noneL l4) (.slice va (undL l5).length vc) (.slice none 0 0) (.slice none 0 0)); have hx4 : Ext w1 (w3.setRow ga (acCells kind (numV l1) (numV l2) (numV l3) (noneL l4) (.slice va (undL l5).length vc) (.slice none 0 0) (.slice none 0 0))) := hx13.but hgw hga; have hk5 : Keep 5 w3 (w3.setRow ga (acCells kind (numV l1) (numV l2) (numV l3) (noneL l4) (.slice va (undL l5).length vc) (.slice none 0 0) (.slice none 0 0))) := Keep.of_grown hgw hgr (by decide); generalize w3.setRow ga (acCells kind (numV l1) (numV l2) (numV l3) (noneL l4) (.slice va (undL l5).length vc) (.slice none 0 0) (.slice none 0 0)) = w4 at *; have d6 := hx4.cell c6; have d7 := hx4.cell c7)
    | (go_at_call 49; go_must (refine (list_any l6 _ (HE1.out.ext hx4) (by have := HB.out; omega)).mono ?_; rintro e w5 ⟨⟨v6, rfl, hv6, ht6⟩, hx5⟩; obtain ⟨a6, cap6, rfl, y1, y2, y3, y4⟩ := hv6.get)))
  have hK6 : (listL l6).length ≤ 3000001 := by have := listL_len l6; have := HB.out; omega
  have HP6 : Hid (∀ x ∈ listL l6, x.length ≤ 3000000) := fun x hx => Nat.le_trans (listL_piece l6 x hx) (by have := HB.out; omega)
  generalize hK : listL l6 = K at *
  have HK : Hid _ := hK
  have hvd5 : IsBytes w5 (.slice va (undL l5).length vc) (undL l5) := Row.keep hvd hty (hk5.trans (Keep.of_ext hx5))
  have hty5 : Typed 5 w5 (.slice va (undL l5).length vc) := hty.keep (hk5.trans (Keep.of_ext hx5))
  have hg5 := hx5.row hg4
  have hx15 := hx4.trans hx5
  have HV6 : Hid _ := hv6
  have HT6 : Hid _ := ht6
  have HVD : Hid _ := hvd5
  have HTD : Hid _ := hty5
  have HE5 : Hid _ := HE1.out.ext hx15
  have hx15c7 : Hid _ := c7
  clear hgw hg4 hgr hvd hty hK hv6 ht6 y4 hx3 hx13 hx4 hx5 hk5 hvd5 hty5 c1 c2 c3 c4 c5 c6 c7 d6 d7 j1 j2 j3 j4 j5 j6
  go_loopw [37] (fun i wr => ∃ (k : Nat) (vf : Value), k ≤ K.length ∧ i = .int .i64 k ∧ wr.heap[ga]? = some (.cells (acCells kind (numV l1) (numV l2) (numV l3) (noneL l4) (.slice va (undL l5).length vc) vf (.slice none 0 0)) 26 (0, 0)) ∧
      wr.ownsRow w5.heap.size 3 1 vf k (((K.take k).map numV).map fun x => .int .i64 x) ∧ Ext w1 wr ∧ Keep 9 w5 wr ∧ Keep 5 w5 wr) (fun i _ => K.length - (intOf i).toNat)
  case atStart => exact ⟨0, .slice none 0 0, Nat.zero_le _, rfl, hg5, World.ownsRow_nil _ _ _ _, hx15, Keep.refl _ _, Keep.refl _ _⟩
  case round =>
    obtain ⟨k, vf, hk, rfl, hgr, hown, hxr, hk9, hk5⟩ := hrel
    by_cases hlt : k < K.length
    · obtain ⟨x, hxe⟩ : ∃ x, K[k]? = some x := ⟨_, List.getElem?_eq_getElem hlt⟩
      obtain ⟨a6', cap6', he6, y1', y2', y3', y4'⟩ := (IsStrs.get (l := K) (Row.keep HV6.out HT6.out hk9))
      obtain ⟨b6, o6, ha6, hc6⟩ := y4' k hlt
      subst ha6
      simp only [Value.slice.injEq] at he6
      obtain ⟨rfl, -, rfl⟩ := he6
      have hck := hc6 k hlt
      rw [List.getD_eq_getElem?_getD, hxe, Option.getD_some] at hck
      have HX : Hid _ := hxe
      have hxl := HP6.out x (List.mem_of_getElem? hxe)
      have hga6 : wr.cell? ⟨ga, 6, none⟩ = some vf := (cell_of_row wr ga 6 _ _ _ hgr).trans rfl
      have hsz5 : w5.heap.size ≤ wr.heap.size := hk9.1
      clear hxe hc6 y4'
      go_wp2
      apply wp_region_mix 5 [_, _, _, .int .i64 (numV x), undef] [none, none, none, none, some (fun u w' => ∃ g, u = .slice (some ⟨g, 0, none⟩) 1 1 ∧ w'.heap[g]? = some (.cells #[.int .i64 (numV x)] 3 (0, 0)))] [[], [0], [], [2], [3]] (by kernel_rfl) (by kernel_rfl) (by simp [mixV])
      · refine ⟨?_, trivial⟩
        · exact fun _ _ _ he ⟨g, h1, h3⟩ => ⟨g, h1, he.row h3⟩
      · simp (maxSteps := 1000000) only [List.take_succ_cons, List.take_zero, oblFrom, stepObl, fillFrom, Act.put, List.setIfInBounds_toArray, List.set_cons_zero, List.set_cons_succ, knows, getV, mixV, List.getD_cons_zero, List.getD_cons_succ, and_true, true_and, forall_const]
        refine ⟨?_, ?_, ?_, ?_, ?_⟩
        · intro xs wq hq R hR
          have f6 := hq.cell hga6
          go_simp
          exact hR _ _ (Ext.refl _) rfl
        · intro xs wq hq hk R hR
          have f6 := hq.cell hga6
          go_simp
          exact hR _ _ (Ext.refl _) rfl
        · intro xs wq hq R hR
          have f6 := hq.cell hga6
          go_simp
          exact hR _ _ (Ext.refl _) rfl
        · intro xs wq hq hk R hR
          go_simp
          exact (number_any x _ (HE1.out.ext (hxr.trans hq)) (by omega)).mono (by rintro e' w7 ⟨rfl, h2⟩; exact ⟨_, rfl, hR _ _ h2 rfl⟩)
        · intro xs wq hq hk R hR
          go_simp
          exact hR _ _ ((Ext.refl _).alloc _) ⟨_, rfl, alloc_at _ _⟩
      intro xs w6 hx6 hk
      simp only [heldV, Nat.zero_add, Nat.reduceAdd, and_true] at hk
      obtain ⟨q0, q1, q2, q3, q4⟩ := hk
      simp (maxSteps := 1000000) only [List.take_succ_cons, List.take_zero, List.drop_succ_cons, List.drop_zero, fillFrom, Act.put, List.setIfInBounds_toArray, List.set_cons_zero, List.set_cons_succ, Nat.zero_add, Nat.reduceAdd, q0, q1, q2, q3]
      clear q0 q1 q2 q3
      generalize xs 4 = x4 at *
      obtain ⟨g, rfl, hg⟩ := q4
      have hown6 := owns_ext hown hx6
      have hg6 := hx6.row hgr
      have hsz6 := Nat.le_trans hsz5 hx6.size
      have hx16 := hxr.trans hx6
      have hk96 := hk9.trans (Keep.of_ext hx6)
      have hk56 := hk5.trans (Keep.of_ext hx6)
      clear hown hgr hga6 hck
      go_wp2_with (at_builtin; refine app_int rfl _ _ rfl w5.heap.size _ k _ rfl hown6 g 1 1 [numV x] rfl rfl hg (by omega) hsz6 ?_; intro v' w7 hown7 hgr7; obtain ⟨gv, cv, rfl⟩ := owns_some hown7 (by omega); have hg7 := (Keep.of_owns (e := 26) hown6 hgr7 (by decide)).2 _ _ _ hg6; have hx17 : Ext w1 w7 := Below.grown hx16 hgr7 hx16.size (fun q hq => Nat.le_trans hx15.size (hown6.lt q hq).1); have hk97 := hk96.trans (Keep.of_owns (e := 9) hown6 hgr7 (by decide)); have hk57 := hk56.trans (Keep.of_owns (e := 5) hown6 hgr7 (by decide)); have hc6 : w7.cell? ⟨ga, 6, none⟩ = some vf := (cell_of_row w7 ga 6 _ _ _ hg7).trans rfl; have hf6 := frozen_of_row w7 ga 6 _ _ hg7)
      go_roundw
      case rel => exact ⟨k + 1, _, by omega, by go_num, heap_setCell_same w7 ga 6 _ _ _ hg7, by rw [List.take_add_one, HX.out, Option.toList_some, List.map_append]; exact owns_but hown7 (setCell_grown _ _ _ _) hg7 (by decide), hx17.but (setCell_grown _ _ _ _) hga, hk97.trans (Keep.of_grown (setCell_grown _ _ _ _) hg7 (by decide)), hk57.trans (Keep.of_grown (setCell_grown _ _ _ _) hg7 (by decide))⟩
      case measure => simp [intOf]; omega
    · have hkk : k = K.length := by omega
      subst hkk
      rw [List.take_length] at hown
      have d7 : wr.cell? ⟨b, o + 7, none⟩ = some (S8 l7) := hxr.cell (hx15c7.out)
      have hfi : IsInts wr vf (K.map numV) := by
        unfold IsInts
        rw [List.length_map]
        exact Row.of_owns hown (by omega)
      have hft : Typed 3 wr vf := Typed.of_owns hown
      obtain ⟨af, cf, hvf, -⟩ := id hfi
      subst hvf
      have HFI : Hid _ := hfi
      have HFT : Hid _ := hft
      have HVD2 : Hid (IsBytes wr (.slice va (undL l5).length vc) (undL l5)) := Row.keep HVD.out HTD.out hk5
      have HTD2 : Hid (Typed 5 wr (.slice va (undL l5).length vc)) := Typed.keep HTD.out hk5
      clear hown hfi hft hk9 hk5 hg5
      obtain ⟨wb, rfl⟩ : ∃ wb : World, wb = wr := ⟨_, rfl⟩
      go_wp2_with (go_at_call 49; go_must (refine (list_any l7 _ (HE1.out.ext hxr) (by have := HB.out; omega)).mono ?_; rintro e w8 ⟨⟨v7, rfl, hv7, ht7⟩, hx8⟩; obtain ⟨a7, cap7, rfl, z1, z2, z3, z4⟩ := hv7.get))
      have hM7 : (listL l7).length ≤ 3000001 := by have := listL_len l7; have := HB.out; omega
      have HP7 : Hid (∀ x ∈ listL l7, x.length ≤ 3000000) := fun x hx => Nat.le_trans (listL_piece l7 x hx) (by have := HB.out; omega)
      generalize hM : listL l7 = M at *
      have HM : Hid _ := hM
      have hg8 := hx8.row hgr
      have hx18 := hxr.trans hx8
      have HV7 : Hid _ := hv7
      have HT7 : Hid _ := ht7
      clear hM hv7 ht7 z4 hgr d7
      go_loopw [54] (fun i wr => ∃ (k : Nat) (ve : Value) (css : List (List Value)), k ≤ M.length ∧ i = .int .i64 k ∧ wr.heap[ga]? = some (.cells (acCells kind (numV l1) (numV l2) (numV l3) (noneL l4) (.slice va (undL l5).length vc) (.slice af (K.map numV).length cf) ve) 26 (0, 0)) ∧
          wr.ownsRow w8.heap.size 43 7 ve k css.flatten ∧ css.length = k ∧ (∀ (j : Nat) c x, css[j]? = some c → M[j]? = some x → IsEvT wr c (readEvL x)) ∧ Ext w1 wr ∧ Keep 9 w8 wr ∧ Keep 5 w8 wr ∧ Keep 3 w8 wr) (fun i _ => M.length - (intOf i).toNat)
      case atStart => exact ⟨0, .slice none 0 0, [], Nat.zero_le _, rfl, hg8, World.ownsRow_nil _ _ _ _, rfl, fun j c x hc _ => by simp at hc, hx18, Keep.refl _ _, Keep.refl _ _, Keep.refl _ _⟩
      case round =>
        obtain ⟨k, ve, css, hk, rfl, hgr, hown, hcl, hcs, hxw, hk9, hk5, hk3⟩ := hrel
        have HCL : Hid _ := hcl
        have HCS : Hid _ := hcs
        clear hcl hcs
        by_cases hlt : k < M.length
        · obtain ⟨x, hxe⟩ : ∃ x, M[k]? = some x := ⟨_, List.getElem?_eq_getElem hlt⟩
          obtain ⟨a7', cap7', he7, t1', t2', t3', t4'⟩ := (IsStrs.get (l := M) (Row.keep HV7.out HT7.out hk9))
          obtain ⟨b7, o7, ha7, hc7⟩ := t4' k hlt
          subst ha7
          simp only [Value.slice.injEq] at he7
          obtain ⟨rfl, -, rfl⟩ := he7
          have hck := hc7 k hlt
          rw [List.getD_eq_getElem?_getD, hxe, Option.getD_some] at hck
          have HX : Hid _ := hxe
          have hxl := HP7.out x (List.mem_of_getElem? hxe)
          have hga7 : wr.cell? ⟨ga, 7, none⟩ = some ve := (cell_of_row wr ga 7 _ _ _ hgr).trans rfl
          have hsz8 : w8.heap.size ≤ wr.heap.size := hk9.1
          clear hxe hc7 t4'
          go_wp2
          apply wp_region_mix 5 [_, _, _, undef, undef] [none, none, none, some (fun u w' => ∃ cs, u = .agg cs.toArray ∧ IsEvT w' cs (readEvL x)), some (fun u w' => ∃ g cs, u = .slice (some ⟨g, 0, none⟩) 1 1 ∧ w'.heap[g]? = some (.cells cs.toArray 43 (0, 0)) ∧ IsEvT w' cs (readEvL x))] [[], [0], [], [2], [3]] (by kernel_rfl) (by kernel_rfl) (by simp [mixV])
          · refine ⟨?_, ?_, trivial⟩
            · exact fun _ _ _ he ⟨cs, h1, h3⟩ => ⟨cs, h1, h3.keep (Keep.of_ext he)⟩
            · exact fun _ _ _ he ⟨g, cs, h1, h3, h4⟩ => ⟨g, cs, h1, he.row h3, h4.keep (Keep.of_ext he)⟩
          · simp (maxSteps := 1000000) only [List.take_succ_cons, List.take_zero, oblFrom, stepObl, fillFrom, Act.put, List.setIfInBounds_toArray, List.set_cons_zero, List.set_cons_succ, knows, getV, mixV, List.getD_cons_zero, List.getD_cons_succ, and_true, true_and, forall_const]
            refine ⟨?_, ?_, ?_, ?_, ?_⟩
            · intro xs wq hq R hR
              have f7 := hq.cell hga7
              go_simp
              exact hR _ _ (Ext.refl _) rfl
            · intro xs wq hq hk R hR
              have f7 := hq.cell hga7
              go_simp
              exact hR _ _ (Ext.refl _) rfl
            · intro xs wq hq R hR
              have f7 := hq.cell hga7
              go_simp
              exact hR _ _ (Ext.refl _) rfl
            · intro xs wq hq hk R hR
              go_simp
              exact (readEvent_any x _ (HE1.out.ext (hxw.trans hq)) (by omega)).mono (by rintro e' w7 ⟨⟨cs, rfl, h4⟩, h2⟩; exact ⟨_, rfl, hR _ _ h2 ⟨cs, rfl, h4⟩⟩)
            · intro xs wq hq hk R hR
              obtain ⟨cs, hcs1, vd', rfl, hb', ht'⟩ := hk
              obtain ⟨ua, uc, rfl, -⟩ := id hb'
              go_simp
              exact hR _ _ ((Ext.refl _).alloc _) ⟨_, _, rfl, alloc_at _ _, _, rfl, IsBytes.ext hb' ((Ext.refl _).alloc _), ht'.keep (Keep.of_ext ((Ext.refl _).alloc _))⟩
          intro xs w6 hx6 hk
          simp only [heldV, Nat.zero_add, Nat.reduceAdd, and_true] at hk
          obtain ⟨q0, q1, q2, q3, q4⟩ := hk
          simp (maxSteps := 1000000) only [List.take_succ_cons, List.take_zero, List.drop_succ_cons, List.drop_zero, fillFrom, Act.put, List.setIfInBounds_toArray, List.set_cons_zero, List.set_cons_succ, Nat.zero_add, Nat.reduceAdd, q0, q1, q2]
          clear q0 q1 q2
          generalize xs 3 = x3 at *
          generalize xs 4 = x4 at *
          obtain ⟨g, cs, rfl, hg, hev⟩ := q4
          have hown6 := owns_ext hown hx6
          have hg6 := hx6.row hgr
          have hsz6 := Nat.le_trans hsz8 hx6.size
          have hx16 := hxw.trans hx6
          have hk96 := hk9.trans (Keep.of_ext hx6)
          have hk56 := hk5.trans (Keep.of_ext hx6)
          have hk36 := hk3.trans (Keep.of_ext hx6)
          have hk5r : Keep 5 wr w6 := Keep.of_ext hx6
          have hcl7 : cs.length = 7 := by obtain ⟨_, rfl, _⟩ := hev; rfl
          have hone : cs.all (·.oneCell') = true := by obtain ⟨_, rfl, ⟨_, _, rfl, _⟩, _⟩ := hev; simp [Value.oneCell']
          have HEV : Hid _ := hev
          clear hown hgr hga7 hck hev q3
          go_wp2_with (at_builtin; refine app_ev rfl _ _ rfl w8.heap.size _ k _ rfl hown6 g 1 cs rfl hcl7 hg hone (by omega) hsz6 ?_; intro v' w7 hown7 hgr7; obtain ⟨gv, cv, rfl⟩ := owns_some hown7 (by omega); have hg7 := (Keep.of_owns (e := 26) hown6 hgr7 (by decide)).2 _ _ _ hg6; have hx17 : Ext w1 w7 := Below.grown hx16 hgr7 hx16.size (fun q hq => Nat.le_trans hx18.size (hown6.lt q hq).1); have hk97 := hk96.trans (Keep.of_owns (e := 9) hown6 hgr7 (by decide)); have hk5w : Keep 5 w6 w7 := Keep.of_owns hown6 hgr7 (by decide); have hk37 := hk36.trans (Keep.of_owns (e := 3) hown6 hgr7 (by decide)); have hc7 : w7.cell? ⟨ga, 7, none⟩ = some ve := (cell_of_row w7 ga 7 _ _ _ hg7).trans rfl; have hf7 := frozen_of_row w7 ga 7 _ _ hg7)
          have hk5z : Keep 5 w7 (w7.setCell ⟨ga, 7, none⟩ (.slice (some ⟨gv, 0, none⟩) (k + 1) cv)) := Keep.of_grown (setCell_grown _ _ _ _) hg7 (by decide)
          go_roundw
          case rel =>
            refine ⟨k + 1, _, css ++ [cs], by omega, by go_num, heap_setCell_same w7 ga 7 _ _ _ hg7, ?_, by rw [List.length_append, HCL.out]; rfl, ?_, hx17.but (setCell_grown _ _ _ _) hga, hk97.trans (Keep.of_grown (setCell_grown _ _ _ _) hg7 (by decide)), (hk56.trans hk5w).trans hk5z, hk37.trans (Keep.of_grown (setCell_grown _ _ _ _) hg7 (by decide))⟩
            · rw [List.flatten_append]
              simpa using owns_but hown7 (setCell_grown _ _ _ _) hg7 (by decide)
            · intro j c y hc hy
              rw [List.getElem?_append] at hc
              split at hc
              · exact (HCS.out j c y hc hy).keep ((hk5r.trans hk5w).trans hk5z)
              · rename_i hj
                have hjk : j = k := by
                  have := HCL.out
                  have h9 := (List.getElem?_eq_some_iff.1 hc).1
                  simp at h9; omega
                subst hjk
                rw [HCL.out, Nat.sub_self] at hc
                have : cs = c := by simpa using hc
                subst this
                have : x = y := Option.some.inj (HX.out.symm.trans hy)
                subst this
                exact IsEvT.keep HEV.out (hk5w.trans hk5z)
          case measure => simp [intOf]; omega
        · have hkk : k = M.length := by omega
          subst hkk
          have hg0r := hxw.row hg0
          have hga0 : ga ≠ w.heap.size := by omega
          have hrw := Row.of_owns hown (by omega)
          have htw := Typed.of_owns hown
          obtain ⟨ae, ce, hve, -⟩ := id hrw
          subst hve
          have HRW : Hid _ := hrw
          have HTW : Hid _ := htw
          clear hrw htw hown
          have hst := setRow_grown wr w.heap.size (acCells kind (numV l1) (numV l2) (numV l3) (noneL l4) (.slice va (undL l5).length vc) (.slice af (K.map numV).length cf) (.slice ae M.length ce))
          go_wp2_with (first
            | (refine wpList_load_row rfl 26 (.tmp 5) rfl ga rfl 26 _ (0, 0) _ hgr Tryd.underlying26 rfl sizeAc ?_)
            | (refine wpList_store_row rfl 26 (.tmp 4) (.tmp 66) rfl w.heap.size (acCells kind (numV l1) (numV l2) (numV l3) (noneL l4) (.slice va (undL l5).length vc) (.slice af (K.map numV).length cf) (.slice ae M.length ce)) rfl rfl 26 _ hg0r sizeAc rfl (by simp [Value.oneCell']) ?_))
          refine bodyPost_ret (results_cell_row rfl _ _ w.heap.size 26 (acCells kind (numV l1) (numV l2) (numV l3) (noneL l4) (.slice va (undL l5).length vc) (.slice af (K.map numV).length cf) (.slice ae M.length ce)) (0, 0) _ rfl (setRow_heap _ _ _ _ _ _ hg0r) Tryd.underlying26 rfl sizeAc) rfl ?_
          refine ⟨⟨_, rfl, ?_⟩, (hx1.trans hxw).setRow _ _ (Nat.le_refl _)⟩
          have e5 : Keep 5 wr (wr.setRow w.heap.size (acCells kind (numV l1) (numV l2) (numV l3) (noneL l4) (.slice va (undL l5).length vc) (.slice af (K.map numV).length cf) (.slice ae M.length ce))) := Keep.of_grown hst hg0r (by decide)
          have e3 : Keep 3 wr (wr.setRow w.heap.size (acCells kind (numV l1) (numV l2) (numV l3) (noneL l4) (.slice va (undL l5).length vc) (.slice af (K.map numV).length cf) (.slice ae M.length ce))) := Keep.of_grown hst hg0r (by decide)
          have e43 : Keep 43 wr (wr.setRow w.heap.size (acCells kind (numV l1) (numV l2) (numV l3) (noneL l4) (.slice va (undL l5).length vc) (.slice af (K.map numV).length cf) (.slice ae M.length ce))) := Keep.of_grown hst hg0r (by decide)
          rw [HR.out]
          refine ⟨_, _, _, rfl, ⟨Row.keep HVD2.out HTD2.out (((Keep.of_ext hx8).trans hk5).trans e5), Typed.keep HTD2.out (((Keep.of_ext hx8).trans hk5).trans e5)⟩, ⟨Row.keep HFI.out HFT.out (((Keep.of_ext hx8).trans hk3).trans e3), Typed.keep HFT.out (((Keep.of_ext hx8).trans hk3).trans e3)⟩, css, ?_, Typed.keep HTW.out e43, ?_, ?_⟩
          · show Row _ _ (List.map readEvL M).length _
            rw [List.length_map (f := readEvL)]
            exact Row.keep HRW.out HTW.out e43
          · show css.length = (List.map readEvL M).length
            rw [List.length_map (f := readEvL)]
            exact HCL.out
          · intro j c y hc hy
            rw [List.getElem?_map] at hy
            obtain ⟨x, hx, rfl⟩ := Option.map_eq_some_iff.1 hy
            exact IsEvT.keep (HCS.out j c x hc hx) e5

end Go.Proofs.YthfkohppillflaaDoor
