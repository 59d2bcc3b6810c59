/- script.paths, script.edit, script.act: an act of four bytes. Conditions: bytes. -/
import Derived.Test.YthfkohppillflaaDoorText
namespace Go.Proofs.YthfkohppillflaaDoor
open Go Go.RowKit

section
variable {ops : Array Oper} {rest : List Oper} {o : Oper} {a : Act} {Q : Exit → Act → World → Prop} {w : World}
/-- A store of one cell into a block known whole. -/
theorem store_field (hgd : o.guard = none) (ty : TypeId) (x y : Operand) (ho : o.op = .store ty x y) (g j : Nat) (hx : a.eval x = .pointer (some ⟨g, j, none⟩)) (v : Value) (hy : a.eval y = v) (h1 : v.oneCell' = true)
    (t : TypeId) (cur : Array Value) (hg : w.heap[g]? = some (.cells cur t (0, 0))) (hj : j + 1 ≤ cur.size) (hi : (Tryd.prog.info? ty).map (·.size) = some 1) (new : Array Value) (hnew : new = (cur.toList.take j ++ [v] ++ cur.toList.drop (j + 1)).toArray)
    (h : ∀ w', w'.heap[g]? = some (.cells new t (0, 0)) → w.grownBy w' (some g) → wpList Tryd.prog ops Q rest (a.put o.dst undef) w') : wpList Tryd.prog ops Q (o :: rest) a w :=
  wpList_plain hgd fun _ hK => by
    have hs := run_storeCells_at (P := Tryd.prog) g j t [v] 0 cur w hg (by simpa using hj) (fun u hu => by simp at hu; subst hu; exact h1)
    have hc : v.cells = #[v] := by cases v <;> first | rfl | cases h1
    have hr : (storeVar ty ⟨g, j, none⟩ v).run Tryd.prog w = .ok () (w.setRow g new) := by
      cases hq : Tryd.prog.info? ty with
      | none => simp [hq] at hi
      | some i =>
        have hs1 : i.size = 1 := by simpa [hq] using hi
        simp only [Nat.add_zero, List.length_cons, List.length_nil, Nat.zero_add] at hs
        rw [hnew]
        simp [storeVar, sizeOf, typeInfo, hq, hc, hs1, hs]
    unfold Oper.wp execOp
    simp only [ho, hx, hy, Instr.storeAt, Instr.sureAddr, Sem.run_bind, Sem.run_pure, Result.andThen_ok, hr]
    exact hK _ _ (h _ (setRow_heap _ _ _ _ _ _ hg) (setRow_grown _ _ _))
end
theorem size_int : (Tryd.prog.info? 3).map (·.size) = some 1 := by kernel_rfl
theorem size_bytes : (Tryd.prog.info? 22).map (·.size) = some 1 := by kernel_rfl
theorem size_ints : (Tryd.prog.info? 23).map (·.size) = some 1 := by kernel_rfl

/-- An act whose events lie in a block of type te. -/
def IsEvsG (te : TypeId) (w : World) (v : Value) (es : List Ev) : Prop := ∃ css : List (List Value), Row w v es.length css.flatten ∧ Typed te w v ∧ css.length = es.length ∧ ∀ (i : Nat) c e, css[i]? = some c → es[i]? = some e → IsEvT w c e
def IsAcG (te : TypeId) (w : World) (cs : List Value) (x : Ac) : Prop := ∃ vd vf ve, cs = [.int .i64 x.kind, .int .i64 x.a, .int .i64 x.b, .int .i64 x.n, S8 x.path, vd, vf, ve] ∧ (IsBytes w vd x.data ∧ Typed 5 w vd) ∧ (IsInts w vf x.fates ∧ Typed 3 w vf) ∧ IsEvsG te w ve x.events
theorem IsEvsG.evs {te : TypeId} {w : World} {v : Value} {es : List Ev} (h : IsEvsG te w v es) : IsEvs w v es := by
  obtain ⟨css, h1, _, h2, h3⟩ := h
  exact ⟨css, h1, h2, fun i c e hc he => (h3 i c e hc he).ev⟩
theorem IsAcG.ac {te : TypeId} {w : World} {cs : List Value} {x : Ac} (h : IsAcG te w cs x) : IsAc w cs x := by
  obtain ⟨vd, vf, ve, h1, h2, h3, h4⟩ := h
  exact ⟨vd, vf, ve, h1, h2.1, h3.1, h4.evs⟩
theorem IsEvsG.keep {te : TypeId} {w w' : World} {v : Value} {es : List Ev} (h : IsEvsG te w v es) (k5 : Keep 5 w w') (ke : Keep te w w') : IsEvsG te w' v es := by
  obtain ⟨css, h1, h0, h2, h3⟩ := h
  exact ⟨css, h1.keep h0 ke, h0.keep ke, h2, fun i c e hc he => (h3 i c e hc he).keep k5⟩
theorem IsAcG.keep {te : TypeId} {w w' : World} {cs : List Value} {x : Ac} (h : IsAcG te w cs x) (k5 : Keep 5 w w') (k3 : Keep 3 w w') (ke : Keep te w w') : IsAcG te w' cs x := by
  obtain ⟨vd, vf, ve, h1, h2, h3, h4⟩ := h
  exact ⟨vd, vf, ve, h1, ⟨Row.keep h2.1 h2.2 k5, h2.2.keep k5⟩, ⟨Row.keep h3.1 h3.2 k3, h3.2.keep k3⟩, h4.keep k5 ke⟩
theorem IsAcG.ext {te : TypeId} {w w' : World} {cs : List Value} {x : Ac} (h : IsAcG te w cs x) (he : Ext w w') : IsAcG te w' cs x := h.keep (Keep.of_ext he) (Keep.of_ext he) (Keep.of_ext he)
theorem IsEvsG.nil (te : TypeId) (w : World) : IsEvsG te w (.slice none 0 0) [] := ⟨[], Row.nil _, Typed.nil _ _ _ _, rfl, fun i c e hc _ => by simp at hc⟩
theorem IsAcG.plain (te : TypeId) (w : World) (kind a b n : Int) (p : B8) : IsAcG te w (acCells kind a b n p (.slice none 0 0) (.slice none 0 0) (.slice none 0 0)).toList ⟨kind, a, b, n, p, [], [], []⟩ :=
  ⟨_, _, _, rfl, ⟨Row.nil _, Typed.nil _ _ _ _⟩, ⟨Row.nil _, Typed.nil _ _ _ _⟩, IsEvsG.nil _ _⟩

def editL (m a y z : Nat) : Ac :=
  if m < 3 then ⟨1, a, 0, if 249 < z then 2 else 1, pathsL.getD (y % 6) [], textL y z, [], []⟩ else ⟨2, a, 0, 0, pathsL.getD (y % 6) [], [], [], []⟩
def actL (m x y z : Nat) : Ac :=
  if m = 4 then ⟨3, (x % 2 : Nat), 0, 0, [], [], [], []⟩
  else if m = 5 ∨ m = 6 then ⟨4, (x % 2 : Nat), 1 - (x % 2 : Nat), 4, [], [], if z % 7 = 0 then [((y % 5 : Nat) : Int)] else [], []⟩
  else if m = 7 then ⟨5, (x % 2 : Nat), 0, 0, [], [], [], []⟩
  else if m = 8 then ⟨7, (x % 2 : Nat), 0, 0, [], [], [], [⟨1 + (y % 60 : Nat), 1 + (z % 3 : Nat), 0, (z % 9 : Nat), (y % 7 : Nat), [], []⟩]⟩
  else if m = 9 then (if z % 2 = 1 then ⟨6, (x % 2 : Nat), 0, 0, [], [], [], []⟩ else ⟨8, (x % 2 : Nat), (y % 9 : Nat), (z % 5 : Nat), [], [], [], []⟩)
  else editL m (x % 2) y z

set_option maxRecDepth 100000 in
set_option maxHeartbeats 400000 in
theorem paths_any (w : World) :
    Calls Tryd.prog 72 #[] w fun e w' => (∃ v, e = .returned v ∧ IsStrs w' v pathsL) ∧ Ext w w' := by
  go_enter Tryd.func72, Tryd.ntmps72
  go_wp2
  go_ret
  exact ⟨⟨_, rfl, Row.new (alloc_at _ _) (by omega) _ rfl⟩, (Ext.refl w).alloc _⟩

set_option maxRecDepth 100000 in
set_option maxHeartbeats 1000000 in
theorem edit_any (m a y z : Nat) (w : World) (hm : m ≤ 255) (ha : a ≤ 255) (hy : y ≤ 255) (hz : z ≤ 255) :
    Calls Tryd.prog 59 #[.int .i64 m, .int .i64 a, .int .i64 y, .int .i64 z] w fun e w' => (∃ cs, e = .returned (.agg cs.toArray) ∧ IsAcG 43 w' cs (editL m a y z)) ∧ Ext w w' := by
  obtain ⟨w1, hw1⟩ : ∃ w1, w1 = w.alloc (.cells zeroAc.toArray 26) := ⟨_, rfl⟩
  have hx1 : Ext w w1 := by rw [hw1]; exact (Ext.refl _).alloc _
  have hg0 : w1.heap[w.heap.size]? = some (.cells zeroAc.toArray 26 (0, 0)) := by rw [hw1]; exact alloc_at _ _
  have HW1 : Hid _ := hw1
  obtain ⟨p, hp⟩ : ∃ p, y % 6 = p := ⟨_, rfl⟩
  have hpi : (y : Int) % 6 = (p : Int) := by omega
  have hp6 : p < 6 := by omega
  obtain ⟨path, hpath⟩ : ∃ l, pathsL.getD p [] = l := ⟨_, rfl⟩
  have HP : Hid _ := hpath
  have hE : editL m a y z = if m < 3 then ⟨1, a, 0, if 249 < z then 2 else 1, path, textL y z, [], []⟩ else ⟨2, a, 0, 0, path, [], [], []⟩ := by
    unfold editL; rw [hp, hpath]
  have HE : Hid _ := hE
  have h6 : pathsL.length = 6 := rfl
  clear hp hpath hE hw1
  go_enter Tryd.func59, Tryd.ntmps59
  go_wp2_with fail
  rw [show w.alloc (.cells #[.int .i64 0, .int .i64 0, .int .i64 0, .int .i64 0, S8 [], .slice none 0 0, .slice none 0 0, .slice none 0 0] 26) = w1 from HW1.out.symm]
  by_cases h3 : m < 3
  · by_cases h9 : 249 < z
    · have hz9 : (249 : Int) < (z : Int) := by omega
      go_wp2_with (first
        | (go_at_call 72; go_must (refine (paths_any _).mono ?_; rintro e w2 ⟨⟨v, rfl, hv⟩, hx2⟩; obtain ⟨a', cap', rfl, i1, i2, i3, i4⟩ := hv.get; obtain ⟨b, o, rfl, hc⟩ := i4 0 (by decide); have hcp := hc p (by rw [h6]; exact hp6); rw [HP.out] at hcp; have hg2 := ((hx2.alloc (.cells (acCells 2 a 0 0 path (.slice none 0 0) (.slice none 0 0) (.slice none 0 0)) 26))).row hg0; clear i4 hc))
        | (go_at_call 73; go_must (refine (text_any y z _ hy hz).mono ?_; rintro e w5 ⟨⟨vt, rfl, hvt, htt⟩, hx5⟩; obtain ⟨ta, tc, rfl, -⟩ := id hvt; have hx25 : Ext w2 w5 := ((Ext.refl w2).alloc _).trans hx5; have hg50 := hx5.row hg2; have hgp := hx5.row (alloc_at w2 (.cells (acCells 2 a 0 0 path (.slice none 0 0) (.slice none 0 0) (.slice none 0 0)) 26))))
        | (refine store_field rfl 3 (.tmp 22) (.const (.int .i64 1)) rfl w2.heap.size 0 rfl (.int .i64 1) rfl rfl _ _ hgp (Nat.le_of_ble_eq_true rfl) size_int (acCells 1 a 0 0 path (.slice none 0 0) (.slice none 0 0) (.slice none 0 0)) rfl ?_; intro w6 hg6 hgr6)
        | (refine store_field rfl 3 (.tmp 23) (.const (.int .i64 1)) rfl w2.heap.size 3 rfl (.int .i64 1) rfl rfl _ _ hg6 (Nat.le_of_ble_eq_true rfl) size_int (acCells 1 a 0 1 path (.slice none 0 0) (.slice none 0 0) (.slice none 0 0)) rfl ?_; intro w7 hg7 hgr7)
        | (refine store_field rfl 22 (.tmp 24) (.tmp 21) rfl w2.heap.size 5 rfl (.slice ta (textL y z).length tc) rfl rfl _ _ hg7 (Nat.le_of_ble_eq_true rfl) size_bytes (acCells 1 a 0 1 path (.slice ta (textL y z).length tc) (.slice none 0 0) (.slice none 0 0)) rfl ?_; intro w8 hg8 hgr8)
        | (refine store_field rfl 3 (.tmp 27) (.const (.int .i64 2)) rfl w2.heap.size 3 rfl (.int .i64 2) rfl rfl _ _ hg8 (Nat.le_of_ble_eq_true rfl) size_int (acCells 1 a 0 2 path (.slice ta (textL y z).length tc) (.slice none 0 0) (.slice none 0 0)) rfl ?_; intro w9 hg9 hgr9)
        | (refine wpList_load_row rfl 26 (.tmp 9) rfl w2.heap.size rfl 26 (acCells 1 a 0 2 path (.slice ta (textL y z).length tc) (.slice none 0 0) (.slice none 0 0)) (0, 0) _ hg9 Tryd.underlying26 rfl sizeAc ?_; have hgr : w5.grownBy w9 (some w2.heap.size) := (((hgr6.trans hgr7).trans hgr8).trans hgr9); have hgw := but_row hgr hg50 (by have := hx2.size; have := (Array.getElem?_eq_some_iff.1 hg0).1; omega))
        | (refine wpList_store_row rfl 26 (.tmp 8) (.tmp 28) rfl w.heap.size (acCells 1 a 0 2 path (.slice ta (textL y z).length tc) (.slice none 0 0) (.slice none 0 0)) rfl rfl 26 _ hgw sizeAc rfl (by simp [Value.oneCell']) ?_))
      refine bodyPost_ret (results_cell_row rfl _ _ w.heap.size 26 (acCells 1 a 0 2 path (.slice ta (textL y z).length tc) (.slice none 0 0) (.slice none 0 0)) (0, 0) _ rfl (setRow_heap _ _ _ _ _ _ hgw) Tryd.underlying26 rfl sizeAc) rfl ?_
      rw [HE.out, if_pos h3, if_pos h9]
      have hkp : Keep 5 w5 (w9.setRow w.heap.size (acCells 1 a 0 2 path (.slice ta (textL y z).length tc) (.slice none 0 0) (.slice none 0 0))) := (Keep.of_grown hgr hgp (by decide)).trans (Keep.of_grown (setRow_grown _ _ _) hgw (by decide))
      exact ⟨⟨_, rfl, ⟨_, _, _, rfl, ⟨Row.keep hvt htt hkp, htt.keep hkp⟩, ⟨Row.nil _, Typed.nil _ _ _ _⟩, IsEvsG.nil _ _⟩⟩, ((hx1.trans (hx2.trans hx25)).but hgr (by have := hx1.size; have := hx2.size; omega)).setRow _ _ (Nat.le_refl _)⟩
    · have hz9 : ¬ (249 : Int) < (z : Int) := by omega
      go_wp2_with (first
        | (go_at_call 72; go_must (refine (paths_any _).mono ?_; rintro e w2 ⟨⟨v, rfl, hv⟩, hx2⟩; obtain ⟨a', cap', rfl, i1, i2, i3, i4⟩ := hv.get; obtain ⟨b, o, rfl, hc⟩ := i4 0 (by decide); have hcp := hc p (by rw [h6]; exact hp6); rw [HP.out] at hcp; have hg2 := ((hx2.alloc (.cells (acCells 2 a 0 0 path (.slice none 0 0) (.slice none 0 0) (.slice none 0 0)) 26))).row hg0; clear i4 hc))
        | (go_at_call 73; go_must (refine (text_any y z _ hy hz).mono ?_; rintro e w5 ⟨⟨vt, rfl, hvt, htt⟩, hx5⟩; obtain ⟨ta, tc, rfl, -⟩ := id hvt; have hx25 : Ext w2 w5 := ((Ext.refl w2).alloc _).trans hx5; have hg50 := hx5.row hg2; have hgp := hx5.row (alloc_at w2 (.cells (acCells 2 a 0 0 path (.slice none 0 0) (.slice none 0 0) (.slice none 0 0)) 26))))
        | (refine store_field rfl 3 (.tmp 22) (.const (.int .i64 1)) rfl w2.heap.size 0 rfl (.int .i64 1) rfl rfl _ _ hgp (Nat.le_of_ble_eq_true rfl) size_int (acCells 1 a 0 0 path (.slice none 0 0) (.slice none 0 0) (.slice none 0 0)) rfl ?_; intro w6 hg6 hgr6)
        | (refine store_field rfl 3 (.tmp 23) (.const (.int .i64 1)) rfl w2.heap.size 3 rfl (.int .i64 1) rfl rfl _ _ hg6 (Nat.le_of_ble_eq_true rfl) size_int (acCells 1 a 0 1 path (.slice none 0 0) (.slice none 0 0) (.slice none 0 0)) rfl ?_; intro w7 hg7 hgr7)
        | (refine store_field rfl 22 (.tmp 24) (.tmp 21) rfl w2.heap.size 5 rfl (.slice ta (textL y z).length tc) rfl rfl _ _ hg7 (Nat.le_of_ble_eq_true rfl) size_bytes (acCells 1 a 0 1 path (.slice ta (textL y z).length tc) (.slice none 0 0) (.slice none 0 0)) rfl ?_; intro w8 hg8 hgr8)
        | (refine wpList_load_row rfl 26 (.tmp 9) rfl w2.heap.size rfl 26 (acCells 1 a 0 1 path (.slice ta (textL y z).length tc) (.slice none 0 0) (.slice none 0 0)) (0, 0) _ hg8 Tryd.underlying26 rfl sizeAc ?_; have hgr : w5.grownBy w8 (some w2.heap.size) := ((hgr6.trans hgr7).trans hgr8); have hgw := but_row hgr hg50 (by have := hx2.size; have := (Array.getElem?_eq_some_iff.1 hg0).1; omega))
        | (refine wpList_store_row rfl 26 (.tmp 8) (.tmp 28) rfl w.heap.size (acCells 1 a 0 1 path (.slice ta (textL y z).length tc) (.slice none 0 0) (.slice none 0 0)) rfl rfl 26 _ hgw sizeAc rfl (by simp [Value.oneCell']) ?_))
      refine bodyPost_ret (results_cell_row rfl _ _ w.heap.size 26 (acCells 1 a 0 1 path (.slice ta (textL y z).length tc) (.slice none 0 0) (.slice none 0 0)) (0, 0) _ rfl (setRow_heap _ _ _ _ _ _ hgw) Tryd.underlying26 rfl sizeAc) rfl ?_
      rw [HE.out, if_pos h3, if_neg h9]
      have hkp : Keep 5 w5 (w8.setRow w.heap.size (acCells 1 a 0 1 path (.slice ta (textL y z).length tc) (.slice none 0 0) (.slice none 0 0))) := (Keep.of_grown hgr hgp (by decide)).trans (Keep.of_grown (setRow_grown _ _ _) hgw (by decide))
      exact ⟨⟨_, rfl, ⟨_, _, _, rfl, ⟨Row.keep hvt htt hkp, htt.keep hkp⟩, ⟨Row.nil _, Typed.nil _ _ _ _⟩, IsEvsG.nil _ _⟩⟩, ((hx1.trans (hx2.trans hx25)).but hgr (by have := hx1.size; have := hx2.size; omega)).setRow _ _ (Nat.le_refl _)⟩
  · go_wp2_with (first
      | (go_at_call 72; go_must (refine (paths_any _).mono ?_; rintro e w2 ⟨⟨v, rfl, hv⟩, hx2⟩; obtain ⟨a', cap', rfl, i1, i2, i3, i4⟩ := hv.get; obtain ⟨b, o, rfl, hc⟩ := i4 0 (by decide); have hcp := hc p (by rw [h6]; exact hp6); rw [HP.out] at hcp; have hg2 := ((hx2.alloc (.cells (acCells 2 a 0 0 path (.slice none 0 0) (.slice none 0 0) (.slice none 0 0)) 26))).row hg0; clear i4 hc))
      | (refine wpList_store_row rfl 26 (.tmp 8) (.tmp 28) rfl w.heap.size (acCells 2 a 0 0 path (.slice none 0 0) (.slice none 0 0) (.slice none 0 0)) rfl rfl 26 _ hg2 sizeAc rfl (by simp [Value.oneCell']) ?_))
    refine bodyPost_ret (results_cell_row rfl _ _ w.heap.size 26 (acCells 2 a 0 0 path (.slice none 0 0) (.slice none 0 0) (.slice none 0 0)) (0, 0) _ rfl (setRow_heap _ _ _ _ _ _ hg2) Tryd.underlying26 rfl sizeAc) rfl ?_
    rw [HE.out, if_neg h3]
    exact ⟨⟨_, rfl, IsAcG.plain _ _ _ _ _ _ _⟩, (hx1.trans (hx2.alloc _)).setRow _ _ (Nat.le_refl _)⟩

end Go.Proofs.YthfkohppillflaaDoor
