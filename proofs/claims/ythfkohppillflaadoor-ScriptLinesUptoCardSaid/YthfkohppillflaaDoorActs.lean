/- script.act, marref24.act: an act of four bytes. Conditions: bytes. -/
import Derived.Test.YthfkohppillflaaDoorEdit
namespace Go.Proofs.YthfkohppillflaaDoor
open Go Go.RowKit

theorem IsAcG.setRow {te ta : TypeId} {w : World} {cs : List Value} {x : Ac} (h : IsAcG te w cs x) {g : Nat} {old : Array Value} {fr : Nat × Nat} (hg : w.heap[g]? = some (.cells old ta fr)) (new : Array Value) (h5 : ta ≠ 5) (h3 : ta ≠ 3) (he : ta ≠ te) : IsAcG te (w.setRow g new) cs x :=
  h.keep (Keep.of_grown (setRow_grown _ _ _) hg h5) (Keep.of_grown (setRow_grown _ _ _) hg h3) (Keep.of_grown (setRow_grown _ _ _) hg he)

set_option maxRecDepth 100000 in
set_option maxHeartbeats 4000000 in
theorem act_any (k x y z : Nat) (w : World) (hk : k ≤ 255) (hx : x ≤ 255) (hy : y ≤ 255) (hz : z ≤ 255) :
    Calls Tryd.prog 43 #[.int .i64 k, .int .i64 x, .int .i64 y, .int .i64 z] w fun e w' => (∃ cs, e = .returned (.agg cs.toArray) ∧ IsAcG 43 w' cs (actL (k % 10) x y z)) ∧ Ext w w' := by
  obtain ⟨w1, hw1⟩ : ∃ w1, w1 = w.alloc (.cells zeroAc.toArray 26) := ⟨_, rfl⟩
  have hx1 : Ext w w1 := by rw [hw1]; exact (Ext.refl _).alloc _
  have hg0 : w1.heap[w.heap.size]? = some (.cells zeroAc.toArray 26 (0, 0)) := by rw [hw1]; exact alloc_at _ _
  have hs1 : w.heap.size < w1.heap.size := (Array.getElem?_eq_some_iff.1 hg0).1
  have HW1 : Hid _ := hw1
  clear hw1
  obtain ⟨a, ha⟩ : ∃ a, x % 2 = a := ⟨_, rfl⟩
  have hai : (x : Int) % 2 = (a : Int) := by omega
  have ha2 : a < 2 := by omega
  obtain ⟨m, hm⟩ : ∃ m, k % 10 = m := ⟨_, rfl⟩
  have hmi : (k : Int) % 10 = (m : Int) := by omega
  have hm9 : m ≤ 9 := by omega
  rw [hm]
  go_enter Tryd.func43, Tryd.ntmps43
  go_upto_region 1 with (fail)
  rw [show w.alloc (.cells #[.int .i64 0, .int .i64 0, .int .i64 0, .int .i64 0, S8 [], .slice none 0 0, .slice none 0 0, .slice none 0 0] 26) = w1 from HW1.out.symm]
  by_cases h4 : m = 4
  · subst h4
    go_wp2_with (first | (refine wpList_store_row rfl 26 (.tmp 8) (.tmp 18) rfl w.heap.size (acCells 3 a 0 0 [] (.slice none 0 0) (.slice none 0 0) (.slice none 0 0)) rfl rfl 26 _ hg0 sizeAc rfl (by simp [Value.oneCell']) ?_))
    refine bodyPost_ret (results_cell_row rfl _ _ w.heap.size 26 (acCells 3 a 0 0 [] (.slice none 0 0) (.slice none 0 0) (.slice none 0 0)) (0, 0) _ rfl (setRow_heap _ _ _ _ _ _ hg0) Tryd.underlying26 rfl sizeAc) rfl ?_
    rw [show actL 4 x y z = ⟨3, a, 0, 0, [], [], [], []⟩ from by simp [actL, ha]]
    exact ⟨⟨_, rfl, IsAcG.plain _ _ _ _ _ _ _⟩, hx1.setRow _ _ (Nat.le_refl _)⟩
  by_cases h5 : m = 5
  · subst h5
    by_cases h7 : z % 7 = 0
    · have hzi : (z : Int) % 7 = 0 := by omega
      obtain ⟨f, hf⟩ : ∃ f, y % 5 = f := ⟨_, rfl⟩
      have hfi : (y : Int) % 5 = (f : Int) := by omega
      obtain ⟨wa, hwa⟩ : ∃ wa, wa = w1.alloc (.cells (acCells 4 a (1 - a) 4 [] (.slice none 0 0) (.slice none 0 0) (.slice none 0 0)) 26) := ⟨_, rfl⟩
      have hxa : Ext w1 wa := by rw [hwa]; exact (Ext.refl _).alloc _
      have hga : wa.heap[w1.heap.size]? = some (.cells (acCells 4 a (1 - a) 4 [] (.slice none 0 0) (.slice none 0 0) (.slice none 0 0)) 26 (0, 0)) := by rw [hwa]; exact alloc_at _ _
      have hga0 := hxa.row hg0
      have hgb := ((Ext.refl wa).alloc (.cells #[.int .i64 f] 3)).row hga
      have hgb0 := ((Ext.refl wa).alloc (.cells #[.int .i64 f] 3)).row hga0
      have hgf := alloc_at wa (.cells #[.int .i64 f] 3)
      have HWA : Hid _ := hwa
      have hsa : w1.heap.size < wa.heap.size := (Array.getElem?_eq_some_iff.1 hga).1
      clear hwa
      go_wp2_with (first
        | (rw [show w1.alloc (.cells #[.int .i64 4, .int .i64 a, .int .i64 (1 - a), .int .i64 4, S8 [], (.slice none 0 0), (.slice none 0 0), (.slice none 0 0)] 26) = wa from HWA.out.symm])
        | (refine store_field rfl 23 (.tmp 32) (.tmp 31) rfl w1.heap.size 6 rfl (.slice (some ⟨wa.heap.size, 0, none⟩) 1 1) rfl rfl _ _ hgb (Nat.le_of_ble_eq_true rfl) size_ints (acCells 4 a (1 - a) 4 [] (.slice none 0 0) (.slice (some ⟨wa.heap.size, 0, none⟩) 1 1) (.slice none 0 0)) rfl ?_; intro w7 hg7 hgr7)
        | (refine wpList_load_row rfl 26 (.tmp 10) rfl w1.heap.size rfl 26 (acCells 4 a (1 - a) 4 [] (.slice none 0 0) (.slice (some ⟨wa.heap.size, 0, none⟩) 1 1) (.slice none 0 0)) (0, 0) _ hg7 Tryd.underlying26 rfl sizeAc ?_; have hgw := but_row hgr7 hgb0 (by omega))
        | (refine wpList_store_row rfl 26 (.tmp 8) (.tmp 33) rfl w.heap.size (acCells 4 a (1 - a) 4 [] (.slice none 0 0) (.slice (some ⟨wa.heap.size, 0, none⟩) 1 1) (.slice none 0 0)) rfl rfl 26 _ hgw sizeAc rfl (by simp [Value.oneCell']) ?_))
      refine bodyPost_ret (results_cell_row rfl _ _ w.heap.size 26 (acCells 4 a (1 - a) 4 [] (.slice none 0 0) (.slice (some ⟨wa.heap.size, 0, none⟩) 1 1) (.slice none 0 0)) (0, 0) _ rfl (setRow_heap _ _ _ _ _ _ hgw) Tryd.underlying26 rfl sizeAc) rfl ?_
      rw [show actL 5 x y z = ⟨4, a, 1 - a, 4, [], [], [(f : Int)], []⟩ from by simp [actL, ha, h7, hf]]
      have hfw := but_row hgr7 hgf (by omega)
      have hfz := but_row (setRow_grown w7 w.heap.size (acCells 4 a (1 - a) 4 [] (.slice none 0 0) (.slice (some ⟨wa.heap.size, 0, none⟩) 1 1) (.slice none 0 0))) hfw (by omega)
      refine ⟨⟨_, rfl, _, _, _, rfl, ⟨Row.nil _, Typed.nil _ _ _ _⟩, ⟨Row.new hfz (by simp) _ rfl, Typed.at hfz⟩, IsEvsG.nil _ _⟩, (((hx1.trans hxa).alloc _).but hgr7 (by omega)).setRow _ _ (Nat.le_refl _)⟩
    · have hzi : ((z : Int) % 7 == 0) = false := by simp; omega
      have hga := alloc_at w1 (.cells (acCells 4 a (1 - a) 4 [] (.slice none 0 0) (.slice none 0 0) (.slice none 0 0)) 26)
      have hgw := ((Ext.refl w1).alloc (.cells (acCells 4 a (1 - a) 4 [] (.slice none 0 0) (.slice none 0 0) (.slice none 0 0)) 26)).row hg0
      go_wp2_with (first | (refine wpList_store_row rfl 26 (.tmp 8) (.tmp 33) rfl w.heap.size (acCells 4 a (1 - a) 4 [] (.slice none 0 0) (.slice none 0 0) (.slice none 0 0)) rfl rfl 26 _ hgw sizeAc rfl (by simp [Value.oneCell']) ?_))
      refine bodyPost_ret (results_cell_row rfl _ _ w.heap.size 26 (acCells 4 a (1 - a) 4 [] (.slice none 0 0) (.slice none 0 0) (.slice none 0 0)) (0, 0) _ rfl (setRow_heap _ _ _ _ _ _ hgw) Tryd.underlying26 rfl sizeAc) rfl ?_
      rw [show actL 5 x y z = ⟨4, a, 1 - a, 4, [], [], [], []⟩ from by simp [actL, ha, h7]]
      exact ⟨⟨_, rfl, IsAcG.plain _ _ _ _ _ _ _⟩, (hx1.alloc _).setRow _ _ (Nat.le_refl _)⟩
  by_cases h6 : m = 6
  · subst h6
    by_cases h7 : z % 7 = 0
    · have hzi : (z : Int) % 7 = 0 := by omega
      obtain ⟨f, hf⟩ : ∃ f, y % 5 = f := ⟨_, rfl⟩
      have hfi : (y : Int) % 5 = (f : Int) := by omega
      obtain ⟨wa, hwa⟩ : ∃ wa, wa = w1.alloc (.cells (acCells 4 a (1 - a) 4 [] (.slice none 0 0) (.slice none 0 0) (.slice none 0 0)) 26) := ⟨_, rfl⟩
      have hxa : Ext w1 wa := by rw [hwa]; exact (Ext.refl _).alloc _
      have hga : wa.heap[w1.heap.size]? = some (.cells (acCells 4 a (1 - a) 4 [] (.slice none 0 0) (.slice none 0 0) (.slice none 0 0)) 26 (0, 0)) := by rw [hwa]; exact alloc_at _ _
      have hga0 := hxa.row hg0
      have hgb := ((Ext.refl wa).alloc (.cells #[.int .i64 f] 3)).row hga
      have hgb0 := ((Ext.refl wa).alloc (.cells #[.int .i64 f] 3)).row hga0
      have hgf := alloc_at wa (.cells #[.int .i64 f] 3)
      have HWA : Hid _ := hwa
      have hsa : w1.heap.size < wa.heap.size := (Array.getElem?_eq_some_iff.1 hga).1
      clear hwa
      go_wp2_with (first
        | (rw [show w1.alloc (.cells #[.int .i64 4, .int .i64 a, .int .i64 (1 - a), .int .i64 4, S8 [], (.slice none 0 0), (.slice none 0 0), (.slice none 0 0)] 26) = wa from HWA.out.symm])
        | (refine store_field rfl 23 (.tmp 32) (.tmp 31) rfl w1.heap.size 6 rfl (.slice (some ⟨wa.heap.size, 0, none⟩) 1 1) rfl rfl _ _ hgb (Nat.le_of_ble_eq_true rfl) size_ints (acCells 4 a (1 - a) 4 [] (.slice none 0 0) (.slice (some ⟨wa.heap.size, 0, none⟩) 1 1) (.slice none 0 0)) rfl ?_; intro w7 hg7 hgr7)
        | (refine wpList_load_row rfl 26 (.tmp 10) rfl w1.heap.size rfl 26 (acCells 4 a (1 - a) 4 [] (.slice none 0 0) (.slice (some ⟨wa.heap.size, 0, none⟩) 1 1) (.slice none 0 0)) (0, 0) _ hg7 Tryd.underlying26 rfl sizeAc ?_; have hgw := but_row hgr7 hgb0 (by omega))
        | (refine wpList_store_row rfl 26 (.tmp 8) (.tmp 33) rfl w.heap.size (acCells 4 a (1 - a) 4 [] (.slice none 0 0) (.slice (some ⟨wa.heap.size, 0, none⟩) 1 1) (.slice none 0 0)) rfl rfl 26 _ hgw sizeAc rfl (by simp [Value.oneCell']) ?_))
      refine bodyPost_ret (results_cell_row rfl _ _ w.heap.size 26 (acCells 4 a (1 - a) 4 [] (.slice none 0 0) (.slice (some ⟨wa.heap.size, 0, none⟩) 1 1) (.slice none 0 0)) (0, 0) _ rfl (setRow_heap _ _ _ _ _ _ hgw) Tryd.underlying26 rfl sizeAc) rfl ?_
      rw [show actL 6 x y z = ⟨4, a, 1 - a, 4, [], [], [(f : Int)], []⟩ from by simp [actL, ha, h7, hf]]
      have hfw := but_row hgr7 hgf (by omega)
      have hfz := but_row (setRow_grown w7 w.heap.size (acCells 4 a (1 - a) 4 [] (.slice none 0 0) (.slice (some ⟨wa.heap.size, 0, none⟩) 1 1) (.slice none 0 0))) hfw (by omega)
      refine ⟨⟨_, rfl, _, _, _, rfl, ⟨Row.nil _, Typed.nil _ _ _ _⟩, ⟨Row.new hfz (by simp) _ rfl, Typed.at hfz⟩, IsEvsG.nil _ _⟩, (((hx1.trans hxa).alloc _).but hgr7 (by omega)).setRow _ _ (Nat.le_refl _)⟩
    · have hzi : ((z : Int) % 7 == 0) = false := by simp; omega
      have hga := alloc_at w1 (.cells (acCells 4 a (1 - a) 4 [] (.slice none 0 0) (.slice none 0 0) (.slice none 0 0)) 26)
      have hgw := ((Ext.refl w1).alloc (.cells (acCells 4 a (1 - a) 4 [] (.slice none 0 0) (.slice none 0 0) (.slice none 0 0)) 26)).row hg0
      go_wp2_with (first | (refine wpList_store_row rfl 26 (.tmp 8) (.tmp 33) rfl w.heap.size (acCells 4 a (1 - a) 4 [] (.slice none 0 0) (.slice none 0 0) (.slice none 0 0)) rfl rfl 26 _ hgw sizeAc rfl (by simp [Value.oneCell']) ?_))
      refine bodyPost_ret (results_cell_row rfl _ _ w.heap.size 26 (acCells 4 a (1 - a) 4 [] (.slice none 0 0) (.slice none 0 0) (.slice none 0 0)) (0, 0) _ rfl (setRow_heap _ _ _ _ _ _ hgw) Tryd.underlying26 rfl sizeAc) rfl ?_
      rw [show actL 6 x y z = ⟨4, a, 1 - a, 4, [], [], [], []⟩ from by simp [actL, ha, h7]]
      exact ⟨⟨_, rfl, IsAcG.plain _ _ _ _ _ _ _⟩, (hx1.alloc _).setRow _ _ (Nat.le_refl _)⟩
  by_cases h7 : m = 7
  · subst h7
    go_wp2_with (first | (refine wpList_store_row rfl 26 (.tmp 8) (.tmp 37) rfl w.heap.size (acCells 5 a 0 0 [] (.slice none 0 0) (.slice none 0 0) (.slice none 0 0)) rfl rfl 26 _ hg0 sizeAc rfl (by simp [Value.oneCell']) ?_))
    refine bodyPost_ret (results_cell_row rfl _ _ w.heap.size 26 (acCells 5 a 0 0 [] (.slice none 0 0) (.slice none 0 0) (.slice none 0 0)) (0, 0) _ rfl (setRow_heap _ _ _ _ _ _ hg0) Tryd.underlying26 rfl sizeAc) rfl ?_
    rw [show actL 7 x y z = ⟨5, a, 0, 0, [], [], [], []⟩ from by simp [actL, ha]]
    exact ⟨⟨_, rfl, IsAcG.plain _ _ _ _ _ _ _⟩, hx1.setRow _ _ (Nat.le_refl _)⟩
  by_cases h8 : m = 8
  · subst h8
    obtain ⟨d, hd⟩ : ∃ d, y % 60 = d := ⟨_, rfl⟩
    have hdi : (y : Int) % 60 = (d : Int) := by omega
    obtain ⟨e, he⟩ : ∃ e, z % 3 = e := ⟨_, rfl⟩
    have hei : (z : Int) % 3 = (e : Int) := by omega
    obtain ⟨f, hf⟩ : ∃ f, z % 9 = f := ⟨_, rfl⟩
    have hfi : (z : Int) % 9 = (f : Int) := by omega
    obtain ⟨g, hg⟩ : ∃ g, y % 7 = g := ⟨_, rfl⟩
    have hgi : (y : Int) % 7 = (g : Int) := by omega
    have hd60 : d < 60 := by omega
    have he3 : e < 3 := by omega
    have hge := alloc_at w1 (.cells #[.int .i64 (1 + d), .int .i64 (1 + e), .int .i64 0, .int .i64 f, .int .i64 g, S8 [], .slice none 0 0] 43)
    have hgw := ((Ext.refl w1).alloc (.cells #[.int .i64 (1 + d), .int .i64 (1 + e), .int .i64 0, .int .i64 f, .int .i64 g, S8 [], .slice none 0 0] 43)).row hg0
    go_wp2_with (first | (refine wpList_store_row rfl 26 (.tmp 8) (.tmp 53) rfl w.heap.size (acCells 7 a 0 0 [] (.slice none 0 0) (.slice none 0 0) (.slice (some ⟨w1.heap.size, 0, none⟩) 1 1)) rfl rfl 26 _ hgw sizeAc rfl (by simp [Value.oneCell']) ?_))
    refine bodyPost_ret (results_cell_row rfl _ _ w.heap.size 26 (acCells 7 a 0 0 [] (.slice none 0 0) (.slice none 0 0) (.slice (some ⟨w1.heap.size, 0, none⟩) 1 1)) (0, 0) _ rfl (setRow_heap _ _ _ _ _ _ hgw) Tryd.underlying26 rfl sizeAc) rfl ?_
    rw [show actL 8 x y z = ⟨7, a, 0, 0, [], [], [], [⟨1 + d, 1 + e, 0, f, g, [], []⟩]⟩ from by simp [actL, ha, hd, he, hf, hg]]
    have hez := but_row (setRow_grown _ w.heap.size (acCells 7 a 0 0 [] (.slice none 0 0) (.slice none 0 0) (.slice (some ⟨w1.heap.size, 0, none⟩) 1 1))) hge (by omega)
    refine ⟨⟨_, rfl, _, _, _, rfl, ⟨Row.nil _, Typed.nil _ _ _ _⟩, ⟨Row.nil _, Typed.nil _ _ _ _⟩, [(#[.int .i64 (1 + d), .int .i64 (1 + e), .int .i64 0, .int .i64 f, .int .i64 g, S8 [], .slice none 0 0] : Array Value).toList], Row.new hez (by simp) _ rfl, Typed.at hez, rfl, ?_⟩, (hx1.alloc _).setRow _ _ (Nat.le_refl _)⟩
    intro i c v hc hv
    have hi : i = 0 := by have := (List.getElem?_eq_some_iff.1 hc).1; simpa using this
    subst hi
    simp only [List.getElem?_cons_zero, Option.some.injEq] at hc hv
    subst hc hv
    exact ⟨_, rfl, Row.nil _, Typed.nil _ _ _ _⟩
  by_cases h9 : m = 9
  · subst h9
    by_cases h2 : z % 2 = 1
    · have hzi : (z : Int) % 2 = 1 := by omega
      go_wp2_with (first | (refine wpList_store_row rfl 26 (.tmp 8) (.tmp 60) rfl w.heap.size (acCells 6 a 0 0 [] (.slice none 0 0) (.slice none 0 0) (.slice none 0 0)) rfl rfl 26 _ hg0 sizeAc rfl (by simp [Value.oneCell']) ?_))
      refine bodyPost_ret (results_cell_row rfl _ _ w.heap.size 26 (acCells 6 a 0 0 [] (.slice none 0 0) (.slice none 0 0) (.slice none 0 0)) (0, 0) _ rfl (setRow_heap _ _ _ _ _ _ hg0) Tryd.underlying26 rfl sizeAc) rfl ?_
      rw [show actL 9 x y z = ⟨6, a, 0, 0, [], [], [], []⟩ from by simp [actL, ha, h2]]
      exact ⟨⟨_, rfl, IsAcG.plain _ _ _ _ _ _ _⟩, hx1.setRow _ _ (Nat.le_refl _)⟩
    · have hzi : ((z : Int) % 2 == 1) = false := by simp; omega
      obtain ⟨d, hd⟩ : ∃ d, y % 9 = d := ⟨_, rfl⟩
      have hdi : (y : Int) % 9 = (d : Int) := by omega
      obtain ⟨e, he⟩ : ∃ e, z % 5 = e := ⟨_, rfl⟩
      have hei : (z : Int) % 5 = (e : Int) := by omega
      go_wp2_with (first | (refine wpList_store_row rfl 26 (.tmp 8) (.tmp 66) rfl w.heap.size (acCells 8 a d e [] (.slice none 0 0) (.slice none 0 0) (.slice none 0 0)) rfl rfl 26 _ hg0 sizeAc rfl (by simp [Value.oneCell']) ?_))
      refine bodyPost_ret (results_cell_row rfl _ _ w.heap.size 26 (acCells 8 a d e [] (.slice none 0 0) (.slice none 0 0) (.slice none 0 0)) (0, 0) _ rfl (setRow_heap _ _ _ _ _ _ hg0) Tryd.underlying26 rfl sizeAc) rfl ?_
      rw [show actL 9 x y z = ⟨8, a, d, e, [], [], [], []⟩ from by simp [actL, ha, h2, hd, he]]
      exact ⟨⟨_, rfl, IsAcG.plain _ _ _ _ _ _ _⟩, hx1.setRow _ _ (Nat.le_refl _)⟩
  have n4 : ((m : Int) == 4) = false := by simp; omega
  have n5 : ((m : Int) == 5) = false := by simp; omega
  have n6 : ((m : Int) == 6) = false := by simp; omega
  have n7 : ((m : Int) == 7) = false := by simp; omega
  have n8 : ((m : Int) == 8) = false := by simp; omega
  have n9 : ((m : Int) == 9) = false := by simp; omega
  have hL : actL m x y z = editL m a y z := by simp [actL, ha, h4, h5, h6, h7, h8, h9]
  have HL : Hid _ := hL
  have hle : m ≤ 3 := by omega
  clear hL h4 h5 h6 h7 h8 h9
  obtain ⟨X, hX⟩ : ∃ X, editL m a y z = X := ⟨_, rfl⟩
  have HX : Hid _ := hX
  clear hX
  go_wp2_with (first
    | (go_at_call 59; go_must (refine (edit_any m a y z _ (by omega) (by omega) hy hz).mono ?_; rw [HX.out]; rintro e w2 ⟨⟨cs, rfl, hac⟩, hx2⟩; have hgw := hx2.row hg0; have HAC : Hid _ := hac; obtain ⟨vd, vf, ve, rfl, ⟨⟨q1, q2, rfl, -⟩, -⟩, ⟨⟨q3, q4, rfl, -⟩, -⟩, ⟨q5, ⟨q6, q7, rfl, -⟩, -⟩⟩ := hac))
    | (refine wpList_store_row rfl 26 (.tmp 8) (.tmp 72) rfl w.heap.size (acCells X.kind X.a X.b X.n X.path (.slice q1 X.data.length q2) (.slice q3 X.fates.length q4) (.slice q6 X.events.length q7)) rfl rfl 26 _ hgw sizeAc rfl (by simp [Value.oneCell']) ?_))
  refine bodyPost_ret (results_cell_row rfl _ _ w.heap.size 26 (acCells X.kind X.a X.b X.n X.path (.slice q1 X.data.length q2) (.slice q3 X.fates.length q4) (.slice q6 X.events.length q7)) (0, 0) _ rfl (setRow_heap _ _ _ _ _ _ hgw) Tryd.underlying26 rfl sizeAc) rfl ?_
  rw [HL.out, HX.out]
  exact ⟨⟨_, rfl, IsAcG.setRow (IsAcG.ext HAC.out (Ext.refl _)) hgw _ (by decide) (by decide) (by decide)⟩, (hx1.trans hx2).setRow _ _ (Nat.le_refl _)⟩

end Go.Proofs.YthfkohppillflaaDoor
