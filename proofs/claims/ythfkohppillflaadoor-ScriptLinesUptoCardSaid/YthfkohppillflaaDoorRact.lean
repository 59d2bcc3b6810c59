/- marref24.act. Conditions: bytes. -/
import Derived.Test.YthfkohppillflaaDoorActs
namespace Go.Proofs.YthfkohppillflaaDoor
open Go Go.RowKit

theorem sizeRc : (Tryd.prog.info? 34).map (·.size) = some 8 := by kernel_rfl

set_option maxRecDepth 100000 in
set_option maxHeartbeats 4000000 in
theorem ract_any (m x y z : Nat) (w : World) (hk : m ≤ 255) (hx : x ≤ 255) (hy : y ≤ 255) (hz : z ≤ 255) (hm9 : m ≤ 9) :
    Calls Tryd.prog 44 #[.int .i64 m, .int .i64 x, .int .i64 y, .int .i64 z] w fun e w' => (∃ cs, e = .returned (.agg cs.toArray) ∧ IsAcG 64 w' cs (actL m x y z)) ∧ Ext w w' := by
  obtain ⟨w1, hw1⟩ : ∃ w1, w1 = w.alloc (.cells zeroAc.toArray 34) := ⟨_, rfl⟩
  have hx1 : Ext w w1 := by rw [hw1]; exact (Ext.refl _).alloc _
  have hg0 : w1.heap[w.heap.size]? = some (.cells zeroAc.toArray 34 (0, 0)) := by rw [hw1]; exact alloc_at _ _
  have hs1 : w.heap.size < w1.heap.size := (Array.getElem?_eq_some_iff.1 hg0).1
  have HW1 : Hid _ := hw1
  clear hw1
  obtain ⟨a, ha⟩ : ∃ a, x % 2 = a := ⟨_, rfl⟩
  have hai : (x : Int) % 2 = (a : Int) := by omega
  have ha2 : a < 2 := by omega
  obtain ⟨p, hp⟩ : ∃ p, y % 6 = p := ⟨_, rfl⟩
  have hpi : (y : Int) % 6 = (p : Int) := by omega
  have hp6 : p < 6 := by omega
  obtain ⟨path, hpath⟩ : ∃ l, pathsL.getD p [] = l := ⟨_, rfl⟩
  have HP : Hid _ := hpath
  have HPE : Hid (pathsL.getD (y % 6) [] = path) := by rw [hp]; exact hpath
  clear hp hpath
  obtain ⟨w2, hw2⟩ : ∃ w2, w2 = w1.alloc (.cells (pathsL.map S8).toArray 9) := ⟨_, rfl⟩
  have hx2 : Ext w1 w2 := by rw [hw2]; exact (Ext.refl _).alloc _
  have hgs : w2.heap[w1.heap.size]? = some (.cells (pathsL.map S8).toArray 9 (0, 0)) := by rw [hw2]; exact alloc_at _ _
  have hcp : w2.cell? ⟨w1.heap.size, p, none⟩ = some (S8 path) := by
    rw [cell_of_row w2 _ p _ _ _ hgs, ← HP.out]
    rcases (by omega : p = 0 ∨ p = 1 ∨ p = 2 ∨ p = 3 ∨ p = 4 ∨ p = 5) with rfl | rfl | rfl | rfl | rfl | rfl <;> rfl
  have hs2 : w1.heap.size < w2.heap.size := (Array.getElem?_eq_some_iff.1 hgs).1
  have HW2 : Hid _ := hw2
  obtain ⟨w3, hw3⟩ : ∃ w3, w3 = w2.alloc (.cells (acCells 0 a 0 0 path (.slice none 0 0) (.slice none 0 0) (.slice none 0 0)) 34) := ⟨_, rfl⟩
  have hx23 : Ext w2 w3 := by rw [hw3]; exact (Ext.refl _).alloc _
  have hg9 : w3.heap[w2.heap.size]? = some (.cells (acCells 0 a 0 0 path (.slice none 0 0) (.slice none 0 0) (.slice none 0 0)) 34 (0, 0)) := by rw [hw3]; exact alloc_at _ _
  have hs3 : w2.heap.size < w3.heap.size := (Array.getElem?_eq_some_iff.1 hg9).1
  have hx13 := hx1.trans (hx2.trans hx23)
  have hg0r : w3.heap[w.heap.size]? = some (.cells zeroAc.toArray 34 (0, 0)) := (hx2.trans hx23).row hg0
  have HW3 : Hid _ := hw3
  clear hw2 hw3
  go_enter Tryd.func44, Tryd.ntmps44
  go_upto_region 1 with (fail)
  rw [show w.alloc (.cells #[.int .i64 0, .int .i64 0, .int .i64 0, .int .i64 0, S8 [], .slice none 0 0, .slice none 0 0, .slice none 0 0] 34) = w1 from HW1.out.symm]
  go_upto_region 2 with (rw [show w1.alloc (.cells #[Value.string ⟨#[97]⟩, Value.string ⟨#[98]⟩, Value.string ⟨#[100, 47, 97]⟩, Value.string ⟨#[100, 47, 98]⟩, Value.string ⟨#[100]⟩, Value.string ⟨#[97, 47, 120]⟩] 9) = w2 from HW2.out.symm])
  rw [show w2.alloc (.cells #[.int .i64 0, .int .i64 a, .int .i64 0, .int .i64 0, S8 path, .slice none 0 0, .slice none 0 0, .slice none 0 0] 34) = w3 from HW3.out.symm]
  by_cases h4 : m = 4
  · subst h4
    go_wp2_with (first | (refine wpList_store_row rfl 34 (.tmp 8) (.tmp 28) rfl w.heap.size (acCells 3 a 0 0 [] (.slice none 0 0) (.slice none 0 0) (.slice none 0 0)) rfl rfl 34 _ hg0r sizeRc rfl (by simp [Value.oneCell']) ?_))
    refine bodyPost_ret (results_cell_row rfl _ _ w.heap.size 34 (acCells 3 a 0 0 [] (.slice none 0 0) (.slice none 0 0) (.slice none 0 0)) (0, 0) _ rfl (setRow_heap _ _ _ _ _ _ hg0r) Tryd.underlying34 rfl sizeRc) rfl ?_
    rw [show actL 4 x y z = ⟨3, a, 0, 0, [], [], [], []⟩ from by simp [actL, ha]]
    exact ⟨⟨_, rfl, IsAcG.plain _ _ _ _ _ _ _⟩, hx13.setRow _ _ (Nat.le_refl _)⟩
  by_cases h5 : m = 5
  · subst h5
    by_cases h7 : z % 7 = 0
    · have hzi : (z : Int) % 7 = 0 := by omega
      obtain ⟨f, hf⟩ : ∃ f, y % 5 = f := ⟨_, rfl⟩
      have hfi : (y : Int) % 5 = (f : Int) := by omega
      obtain ⟨wa, hwa⟩ : ∃ wa, wa = w3.alloc (.cells (acCells 4 a (1 - a) 4 [] (.slice none 0 0) (.slice none 0 0) (.slice none 0 0)) 34) := ⟨_, rfl⟩
      have hxa : Ext w3 wa := by rw [hwa]; exact (Ext.refl _).alloc _
      have hga : wa.heap[w3.heap.size]? = some (.cells (acCells 4 a (1 - a) 4 [] (.slice none 0 0) (.slice none 0 0) (.slice none 0 0)) 34 (0, 0)) := by rw [hwa]; exact alloc_at _ _
      have hga0 := hxa.row hg0r
      have hgb := ((Ext.refl wa).alloc (.cells #[.int .i64 f] 3)).row hga
      have hgb0 := ((Ext.refl wa).alloc (.cells #[.int .i64 f] 3)).row hga0
      have hgf := alloc_at wa (.cells #[.int .i64 f] 3)
      have HWA : Hid _ := hwa
      have hsa : w3.heap.size < wa.heap.size := (Array.getElem?_eq_some_iff.1 hga).1
      clear hwa
      go_wp2_with (first
        | (rw [show w3.alloc (.cells #[.int .i64 4, .int .i64 a, .int .i64 (1 - a), .int .i64 4, S8 [], (.slice none 0 0), (.slice none 0 0), (.slice none 0 0)] 34) = wa from HWA.out.symm])
        | (refine store_field rfl 23 (.tmp 44) (.tmp 43) rfl w3.heap.size 6 rfl (.slice (some ⟨wa.heap.size, 0, none⟩) 1 1) rfl rfl _ _ hgb (Nat.le_of_ble_eq_true rfl) size_ints (acCells 4 a (1 - a) 4 [] (.slice none 0 0) (.slice (some ⟨wa.heap.size, 0, none⟩) 1 1) (.slice none 0 0)) rfl ?_; intro w7 hg7 hgr7)
        | (refine wpList_load_row rfl 34 (.tmp 10) rfl w3.heap.size rfl 34 (acCells 4 a (1 - a) 4 [] (.slice none 0 0) (.slice (some ⟨wa.heap.size, 0, none⟩) 1 1) (.slice none 0 0)) (0, 0) _ hg7 Tryd.underlying34 rfl sizeRc ?_; have hgw := but_row hgr7 hgb0 (by omega))
        | (refine wpList_store_row rfl 34 (.tmp 8) (.tmp 45) rfl w.heap.size (acCells 4 a (1 - a) 4 [] (.slice none 0 0) (.slice (some ⟨wa.heap.size, 0, none⟩) 1 1) (.slice none 0 0)) rfl rfl 34 _ hgw sizeRc rfl (by simp [Value.oneCell']) ?_))
      refine bodyPost_ret (results_cell_row rfl _ _ w.heap.size 34 (acCells 4 a (1 - a) 4 [] (.slice none 0 0) (.slice (some ⟨wa.heap.size, 0, none⟩) 1 1) (.slice none 0 0)) (0, 0) _ rfl (setRow_heap _ _ _ _ _ _ hgw) Tryd.underlying34 rfl sizeRc) rfl ?_
      rw [show actL 5 x y z = ⟨4, a, 1 - a, 4, [], [], [(f : Int)], []⟩ from by simp [actL, ha, h7, hf]]
      have hfw := but_row hgr7 hgf (by omega)
      have hfz := but_row (setRow_grown w7 w.heap.size (acCells 4 a (1 - a) 4 [] (.slice none 0 0) (.slice (some ⟨wa.heap.size, 0, none⟩) 1 1) (.slice none 0 0))) hfw (by omega)
      refine ⟨⟨_, rfl, _, _, _, rfl, ⟨Row.nil _, Typed.nil _ _ _ _⟩, ⟨Row.new hfz (by simp) _ rfl, Typed.at hfz⟩, IsEvsG.nil _ _⟩, (((hx13.trans hxa).alloc _).but hgr7 (by omega)).setRow _ _ (Nat.le_refl _)⟩
    · have hzi : ((z : Int) % 7 == 0) = false := by simp; omega
      have hga := alloc_at w3 (.cells (acCells 4 a (1 - a) 4 [] (.slice none 0 0) (.slice none 0 0) (.slice none 0 0)) 34)
      have hgw := ((Ext.refl w3).alloc (.cells (acCells 4 a (1 - a) 4 [] (.slice none 0 0) (.slice none 0 0) (.slice none 0 0)) 34)).row hg0r
      go_wp2_with (first | (refine wpList_store_row rfl 34 (.tmp 8) (.tmp 45) rfl w.heap.size (acCells 4 a (1 - a) 4 [] (.slice none 0 0) (.slice none 0 0) (.slice none 0 0)) rfl rfl 34 _ hgw sizeRc rfl (by simp [Value.oneCell']) ?_))
      refine bodyPost_ret (results_cell_row rfl _ _ w.heap.size 34 (acCells 4 a (1 - a) 4 [] (.slice none 0 0) (.slice none 0 0) (.slice none 0 0)) (0, 0) _ rfl (setRow_heap _ _ _ _ _ _ hgw) Tryd.underlying34 rfl sizeRc) rfl ?_
      rw [show actL 5 x y z = ⟨4, a, 1 - a, 4, [], [], [], []⟩ from by simp [actL, ha, h7]]
      exact ⟨⟨_, rfl, IsAcG.plain _ _ _ _ _ _ _⟩, (hx13.alloc _).setRow _ _ (Nat.le_refl _)⟩
  by_cases h6 : m = 6
  · subst h6
    by_cases h7 : z % 7 = 0
    · have hzi : (z : Int) % 7 = 0 := by omega
      obtain ⟨f, hf⟩ : ∃ f, y % 5 = f := ⟨_, rfl⟩
      have hfi : (y : Int) % 5 = (f : Int) := by omega
      obtain ⟨wa, hwa⟩ : ∃ wa, wa = w3.alloc (.cells (acCells 4 a (1 - a) 4 [] (.slice none 0 0) (.slice none 0 0) (.slice none 0 0)) 34) := ⟨_, rfl⟩
      have hxa : Ext w3 wa := by rw [hwa]; exact (Ext.refl _).alloc _
      have hga : wa.heap[w3.heap.size]? = some (.cells (acCells 4 a (1 - a) 4 [] (.slice none 0 0) (.slice none 0 0) (.slice none 0 0)) 34 (0, 0)) := by rw [hwa]; exact alloc_at _ _
      have hga0 := hxa.row hg0r
      have hgb := ((Ext.refl wa).alloc (.cells #[.int .i64 f] 3)).row hga
      have hgb0 := ((Ext.refl wa).alloc (.cells #[.int .i64 f] 3)).row hga0
      have hgf := alloc_at wa (.cells #[.int .i64 f] 3)
      have HWA : Hid _ := hwa
      have hsa : w3.heap.size < wa.heap.size := (Array.getElem?_eq_some_iff.1 hga).1
      clear hwa
      go_wp2_with (first
        | (rw [show w3.alloc (.cells #[.int .i64 4, .int .i64 a, .int .i64 (1 - a), .int .i64 4, S8 [], (.slice none 0 0), (.slice none 0 0), (.slice none 0 0)] 34) = wa from HWA.out.symm])
        | (refine store_field rfl 23 (.tmp 44) (.tmp 43) rfl w3.heap.size 6 rfl (.slice (some ⟨wa.heap.size, 0, none⟩) 1 1) rfl rfl _ _ hgb (Nat.le_of_ble_eq_true rfl) size_ints (acCells 4 a (1 - a) 4 [] (.slice none 0 0) (.slice (some ⟨wa.heap.size, 0, none⟩) 1 1) (.slice none 0 0)) rfl ?_; intro w7 hg7 hgr7)
        | (refine wpList_load_row rfl 34 (.tmp 10) rfl w3.heap.size rfl 34 (acCells 4 a (1 - a) 4 [] (.slice none 0 0) (.slice (some ⟨wa.heap.size, 0, none⟩) 1 1) (.slice none 0 0)) (0, 0) _ hg7 Tryd.underlying34 rfl sizeRc ?_; have hgw := but_row hgr7 hgb0 (by omega))
        | (refine wpList_store_row rfl 34 (.tmp 8) (.tmp 45) rfl w.heap.size (acCells 4 a (1 - a) 4 [] (.slice none 0 0) (.slice (some ⟨wa.heap.size, 0, none⟩) 1 1) (.slice none 0 0)) rfl rfl 34 _ hgw sizeRc rfl (by simp [Value.oneCell']) ?_))
      refine bodyPost_ret (results_cell_row rfl _ _ w.heap.size 34 (acCells 4 a (1 - a) 4 [] (.slice none 0 0) (.slice (some ⟨wa.heap.size, 0, none⟩) 1 1) (.slice none 0 0)) (0, 0) _ rfl (setRow_heap _ _ _ _ _ _ hgw) Tryd.underlying34 rfl sizeRc) rfl ?_
      rw [show actL 6 x y z = ⟨4, a, 1 - a, 4, [], [], [(f : Int)], []⟩ from by simp [actL, ha, h7, hf]]
      have hfw := but_row hgr7 hgf (by omega)
      have hfz := but_row (setRow_grown w7 w.heap.size (acCells 4 a (1 - a) 4 [] (.slice none 0 0) (.slice (some ⟨wa.heap.size, 0, none⟩) 1 1) (.slice none 0 0))) hfw (by omega)
      refine ⟨⟨_, rfl, _, _, _, rfl, ⟨Row.nil _, Typed.nil _ _ _ _⟩, ⟨Row.new hfz (by simp) _ rfl, Typed.at hfz⟩, IsEvsG.nil _ _⟩, (((hx13.trans hxa).alloc _).but hgr7 (by omega)).setRow _ _ (Nat.le_refl _)⟩
    · have hzi : ((z : Int) % 7 == 0) = false := by simp; omega
      have hga := alloc_at w3 (.cells (acCells 4 a (1 - a) 4 [] (.slice none 0 0) (.slice none 0 0) (.slice none 0 0)) 34)
      have hgw := ((Ext.refl w3).alloc (.cells (acCells 4 a (1 - a) 4 [] (.slice none 0 0) (.slice none 0 0) (.slice none 0 0)) 34)).row hg0r
      go_wp2_with (first | (refine wpList_store_row rfl 34 (.tmp 8) (.tmp 45) rfl w.heap.size (acCells 4 a (1 - a) 4 [] (.slice none 0 0) (.slice none 0 0) (.slice none 0 0)) rfl rfl 34 _ hgw sizeRc rfl (by simp [Value.oneCell']) ?_))
      refine bodyPost_ret (results_cell_row rfl _ _ w.heap.size 34 (acCells 4 a (1 - a) 4 [] (.slice none 0 0) (.slice none 0 0) (.slice none 0 0)) (0, 0) _ rfl (setRow_heap _ _ _ _ _ _ hgw) Tryd.underlying34 rfl sizeRc) rfl ?_
      rw [show actL 6 x y z = ⟨4, a, 1 - a, 4, [], [], [], []⟩ from by simp [actL, ha, h7]]
      exact ⟨⟨_, rfl, IsAcG.plain _ _ _ _ _ _ _⟩, (hx13.alloc _).setRow _ _ (Nat.le_refl _)⟩
  by_cases h7 : m = 7
  · subst h7
    go_wp2_with (first | (refine wpList_store_row rfl 34 (.tmp 8) (.tmp 50) rfl w.heap.size (acCells 5 a 0 0 [] (.slice none 0 0) (.slice none 0 0) (.slice none 0 0)) rfl rfl 34 _ hg0r sizeRc rfl (by simp [Value.oneCell']) ?_))
    refine bodyPost_ret (results_cell_row rfl _ _ w.heap.size 34 (acCells 5 a 0 0 [] (.slice none 0 0) (.slice none 0 0) (.slice none 0 0)) (0, 0) _ rfl (setRow_heap _ _ _ _ _ _ hg0r) Tryd.underlying34 rfl sizeRc) rfl ?_
    rw [show actL 7 x y z = ⟨5, a, 0, 0, [], [], [], []⟩ from by simp [actL, ha]]
    exact ⟨⟨_, rfl, IsAcG.plain _ _ _ _ _ _ _⟩, hx13.setRow _ _ (Nat.le_refl _)⟩
  by_cases h8 : m = 8
  · subst h8
    obtain ⟨d, hd⟩ : ∃ d, y % 60 = d := ⟨_, rfl⟩
    have hdi : (y : Int) % 60 = (d : Int) := by omega
    obtain ⟨e, he⟩ : ∃ e, z % 3 = e := ⟨_, rfl⟩
    have hei : (z : Int) % 3 = (e : Int) := by omega
    obtain ⟨f, hf⟩ : ∃ f, z % 9 = f := ⟨_, rfl⟩
    have hfi : (z : Int) % 9 = (f : Int) := by omega
    obtain ⟨g, hg⟩ : ∃ g, y % 7 = g := ⟨_, rfl⟩
    have hgi : (y : Int) % 7 = (g : Int) := by omega
    have hd60 : d < 60 := by omega
    have he3 : e < 3 := by omega
    have hge := alloc_at w3 (.cells #[.int .i64 (1 + d), .int .i64 (1 + e), .int .i64 0, .int .i64 f, .int .i64 g, S8 [], .slice none 0 0] 64)
    have hgw := ((Ext.refl w3).alloc (.cells #[.int .i64 (1 + d), .int .i64 (1 + e), .int .i64 0, .int .i64 f, .int .i64 g, S8 [], .slice none 0 0] 64)).row hg0r
    go_wp2_with (first | (refine wpList_store_row rfl 34 (.tmp 8) (.tmp 67) rfl w.heap.size (acCells 7 a 0 0 [] (.slice none 0 0) (.slice none 0 0) (.slice (some ⟨w3.heap.size, 0, none⟩) 1 1)) rfl rfl 34 _ hgw sizeRc rfl (by simp [Value.oneCell']) ?_))
    refine bodyPost_ret (results_cell_row rfl _ _ w.heap.size 34 (acCells 7 a 0 0 [] (.slice none 0 0) (.slice none 0 0) (.slice (some ⟨w3.heap.size, 0, none⟩) 1 1)) (0, 0) _ rfl (setRow_heap _ _ _ _ _ _ hgw) Tryd.underlying34 rfl sizeRc) rfl ?_
    rw [show actL 8 x y z = ⟨7, a, 0, 0, [], [], [], [⟨1 + d, 1 + e, 0, f, g, [], []⟩]⟩ from by simp [actL, ha, hd, he, hf, hg]]
    have hez := but_row (setRow_grown _ w.heap.size (acCells 7 a 0 0 [] (.slice none 0 0) (.slice none 0 0) (.slice (some ⟨w3.heap.size, 0, none⟩) 1 1))) hge (by omega)
    refine ⟨⟨_, rfl, _, _, _, rfl, ⟨Row.nil _, Typed.nil _ _ _ _⟩, ⟨Row.nil _, Typed.nil _ _ _ _⟩, [(#[.int .i64 (1 + d), .int .i64 (1 + e), .int .i64 0, .int .i64 f, .int .i64 g, S8 [], .slice none 0 0] : Array Value).toList], Row.new hez (by simp) _ rfl, Typed.at hez, rfl, ?_⟩, (hx13.alloc _).setRow _ _ (Nat.le_refl _)⟩
    intro i c v hc hv
    have hi : i = 0 := by have := (List.getElem?_eq_some_iff.1 hc).1; simpa using this
    subst hi
    simp only [List.getElem?_cons_zero, Option.some.injEq] at hc hv
    subst hc hv
    exact ⟨_, rfl, Row.nil _, Typed.nil _ _ _ _⟩
  by_cases h9 : m = 9
  · subst h9
    by_cases h2 : z % 2 = 1
    · have hzi : (z : Int) % 2 = 1 := by omega
      go_wp2_with (first | (refine wpList_store_row rfl 34 (.tmp 8) (.tmp 75) rfl w.heap.size (acCells 6 a 0 0 [] (.slice none 0 0) (.slice none 0 0) (.slice none 0 0)) rfl rfl 34 _ hg0r sizeRc rfl (by simp [Value.oneCell']) ?_))
      refine bodyPost_ret (results_cell_row rfl _ _ w.heap.size 34 (acCells 6 a 0 0 [] (.slice none 0 0) (.slice none 0 0) (.slice none 0 0)) (0, 0) _ rfl (setRow_heap _ _ _ _ _ _ hg0r) Tryd.underlying34 rfl sizeRc) rfl ?_
      rw [show actL 9 x y z = ⟨6, a, 0, 0, [], [], [], []⟩ from by simp [actL, ha, h2]]
      exact ⟨⟨_, rfl, IsAcG.plain _ _ _ _ _ _ _⟩, hx13.setRow _ _ (Nat.le_refl _)⟩
    · have hzi : ((z : Int) % 2 == 1) = false := by simp; omega
      obtain ⟨d, hd⟩ : ∃ d, y % 9 = d := ⟨_, rfl⟩
      have hdi : (y : Int) % 9 = (d : Int) := by omega
      obtain ⟨e, he⟩ : ∃ e, z % 5 = e := ⟨_, rfl⟩
      have hei : (z : Int) % 5 = (e : Int) := by omega
      go_wp2_with (first | (refine wpList_store_row rfl 34 (.tmp 8) (.tmp 82) rfl w.heap.size (acCells 8 a d e [] (.slice none 0 0) (.slice none 0 0) (.slice none 0 0)) rfl rfl 34 _ hg0r sizeRc rfl (by simp [Value.oneCell']) ?_))
      refine bodyPost_ret (results_cell_row rfl _ _ w.heap.size 34 (acCells 8 a d e [] (.slice none 0 0) (.slice none 0 0) (.slice none 0 0)) (0, 0) _ rfl (setRow_heap _ _ _ _ _ _ hg0r) Tryd.underlying34 rfl sizeRc) rfl ?_
      rw [show actL 9 x y z = ⟨8, a, d, e, [], [], [], []⟩ from by simp [actL, ha, h2, hd, he]]
      exact ⟨⟨_, rfl, IsAcG.plain _ _ _ _ _ _ _⟩, hx13.setRow _ _ (Nat.le_refl _)⟩
  have n4 : ((m : Int) == 4) = false := by simp; omega
  have n5 : ((m : Int) == 5) = false := by simp; omega
  have n6 : ((m : Int) == 6) = false := by simp; omega
  have n7 : ((m : Int) == 7) = false := by simp; omega
  have n8 : ((m : Int) == 8) = false := by simp; omega
  have n9 : ((m : Int) == 9) = false := by simp; omega
  have hL : actL m x y z = editL m a y z := by simp [actL, ha, h4, h5, h6, h7, h8, h9]
  have HL : Hid _ := hL
  have hle : m ≤ 3 := by omega
  clear hL h4 h5 h6 h7 h8 h9
  by_cases h3 : m = 3
  · subst h3
    go_wp2_with (first
      | (refine store_field rfl 3 (.tmp 22) (.const (.int .i64 2)) rfl w2.heap.size 0 rfl (.int .i64 2) rfl rfl _ _ hg9 (Nat.le_of_ble_eq_true rfl) size_int (acCells 2 a 0 0 path (.slice none 0 0) (.slice none 0 0) (.slice none 0 0)) rfl ?_; intro w7 hg7 hgr7)
      | (refine wpList_load_row rfl 34 (.tmp 9) rfl w2.heap.size rfl 34 (acCells 2 a 0 0 path (.slice none 0 0) (.slice none 0 0) (.slice none 0 0)) (0, 0) _ hg7 Tryd.underlying34 rfl sizeRc ?_; have hgw := but_row hgr7 hg0r (by omega))
      | (refine wpList_store_row rfl 34 (.tmp 8) (.tmp 23) rfl w.heap.size (acCells 2 a 0 0 path (.slice none 0 0) (.slice none 0 0) (.slice none 0 0)) rfl rfl 34 _ hgw sizeRc rfl (by simp [Value.oneCell']) ?_))
    refine bodyPost_ret (results_cell_row rfl _ _ w.heap.size 34 (acCells 2 a 0 0 path (.slice none 0 0) (.slice none 0 0) (.slice none 0 0)) (0, 0) _ rfl (setRow_heap _ _ _ _ _ _ hgw) Tryd.underlying34 rfl sizeRc) rfl ?_
    rw [HL.out, show editL 3 a y z = ⟨2, a, 0, 0, path, [], [], []⟩ from by unfold editL; rw [HPE.out]; rfl]
    exact ⟨⟨_, rfl, IsAcG.plain _ _ _ _ _ _ _⟩, (hx13.but hgr7 (by omega)).setRow _ _ (Nat.le_refl _)⟩
  have n3 : ((m : Int) == 3) = false := by simp; omega
  have hlt3 : m < 3 := by omega
  clear h3
  by_cases h9 : 249 < z
  · have hz9 : (249 : Int) < (z : Int) := by omega
    go_wp2_with (first
      | (go_at_call 60; go_must (refine (rtext_any y z _ hy hz).mono ?_; rintro e w5 ⟨⟨vt, rfl, hvt, htt⟩, hx5⟩; obtain ⟨ta, tc, rfl, -⟩ := id hvt; have hg50 := hx5.row hg0r; have hgp := hx5.row hg9))
      | (refine store_field rfl 3 (.tmp 86) (.const (.int .i64 1)) rfl w2.heap.size 0 rfl (.int .i64 1) rfl rfl _ _ hgp (Nat.le_of_ble_eq_true rfl) size_int (acCells 1 a 0 0 path (.slice none 0 0) (.slice none 0 0) (.slice none 0 0)) rfl ?_; intro w8 hg8 hgr8)
      | (refine store_field rfl 3 (.tmp 87) (.const (.int .i64 1)) rfl w2.heap.size 3 rfl (.int .i64 1) rfl rfl _ _ hg8 (Nat.le_of_ble_eq_true rfl) size_int (acCells 1 a 0 1 path (.slice none 0 0) (.slice none 0 0) (.slice none 0 0)) rfl ?_; intro w9 hg9q hgr9)
      | (refine store_field rfl 22 (.tmp 88) (.tmp 85) rfl w2.heap.size 5 rfl (.slice ta (textL y z).length tc) rfl rfl _ _ hg9q (Nat.le_of_ble_eq_true rfl) size_bytes (acCells 1 a 0 1 path (.slice ta (textL y z).length tc) (.slice none 0 0) (.slice none 0 0)) rfl ?_; intro w10 hg10 hgr10)
      | (refine store_field rfl 3 (.tmp 91) (.const (.int .i64 2)) rfl w2.heap.size 3 rfl (.int .i64 2) rfl rfl _ _ hg10 (Nat.le_of_ble_eq_true rfl) size_int (acCells 1 a 0 2 path (.slice ta (textL y z).length tc) (.slice none 0 0) (.slice none 0 0)) rfl ?_; intro w11 hg11 hgr11)
      | (refine wpList_load_row rfl 34 (.tmp 9) rfl w2.heap.size rfl 34 (acCells 1 a 0 2 path (.slice ta (textL y z).length tc) (.slice none 0 0) (.slice none 0 0)) (0, 0) _ hg11 Tryd.underlying34 rfl sizeRc ?_; have hgr : w5.grownBy w11 (some w2.heap.size) := (((hgr8.trans hgr9).trans hgr10).trans hgr11); have hgw := but_row hgr hg50 (by omega))
      | (refine wpList_store_row rfl 34 (.tmp 8) (.tmp 92) rfl w.heap.size (acCells 1 a 0 2 path (.slice ta (textL y z).length tc) (.slice none 0 0) (.slice none 0 0)) rfl rfl 34 _ hgw sizeRc rfl (by simp [Value.oneCell']) ?_))
    refine bodyPost_ret (results_cell_row rfl _ _ w.heap.size 34 (acCells 1 a 0 2 path (.slice ta (textL y z).length tc) (.slice none 0 0) (.slice none 0 0)) (0, 0) _ rfl (setRow_heap _ _ _ _ _ _ hgw) Tryd.underlying34 rfl sizeRc) rfl ?_
    rw [HL.out, show editL m a y z = ⟨1, a, 0, 2, path, textL y z, [], []⟩ from by unfold editL; rw [HPE.out, if_pos hlt3, if_pos h9]]
    have hkp : Keep 5 w5 (w11.setRow w.heap.size (acCells 1 a 0 2 path (.slice ta (textL y z).length tc) (.slice none 0 0) (.slice none 0 0))) := (Keep.of_grown hgr hgp (by decide)).trans (Keep.of_grown (setRow_grown _ _ _) hgw (by decide))
    exact ⟨⟨_, rfl, ⟨_, _, _, rfl, ⟨Row.keep hvt htt hkp, htt.keep hkp⟩, ⟨Row.nil _, Typed.nil _ _ _ _⟩, IsEvsG.nil _ _⟩⟩, ((hx13.trans hx5).but hgr (by omega)).setRow _ _ (Nat.le_refl _)⟩
  · have hz9 : ¬ (249 : Int) < (z : Int) := by omega
    go_wp2_with (first
      | (go_at_call 60; go_must (refine (rtext_any y z _ hy hz).mono ?_; rintro e w5 ⟨⟨vt, rfl, hvt, htt⟩, hx5⟩; obtain ⟨ta, tc, rfl, -⟩ := id hvt; have hg50 := hx5.row hg0r; have hgp := hx5.row hg9))
      | (refine store_field rfl 3 (.tmp 86) (.const (.int .i64 1)) rfl w2.heap.size 0 rfl (.int .i64 1) rfl rfl _ _ hgp (Nat.le_of_ble_eq_true rfl) size_int (acCells 1 a 0 0 path (.slice none 0 0) (.slice none 0 0) (.slice none 0 0)) rfl ?_; intro w8 hg8 hgr8)
      | (refine store_field rfl 3 (.tmp 87) (.const (.int .i64 1)) rfl w2.heap.size 3 rfl (.int .i64 1) rfl rfl _ _ hg8 (Nat.le_of_ble_eq_true rfl) size_int (acCells 1 a 0 1 path (.slice none 0 0) (.slice none 0 0) (.slice none 0 0)) rfl ?_; intro w9 hg9q hgr9)
      | (refine store_field rfl 22 (.tmp 88) (.tmp 85) rfl w2.heap.size 5 rfl (.slice ta (textL y z).length tc) rfl rfl _ _ hg9q (Nat.le_of_ble_eq_true rfl) size_bytes (acCells 1 a 0 1 path (.slice ta (textL y z).length tc) (.slice none 0 0) (.slice none 0 0)) rfl ?_; intro w10 hg10 hgr10)
      | (refine wpList_load_row rfl 34 (.tmp 9) rfl w2.heap.size rfl 34 (acCells 1 a 0 1 path (.slice ta (textL y z).length tc) (.slice none 0 0) (.slice none 0 0)) (0, 0) _ hg10 Tryd.underlying34 rfl sizeRc ?_; have hgr : w5.grownBy w10 (some w2.heap.size) := ((hgr8.trans hgr9).trans hgr10); have hgw := but_row hgr hg50 (by omega))
      | (refine wpList_store_row rfl 34 (.tmp 8) (.tmp 92) rfl w.heap.size (acCells 1 a 0 1 path (.slice ta (textL y z).length tc) (.slice none 0 0) (.slice none 0 0)) rfl rfl 34 _ hgw sizeRc rfl (by simp [Value.oneCell']) ?_))
    refine bodyPost_ret (results_cell_row rfl _ _ w.heap.size 34 (acCells 1 a 0 1 path (.slice ta (textL y z).length tc) (.slice none 0 0) (.slice none 0 0)) (0, 0) _ rfl (setRow_heap _ _ _ _ _ _ hgw) Tryd.underlying34 rfl sizeRc) rfl ?_
    rw [HL.out, show editL m a y z = ⟨1, a, 0, 1, path, textL y z, [], []⟩ from by unfold editL; rw [HPE.out, if_pos hlt3, if_neg h9]]
    have hkp : Keep 5 w5 (w10.setRow w.heap.size (acCells 1 a 0 1 path (.slice ta (textL y z).length tc) (.slice none 0 0) (.slice none 0 0))) := (Keep.of_grown hgr hgp (by decide)).trans (Keep.of_grown (setRow_grown _ _ _) hgw (by decide))
    exact ⟨⟨_, rfl, ⟨_, _, _, rfl, ⟨Row.keep hvt htt hkp, htt.keep hkp⟩, ⟨Row.nil _, Typed.nil _ _ _ _⟩, IsEvsG.nil _ _⟩⟩, ((hx13.trans hx5).but hgr (by omega)).setRow _ _ (Nat.le_refl _)⟩

end Go.Proofs.YthfkohppillflaaDoor
