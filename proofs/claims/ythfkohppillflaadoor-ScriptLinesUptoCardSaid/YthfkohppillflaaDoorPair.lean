/- marlaw26.same, marref.CopyBytes: an act held against the document's. Conditions: none. -/
import Derived.Test.YthfkohppillflaaDoorEvs
namespace Go.Proofs.YthfkohppillflaaDoor
open Go Go.RowKit

set_option maxRecDepth 100000 in
set_option maxHeartbeats 2000000 in
theorem same_any (cs cs' : List Value) (x : Ac) (w : World) (hv : IsAc w cs x) (hv' : IsAc w cs' x) :
    Calls Tryd.prog 14 #[.agg cs.toArray, .agg cs'.toArray] w fun e w' => e = .returned (.bool true) ∧ Ext w w' := by
  obtain ⟨vd, vf, ve, rfl, hd, hf, he⟩ := hv
  obtain ⟨vd', vf', ve', rfl, hd', hf', he'⟩ := hv'
  have HD : Hid _ := hd
  have HF : Hid _ := hf
  have HE : Hid _ := he
  have HD' : Hid _ := hd'
  have HF' : Hid _ := hf'
  have HE' : Hid _ := he'
  have hdp : (⟨x.path.toArray⟩ : ByteArray).toList = x.path := Lib.toList_data _
  obtain ⟨d1, d2, rfl, -⟩ := id hd
  obtain ⟨f1, f2, rfl, -⟩ := id hf
  obtain ⟨q1, ⟨e1, e2, rfl, -⟩, -⟩ := id he
  obtain ⟨d1', d2', rfl, -⟩ := id hd'
  obtain ⟨f1', f2', rfl, -⟩ := id hf'
  obtain ⟨q1', ⟨e1', e2', rfl, -⟩, -⟩ := id he'
  clear hd hf he hd' hf' he'
  have hex : ∀ (A B : Obj), Ext w ((w.alloc A).alloc B) := fun A B => (((Ext.refl w).alloc A).alloc B)
  have HEX : Hid _ := hex
  clear hex
  go_enter Tryd.func14, Tryd.ntmps14
  have ga : ((w.alloc (.cells #[.int .i64 x.kind, .int .i64 x.a, .int .i64 x.b, .int .i64 x.n, S8 x.path, .slice d1 x.data.length d2, .slice f1 x.fates.length f2, .slice e1 x.events.length e2] 26)).alloc (.cells #[.int .i64 x.kind, .int .i64 x.a, .int .i64 x.b, .int .i64 x.n, S8 x.path, .slice d1' x.data.length d2', .slice f1' x.fates.length f2', .slice e1' x.events.length e2'] 34)).heap[w.heap.size]? = some (.cells #[.int .i64 x.kind, .int .i64 x.a, .int .i64 x.b, .int .i64 x.n, S8 x.path, .slice d1 x.data.length d2, .slice f1 x.fates.length f2, .slice e1 x.events.length e2] 26) := ((Ext.refl _).alloc _).row (alloc_at w _)
  have gb : ((w.alloc (.cells #[.int .i64 x.kind, .int .i64 x.a, .int .i64 x.b, .int .i64 x.n, S8 x.path, .slice d1 x.data.length d2, .slice f1 x.fates.length f2, .slice e1 x.events.length e2] 26)).alloc (.cells #[.int .i64 x.kind, .int .i64 x.a, .int .i64 x.b, .int .i64 x.n, S8 x.path, .slice d1' x.data.length d2', .slice f1' x.fates.length f2', .slice e1' x.events.length e2'] 34)).heap[w.heap.size + 1]? = some (.cells #[.int .i64 x.kind, .int .i64 x.a, .int .i64 x.b, .int .i64 x.n, S8 x.path, .slice d1' x.data.length d2', .slice f1' x.fates.length f2', .slice e1' x.events.length e2'] 34) := by
    have := alloc_at (w.alloc (.cells #[.int .i64 x.kind, .int .i64 x.a, .int .i64 x.b, .int .i64 x.n, S8 x.path, .slice d1 x.data.length d2, .slice f1 x.fates.length f2, .slice e1 x.events.length e2] 26)) (.cells #[.int .i64 x.kind, .int .i64 x.a, .int .i64 x.b, .int .i64 x.n, S8 x.path, .slice d1' x.data.length d2', .slice f1' x.fates.length f2', .slice e1' x.events.length e2'] 34)
    rwa [show (w.alloc (.cells #[.int .i64 x.kind, .int .i64 x.a, .int .i64 x.b, .int .i64 x.n, S8 x.path, .slice d1 x.data.length d2, .slice f1 x.fates.length f2, .slice e1 x.events.length e2] 26)).heap.size = w.heap.size + 1 by simp] at this
  go_wp2_with (first
    | (go_at_call 18; go_must (refine (bytes_any _ _ _ _ _ (IsBytes.ext HD.out (HEX.out _ _)) (IsBytes.ext HD'.out (HEX.out _ _))).mono ?_; rw [beq_self_eq_true]; rintro e w3 ⟨rfl, hx3⟩; have ga3 := hx3.row ga; have gb3 := hx3.row gb; have k6 : w3.cell? ⟨w.heap.size, 6, none⟩ = some (.slice f1 x.fates.length f2) := (cell_of_row w3 _ 6 _ _ _ ga3).trans rfl; have m6 : w3.cell? ⟨w.heap.size + 1, 6, none⟩ = some (.slice f1' x.fates.length f2') := (cell_of_row w3 _ 6 _ _ _ gb3).trans rfl; have hx03 := (HEX.out _ _).trans hx3))
    | (go_at_call 41; go_must (refine (ints_any _ _ _ _ (Row.ext HF.out hx03) (Row.ext HF'.out hx03)).mono ?_; rintro e w4 ⟨rfl, hx4⟩; have hx04 := hx03.trans hx4; have ga4 := hx4.row ga3; have gb4 := hx4.row gb3; have k7 : w4.cell? ⟨w.heap.size, 7, none⟩ = some (.slice e1 x.events.length e2) := (cell_of_row w4 _ 7 _ _ _ ga4).trans rfl; have m7 : w4.cell? ⟨w.heap.size + 1, 7, none⟩ = some (.slice e1' x.events.length e2') := (cell_of_row w4 _ 7 _ _ _ gb4).trans rfl))
    | (go_at_call 42; go_must (refine (events_any _ _ _ _ (IsEvs.ext HE.out hx04) (IsEvs.ext HE'.out hx04)).mono ?_; rintro e w5 ⟨rfl, hx5⟩)))
  go_ret
  exact ⟨rfl, hx04.trans hx5⟩

end Go.Proofs.YthfkohppillflaaDoor
