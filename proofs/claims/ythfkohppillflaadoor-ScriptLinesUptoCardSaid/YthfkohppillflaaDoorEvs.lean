/- marlaw26.events: events held against the document's. Conditions: none. -/
import Derived.Test.YthfkohppillflaaDoorSame
import Derived.BigRegion
namespace Go.Proofs.YthfkohppillflaaDoor
open Go Go.RowKit

set_option maxRecDepth 100000 in
set_option maxHeartbeats 2000000 in
theorem events_any (v v' : Value) (l : List Ev) (w : World) (hv : IsEvs w v l) (hv' : IsEvs w v' l) :
    Calls Tryd.prog 42 #[v, v'] w fun e w' => e = .returned (.bool true) ∧ Ext w w' := by
  obtain ⟨a, cap, rfl, h1, h2, h3, h4⟩ := hv.get
  obtain ⟨a', cap', rfl, -, -, -, h4'⟩ := hv'.get
  have H4 : Hid _ := h4
  have H4' : Hid _ := h4'
  clear h4 h4' hv hv'
  go_enter Tryd.func42, Tryd.ntmps42
  go_wp2
  go_loopw [5] (fun i wr => ∃ k : Nat, k ≤ l.length ∧ i = .int .i64 k ∧ Ext w wr) (fun i _ => l.length - (intOf i).toNat)
  case atStart => exact ⟨0, Nat.zero_le _, rfl, Ext.refl _⟩
  case round =>
    obtain ⟨k, hk, rfl, hx⟩ := hrel
    by_cases hlt : k < l.length
    · have he : l[k]? = some l[k] := List.getElem?_eq_getElem hlt
      obtain ⟨b, o, vd, rfl, hd, c0, c1, c2, c3, c4, c5, c6⟩ := H4.out k _ he
      obtain ⟨b', o', vd', rfl, hd', d0, d1, d2, d3, d4, d5, d6⟩ := H4'.out k _ he
      obtain ⟨E, hE⟩ : ∃ E, l[k] = E := ⟨_, rfl⟩
      rw [hE] at hd hd' c0 c1 c2 c3 c4 c5 d0 d1 d2 d3 d4 d5
      clear hE he
      have HD : Hid _ := IsBytes.ext hd hx
      have HD' : Hid _ := IsBytes.ext hd' hx
      obtain ⟨s1, s2, rfl, -⟩ := id hd
      obtain ⟨s1', s2', rfl, -⟩ := id hd'
      replace c0 := hx.cell c0
      replace c1 := hx.cell c1
      replace c2 := hx.cell c2
      replace c3 := hx.cell c3
      replace c4 := hx.cell c4
      replace c5 := hx.cell c5
      replace c6 := hx.cell c6
      replace d0 := hx.cell d0
      replace d1 := hx.cell d1
      replace d2 := hx.cell d2
      replace d3 := hx.cell d3
      replace d4 := hx.cell d4
      replace d5 := hx.cell d5
      replace d6 := hx.cell d6
      clear hd hd'
      go_wp2
      have hb : b < wr.heap.size := World.block_lt_of_cell? _ _ c0
      have hbb : b < wr.heap.size + 1 := by omega
      have hbc : b < wr.heap.size + 2 := by omega
      have nb : b ≠ wr.heap.size := by omega
      have nc : b ≠ wr.heap.size + 1 := by omega
      have hb' : b' < wr.heap.size := World.block_lt_of_cell? _ _ d0
      have hbb' : b' < wr.heap.size + 1 := by omega
      have hbc' : b' < wr.heap.size + 2 := by omega
      have nb' : b' ≠ wr.heap.size := by omega
      have nc' : b' ≠ wr.heap.size + 1 := by omega
      have hex : ∀ (A B : Obj), Ext wr ((wr.alloc A).alloc B).drew := fun A B => (((Ext.refl wr).alloc A).alloc B).drew
      have HEX : Hid _ := hex
      have hdp : (⟨E.path.toArray⟩ : ByteArray).toList = E.path := Lib.toList_data _
      clear hex
      go_region
      all_goals (
        go_wp2_with (go_at_call 18; go_must (refine (bytes_any _ _ _ _ _ (IsBytes.ext HD.out (HEX.out _ _)) (IsBytes.ext HD'.out (HEX.out _ _))).mono ?_; rw [beq_self_eq_true]; rintro e w9 ⟨rfl, hx9⟩))
        go_roundw
        case rel => exact ⟨k + 1, by omega, by go_num, hx.trans ((HEX.out _ _).trans hx9)⟩
        case measure => simp [intOf]; omega)
    · have hkk : k = l.length := by omega
      subst hkk
      go_wp2
      go_ret
      exact ⟨rfl, hx⟩

end Go.Proofs.YthfkohppillflaaDoor
