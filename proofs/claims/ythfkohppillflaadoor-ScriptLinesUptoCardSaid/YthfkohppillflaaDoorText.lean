/- script.text, marref24.text, script.paths: what bytes name. Conditions: bytes. -/
import Derived.Test.YthfkohppillflaaDoorParse
namespace Go.Proofs.YthfkohppillflaaDoor
open Go Go.RowKit

def textP (y z : Nat) : Nat → B8
  | 0 => []
  | k + 1 => textP y z k ++ [UInt8.ofNat (48 + (z + k * y) % 10), 10]
theorem textP_length (y z : Nat) : ∀ k, (textP y z k).length = 2 * k
  | 0 => rfl
  | k + 1 => by simp [textP, textP_length y z k]; omega
def textL (y z : Nat) : B8 := textP y z (z % 4 + 1)
def pathsL : List B8 := [[97], [98], [100, 47, 97], [100, 47, 98], [100], [97, 47, 120]]

theorem text_c {y z k : Nat} {c : UInt8} (h : UInt8.ofNat (48 + (z + k * y) % 10) = c) : 48 + ((z : Int) + (k : Int) * y) % 10 = (c.toNat : Int) := by
  rw [← h]
  have : (UInt8.ofNat (48 + (z + k * y) % 10)).toNat = 48 + (z + k * y) % 10 := by rw [UInt8.toNat_ofNat']; omega
  rw [this]
  have := Int.natCast_mul k y
  omega

set_option maxRecDepth 100000 in
set_option maxHeartbeats 400000 in
theorem text_any (y z : Nat) (w : World) (hy : y ≤ 255) (hz : z ≤ 255) :
    Calls Tryd.prog 73 #[.int .i64 y, .int .i64 z] w fun e w' => (∃ v, e = .returned v ∧ IsBytes w' v (textL y z) ∧ Typed 5 w' v) ∧ Ext w w' := by
  go_enter Tryd.func73, Tryd.ntmps73
  go_wp2
  go_loopw [5, 10] (fun v i wr => ∃ k : Nat, k ≤ z % 4 + 1 ∧ i = .int .i64 k ∧ wr.ownsRow w.heap.size 5 1 v (2 * k) ((textP y z k).map fun x => .int .u8 x.toNat) ∧ Ext w wr) (fun _ i _ => z % 4 + 1 - (intOf i).toNat)
  case atStart => exact ⟨0, Nat.zero_le _, rfl, World.ownsRow_nil _ _ _ _, Ext.refl _⟩
  case round =>
    obtain ⟨k, hk, rfl, hown, hx⟩ := hrel
    by_cases hlt : k < z % 4 + 1
    · have hsz := hx.size
      have hm : k * y ≤ 4 * 255 := Nat.mul_le_mul (by omega) hy
      have hw1 : IntKind.i64.wrap ((k : Int) * y) = (k : Int) * y := IntWalk.i64_in _ (by have := Int.natCast_mul k y; omega)
      have hw2 : IntKind.i64.wrap ((z : Int) + (k : Int) * y) = ((z + k * y : Nat) : Int) := by rw [IntWalk.i64_in _ (by have := Int.natCast_mul k y; omega)]; simp
      obtain ⟨c, hc⟩ : ∃ c, UInt8.ofNat (48 + (z + k * y) % 10) = c := ⟨_, rfl⟩
      have hv := text_c hc
      have HC : Hid _ := hc
      have hgg : (wr.alloc (.cells #[.int .u8 c.toNat, .int .u8 10] 5)).heap[wr.heap.size]? = some (.cells (([c, 10] : B8).map fun x => Value.int .u8 x.toNat).toArray 5 (0, 0)) := alloc_at _ _
      clear hc
      go_wp2_with (at_builtin; (refine app_u8 rfl _ _ rfl w.heap.size _ (2 * k) _ rfl (hown.alloc _) wr.heap.size 2 2 [c, 10] rfl rfl hgg (by omega) (by simp; omega) ?_); intro v' w3 hown3 hg3)
      go_roundw
      case rel => exact ⟨k + 1, by omega, by go_num, by rw [textP, HC.out]; exact hown3, owns_ext_app (hx.alloc _) (hown.alloc _) hg3⟩
      case measure => simp [intOf]; omega
    · have hkk : k = z % 4 + 1 := by omega
      subst hkk
      have hlen := textP_length y z (z % 4 + 1)
      have hb : IsBytes wr u5 (textL y z) := by
        unfold IsBytes textL
        rw [hlen]
        exact Row.of_owns hown (by omega)
      have HB : Hid _ := hb
      have HT : Hid _ := Typed.of_owns hown
      clear hb hown
      go_wp2
      go_ret
      exact ⟨⟨_, rfl, HB.out, HT.out⟩, hx⟩

set_option maxRecDepth 100000 in
set_option maxHeartbeats 400000 in
theorem rtext_any (y z : Nat) (w : World) (hy : y ≤ 255) (hz : z ≤ 255) :
    Calls Tryd.prog 60 #[.int .i64 y, .int .i64 z] w fun e w' => (∃ v, e = .returned v ∧ IsBytes w' v (textL y z) ∧ Typed 5 w' v) ∧ Ext w w' := by
  go_enter Tryd.func60, Tryd.ntmps60
  go_wp2
  go_loopw [5, 6] (fun v i wr => ∃ k : Nat, k ≤ z % 4 + 1 ∧ i = .int .i64 k ∧ wr.ownsRow w.heap.size 5 1 v (2 * k) ((textP y z k).map fun x => .int .u8 x.toNat) ∧ Ext w wr) (fun _ i _ => z % 4 + 1 - (intOf i).toNat)
  case atStart => exact ⟨0, Nat.zero_le _, rfl, World.ownsRow_nil _ _ _ _, Ext.refl _⟩
  case round =>
    obtain ⟨k, hk, rfl, hown, hx⟩ := hrel
    by_cases hlt : k < z % 4 + 1
    · have hsz := hx.size
      have hm : k * y ≤ 4 * 255 := Nat.mul_le_mul (by omega) hy
      have hw1 : IntKind.i64.wrap ((k : Int) * y) = (k : Int) * y := IntWalk.i64_in _ (by have := Int.natCast_mul k y; omega)
      have hw2 : IntKind.i64.wrap ((z : Int) + (k : Int) * y) = ((z + k * y : Nat) : Int) := by rw [IntWalk.i64_in _ (by have := Int.natCast_mul k y; omega)]; simp
      obtain ⟨c, hc⟩ : ∃ c, UInt8.ofNat (48 + (z + k * y) % 10) = c := ⟨_, rfl⟩
      have hv := text_c hc
      have HC : Hid _ := hc
      have hgg : (wr.alloc (.cells #[.int .u8 c.toNat, .int .u8 10] 5)).heap[wr.heap.size]? = some (.cells (([c, 10] : B8).map fun x => Value.int .u8 x.toNat).toArray 5 (0, 0)) := alloc_at _ _
      clear hc
      go_wp2_with (at_builtin; (refine app_u8 rfl _ _ rfl w.heap.size _ (2 * k) _ rfl (hown.alloc _) wr.heap.size 2 2 [c, 10] rfl rfl hgg (by omega) (by simp; omega) ?_); intro v' w3 hown3 hg3)
      go_roundw
      case rel => exact ⟨k + 1, by omega, by go_num, by rw [textP, HC.out]; exact hown3, owns_ext_app (hx.alloc _) (hown.alloc _) hg3⟩
      case measure => simp [intOf]; omega
    · have hkk : k = z % 4 + 1 := by omega
      subst hkk
      have hlen := textP_length y z (z % 4 + 1)
      have hb : IsBytes wr u5 (textL y z) := by
        unfold IsBytes textL
        rw [hlen]
        exact Row.of_owns hown (by omega)
      have HB : Hid _ := hb
      have HT : Hid _ := Typed.of_owns hown
      clear hb hown
      go_wp2
      go_ret
      exact ⟨⟨_, rfl, HB.out, HT.out⟩, hx⟩

end Go.Proofs.YthfkohppillflaaDoor
