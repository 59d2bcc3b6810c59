/- script.undigits: two digits a byte. Conditions: a text of at most 3000000 signs. -/
import Derived.Test.YthfkohppillflaaDoorSmall
namespace Go.Proofs.YthfkohppillflaaDoor
open Go Go.RowKit

def dig (c : UInt8) : Nat := (Lib.indexByte hexs c).toNat
def undig : B8 → B8
  | x :: y :: l => UInt8.ofNat (dig x * 16 + dig y) :: undig l
  | _ => []

theorem undig_length : ∀ l : B8, (undig l).length = l.length / 2
  | [] => rfl
  | [_] => by simp [undig]
  | x :: y :: l => by simp [undig, undig_length l]; omega
theorem undig_get : ∀ (l : B8) (k : Nat), 2 * k + 1 < l.length → (undig l)[k]? = some (UInt8.ofNat (dig (l.getD (2 * k) 0) * 16 + dig (l.getD (2 * k + 1) 0)))
  | [], k, h => by simp at h
  | [_], k, h => by simp at h
  | x :: y :: l, 0, _ => by simp [undig]
  | x :: y :: l, k + 1, h => by
    have := undig_get l k (by simp at h; omega)
    simp only [undig, List.getElem?_cons_succ, this]
    rw [show 2 * (k + 1) = 2 * k + 1 + 1 by omega]
    simp

theorem indexByte_lt : ∀ (l : B8) (c : UInt8), -1 ≤ Lib.indexByte l c ∧ Lib.indexByte l c < l.length
  | [], c => by simp [Lib.indexByte]
  | b :: l, c => by
    have := indexByte_lt l c
    unfold Lib.indexByte
    simp only [List.length_cons]
    split
    · omega
    · split <;> omega

theorem dig_lt (c : UInt8) : dig c < 16 := by
  have := indexByte_lt hexs c
  have h : hexs.length = 16 := rfl
  unfold dig; omega

theorem or16 : ∀ a b : Fin 16, bits BinOp.or IntKind.i64 ((a.val : Int) * 16) (b.val : Int) = (a.val : Int) * 16 + b.val := by decide +kernel

theorem idx_val {l : B8} {i : Int} {n : Nat} {x : UInt8} (hi : i = n) (hx : l.getD n 0 = x) (h : i.toNat < (⟨l.toArray⟩ : ByteArray).size) : Value.int .u8 (((⟨l.toArray⟩ : ByteArray)[i.toNat]).toNat : Int) = .int .u8 x.toNat := by
  subst hi
  have h' : n < l.length := h
  have : (⟨l.toArray⟩ : ByteArray)[(n : Int).toNat] = l[n] := rfl
  rw [this, ← hx]
  simp [h']
theorem ix_val (l : B8) (x : UInt8) : Value.int .i64 (Lib.indexByte l ((x.toNat : Int).toNat.toUInt8)) = .int .i64 (Lib.indexByte l x) := by simp

theorem undig_byte (x y z : UInt8) (hz : UInt8.ofNat (dig x * 16 + dig y) = z) : bits BinOp.or IntKind.i64 (max (Lib.indexByte hexs x) 0 * 16) (max (Lib.indexByte hexs y) 0) % 256 = (z.toNat : Int) := by
  have hx : max (Lib.indexByte hexs x) 0 = (dig x : Int) := by unfold dig; omega
  have hy : max (Lib.indexByte hexs y) 0 = (dig y : Int) := by unfold dig; omega
  have h1 := dig_lt x
  have h2 := dig_lt y
  have := or16 ⟨dig x, h1⟩ ⟨dig y, h2⟩
  simp only at this
  rw [hx, hy, this, ← hz]
  simp [UInt8.toNat_ofNat']

theorem undig_snoc {l : B8} {k : Nat} {x y z : UInt8} (h : 2 * k + 1 < l.length) (hx : l.getD (2 * k) 0 = x) (hy : l.getD (2 * k + 1) 0 = y) (hz : UInt8.ofNat (dig x * 16 + dig y) = z) : (undig l).take (k + 1) = (undig l).take k ++ [z] := by
  have hg := undig_get l k h
  rw [hx, hy, hz] at hg
  rw [List.take_add_one, hg]
  rfl

set_option maxRecDepth 100000 in
set_option maxHeartbeats 400000 in
theorem undigits_any (l : B8) (w : World) (hl : l.length ≤ 3000000) :
    Calls Tryd.prog 48 #[S8 l] w fun e w' => (∃ v, e = .returned v ∧ IsBytes w' v (if l = [45] then [] else undig l) ∧ Typed 5 w' v) ∧ Ext w w' := by
  have hd : (⟨l.toArray⟩ : ByteArray).toList = l := Lib.toList_data _
  by_cases h : l = [45]
  · subst h
    go_enter Tryd.func48, Tryd.ntmps48
    go_wp2
    go_ret
    exact ⟨⟨_, rfl, Row.nil _, Typed.nil _ _ _ _⟩, Ext.refl _⟩
  · have h2 : (l == [45]) = false := by simpa using h
    go_enter Tryd.func48, Tryd.ntmps48
    go_wp2
    go_loopw [3, 4] (fun v i wr => ∃ k : Nat, 2 * k ≤ l.length ∧ i = .int .i64 (2 * k) ∧ wr.ownsRow w.heap.size 5 1 v k (((undig l).take k).map fun x => .int .u8 x.toNat) ∧ Ext w wr) (fun _ i _ => l.length - (intOf i).toNat)
    case atStart => exact ⟨0, Nat.zero_le _, rfl, World.ownsRow_nil _ _ _ _, Ext.refl _⟩
    case round =>
      obtain ⟨k, hk, rfl, hown, hx⟩ := hrel
      by_cases hlt : 2 * k + 1 < l.length
      · have hl2 : (2 * (k : Int) + 1) < (l.length : Int) := by omega
        have hwr : IntKind.i64.wrap (2 * (k : Int) + 1) = 2 * (k : Int) + 1 := IntWalk.i64_in _ (by omega)
        have HW : Hid _ := hwr
        obtain ⟨x, hxe⟩ : ∃ x, l.getD (2 * k) 0 = x := ⟨_, rfl⟩
        obtain ⟨y, hye⟩ : ∃ y, l.getD (2 * k + 1) 0 = y := ⟨_, rfl⟩
        have HX : Hid _ := hxe
        have HY : Hid _ := hye
        have hix := indexByte_lt hexs x
        have hiy := indexByte_lt hexs y
        have h16 : hexs.length = 16 := rfl
        rw [h16] at hix hiy
        obtain ⟨z, hz⟩ : ∃ z, UInt8.ofNat (dig x * 16 + dig y) = z := ⟨_, rfl⟩
        have hbv : bits BinOp.or IntKind.i64 (max (Lib.indexByte hexs x) 0 * 16) (max (Lib.indexByte hexs y) 0) % 256 = (z.toNat : Int) := undig_byte x y z hz
        have HZ : Hid _ := hz
        clear hwr hxe hye h16 hz
        go_wp2
        apply wp_region_mix 11 [_, _, .int .u8 x.toNat, .int .i64 (Lib.indexByte hexs x), _, _, _, .int .u8 y.toNat, .int .i64 (Lib.indexByte hexs y), _, _] [none, none, none, none, none, none, none, none, none, none, none] [[], [], [0, 1], [2], [], [], [5], [4, 6], [7], [3], [8]] (by kernel_rfl) (by kernel_rfl) (by simp [mixV])
        · trivial
        · simp (maxSteps := 1000000) only [List.take_succ_cons, List.take_zero, oblFrom, stepObl, fillFrom, Act.put, List.setIfInBounds_toArray, List.set_cons_zero, List.set_cons_succ, knows, getV, mixV, List.getD_cons_zero, List.getD_cons_succ, and_true, true_and, forall_const]
          refine ⟨?_, ?_, ?_, ?_, ?_, ?_, ?_, ?_, ?_, ?_, ?_⟩
          · intro xs wq hq R hR
            go_simp
            exact hR _ _ (Ext.refl _) rfl
          · intro xs wq hq R hR
            go_simp
            exact hR _ _ (Ext.refl _) rfl
          · intro xs wq hq hk R hR
            obtain ⟨hk0, hk1⟩ := hk
            go_simp
            rw [dif_pos ⟨by omega, by omega⟩]
            exact hR _ _ (Ext.refl _) (idx_val (by omega) HX.out (by show (2 * (k : Int)).toNat < l.length; omega))
          · intro xs wq hq hk R hR
            go_simp
            refine (Tryd.strings_IndexByte ⟨hexs.toArray⟩ x.toNat _).mono ?_
            rintro e w2 ⟨rfl, rfl⟩
            exact ⟨_, rfl, hR _ _ (Ext.refl _) (ix_val _ x)⟩
          · intro xs wq hq R hR
            go_simp
            exact hR _ _ (Ext.refl _) rfl
          · intro xs wq hq R hR
            go_simp
            exact hR _ _ (Ext.refl _) rfl
          · intro xs wq hq hk R hR
            go_simp
            exact hR _ _ (Ext.refl _) rfl
          · intro xs wq hq hk R hR
            obtain ⟨hk0, hk1⟩ := hk
            go_simp
            simp only [HW.out]
            rw [dif_pos ⟨by omega, by omega⟩]
            exact hR _ _ (Ext.refl _) (idx_val (by omega) HY.out (by show (2 * (k : Int) + 1).toNat < l.length; omega))
          · intro xs wq hq hk R hR
            go_simp
            refine (Tryd.strings_IndexByte ⟨hexs.toArray⟩ y.toNat _).mono ?_
            rintro e w2 ⟨rfl, rfl⟩
            exact ⟨_, rfl, hR _ _ (Ext.refl _) (ix_val _ y)⟩
          · intro xs wq hq hk R hR
            go_simp
            exact hR _ _ (Ext.refl _) rfl
          · intro xs wq hq hk R hR
            go_simp
            exact hR _ _ (Ext.refl _) rfl
        intro xs w2 hx2 hk
        simp only [heldV, Nat.zero_add, Nat.reduceAdd, and_true] at hk
        obtain ⟨q0, q1, q2, q3, q4, q5, q6, q7, q8, q9, q10⟩ := hk
        simp (maxSteps := 1000000) only [List.take_succ_cons, List.take_zero, List.drop_succ_cons, List.drop_zero, fillFrom, Act.put, List.setIfInBounds_toArray, List.set_cons_zero, List.set_cons_succ, Nat.zero_add, Nat.reduceAdd, q0, q1, q2, q3, q4, q5, q6, q7, q8, q9, q10]
        clear q0 q1 q2 q3 q4 q5 q6 q7 q8 q9 q10
        refine wpList_nil ?_
        have hown2 := owns_ext hown hx2
        have hsz := (hx.trans hx2).size
        go_wp2_with (at_builtin; refine app_u8 rfl _ _ rfl w.heap.size _ k _ rfl (hown2.alloc _) w2.heap.size 1 1 [z] rfl rfl (alloc_at _ _) (by omega) (by simp; omega) ?_; intro v' w3 hown3 hg3)
        go_roundw
        case rel => exact ⟨k + 1, by omega, by simp; omega, by rw [undig_snoc hlt HX.out HY.out HZ.out]; exact hown3, owns_ext_app ((hx.trans hx2).alloc _) (hown2.alloc _) hg3⟩
        case measure => simp [intOf]; omega
      · have hlen := undig_length l
        have hk2 : k = (undig l).length := by omega
        have hg : ¬ (2 * (k : Int) + 1) < (l.length : Int) := by omega
        have hb : IsBytes wr u3 (undig l) := by
          unfold IsBytes
          rw [← hk2]
          have h3 := Row.of_owns hown (by omega)
          rwa [List.take_of_length_le (by omega)] at h3
        have HB : Hid _ := hb
        have HT : Hid _ := Typed.of_owns hown
        clear hb hown
        go_wp2
        go_ret
        exact ⟨⟨_, rfl, HB.out, HT.out⟩, hx⟩

end Go.Proofs.YthfkohppillflaaDoor
