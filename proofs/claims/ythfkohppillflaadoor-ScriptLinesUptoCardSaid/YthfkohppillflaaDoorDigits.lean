/- script: small functions. Conditions: as each theorem states. -/
import Derived.Test.YthfkohppillflaaDoorApp
import Derived.BigQuiet
import Derived.Lib.QuietBelow
namespace Go.Proofs.YthfkohppillflaaDoor
open Go Go.RowKit

set_option maxRecDepth 100000 in
set_option maxHeartbeats 400000 in
theorem or_any (l : B8) (w : World) :
    Calls Tryd.prog 33 #[S8 l] w fun e w' => e = .returned (S8 (if l = [] then [45] else l)) ∧ w' = w := by
  by_cases h : l = []
  · subst h
    go_enter Tryd.func33, Tryd.ntmps33
    go_wp2
    go_ret
    exact ⟨rfl, rfl⟩
  · have h2 : ((⟨l.toArray⟩ : ByteArray).toList == []) = false := by rw [Lib.toList_data]; simpa using h
    have H : Hid _ := h
    clear h
    go_enter Tryd.func33, Tryd.ntmps33
    go_wp2
    · rename_i h3
      exact (H.out (List.isEmpty_iff.1 h3)).elim
    · go_ret
      exact ⟨rfl, rfl⟩

def hexs : B8 := [48, 49, 50, 51, 52, 53, 54, 55, 56, 57, 97, 98, 99, 100, 101, 102]
def hexL (l : B8) : B8 := l.flatMap fun x => [hexs.getD (x.toNat / 16) 0, hexs.getD (x.toNat % 16) 0]


theorem and15 : ∀ n : Nat, n < 256 → bits BinOp.and IntKind.u8 (n : Int) 15 = ((n % 16 : Nat) : Int) := by decide +kernel
theorem hex_hi (y : UInt8) (h : (y.toNat : Int) / 16 < 16) : Value.int .u8 ((hexs.toArray[((y.toNat : Int) / 16).toNat]'(by simp [hexs]; omega)).toNat : Int) = .int .u8 (hexs.getD (y.toNat / 16) 0).toNat := by
  have e : ((y.toNat : Int) / 16).toNat = y.toNat / 16 := by omega
  have h16 : y.toNat / 16 < hexs.length := by have := y.toNat_lt; simp [hexs]; omega
  simp only [e, List.getElem_toArray, List.getD_eq_getElem?_getD, h16, List.getElem?_eq_getElem, Option.getD_some]
theorem hex_lo (y : UInt8) (h : ((y.toNat % 16 : Nat) : Int) < 16) : Value.int .u8 ((hexs.toArray[(((y.toNat % 16 : Nat) : Int)).toNat]'(by simp [hexs]; omega)).toNat : Int) = .int .u8 (hexs.getD (y.toNat % 16) 0).toNat := by
  have e : (((y.toNat % 16 : Nat) : Int)).toNat = y.toNat % 16 := by omega
  have h16 : y.toNat % 16 < hexs.length := by simp [hexs]; omega
  simp only [e, List.getElem_toArray, List.getD_eq_getElem?_getD, h16, List.getElem?_eq_getElem, Option.getD_some]

theorem hexL_length (l : B8) : (hexL l).length = 2 * l.length := by
  induction l with
  | nil => rfl
  | cons x l ih => simp [hexL] at ih ⊢; omega
theorem hexL_snoc {l : B8} {k : Nat} (h : k < l.length) {y : UInt8} (hy : l.getD k 0 = y) : hexL (l.take (k + 1)) = hexL (l.take k) ++ [hexs.getD (y.toNat / 16) 0, hexs.getD (y.toNat % 16) 0] := by
  rw [List.take_succ_eq_append_getElem h]
  have : l[k] = y := by rw [← hy]; simp [h]
  simp [hexL, this]

set_option maxRecDepth 100000 in
set_option maxHeartbeats 400000 in
theorem digits_any (v : Value) (l : B8) (w : World) (hv : IsBytes w v l) (hl : l.length ≤ 3000000) :
    Calls Tryd.prog 34 #[v] w fun e w' => e = .returned (S8 (hexL l)) ∧ Ext w w' := by
  obtain ⟨a, cap, rfl, h1, h2, h3, h4⟩ := hv.get
  have H4 : Hid _ := h4
  clear h4 hv
  go_enter Tryd.func34, Tryd.ntmps34
  go_wp2
  go_loopw [3, 8] (fun v i wr => ∃ k : Nat, k ≤ l.length ∧ i = .int .i64 k ∧ wr.ownsRow w.heap.size 5 1 v (2 * k) ((hexL (l.take k)).map fun x => .int .u8 x.toNat) ∧ Ext w wr) (fun _ i _ => l.length - (intOf i).toNat)
  case atStart => exact ⟨0, Nat.zero_le _, rfl, World.ownsRow_nil _ _ _ _, Ext.refl _⟩
  case round =>
    obtain ⟨k, hk, rfl, hown, hx⟩ := hrel
    by_cases hlt : k < l.length
    · obtain ⟨b, o, rfl, hc⟩ := H4.out k hlt
      have hck := hx.cell (hc k hlt)
      clear hc
      generalize hy : l.getD k 0 = y at hck
      have HY : Hid _ := hy
      clear hy
      have hy256 : y.toNat < 256 := y.toNat_lt
      have ha : bits BinOp.and IntKind.u8 (y.toNat : Int) 15 = ((y.toNat % 16 : Nat) : Int) := and15 _ hy256
      have HA : Hid _ := ha
      clear ha
      go_wp2
      apply wp_region_mix 8 [_, _, _, .int .u8 (hexs.getD (y.toNat / 16) 0).toNat, _, _, .int .u8 (hexs.getD (y.toNat % 16) 0).toNat, undef] [none, none, none, none, none, none, none, some (fun u w' => ∃ g, u = .slice (some ⟨g, 0, none⟩) 2 2 ∧ wr.heap.size ≤ g ∧ w'.heap[g]? = some (.cells #[.int .u8 (hexs.getD (y.toNat / 16) 0).toNat, .int .u8 (hexs.getD (y.toNat % 16) 0).toNat] 5 (0, 0)))] [[], [], [1], [2], [], [4], [5], [3, 6]] (by kernel_rfl) (by kernel_rfl) (by simp [mixV])
      · refine ⟨?_, trivial⟩
        · exact fun u w w' he ⟨g, h1, h2, h3⟩ => ⟨g, h1, h2, (he.block g (Array.getElem?_eq_some_iff.1 h3).1).trans h3⟩
      · simp (maxSteps := 1000000) only [List.take_succ_cons, List.take_zero, oblFrom, stepObl, fillFrom, Act.put, List.setIfInBounds_toArray, List.set_cons_zero, List.set_cons_succ, knows, getV, mixV, List.getD_cons_zero, List.getD_cons_succ, and_true, true_and, forall_const]
        refine ⟨?_, ?_, ?_, ?_, ?_, ?_, ?_, ?_⟩
        · intro xs wq hq R hR
          go_simp
          exact hR _ _ (Ext.refl _) rfl
        · intro xs wq hq R hR
          go_simp
          exact hR _ _ (Ext.refl _) rfl
        · intro xs wq hq hk R hR
          go_simp
          exact hR _ _ (Ext.refl _) rfl
        · intro xs wq hq hk R hR
          go_simp
          rw [dif_pos ⟨by omega, by omega⟩]
          exact hR _ _ (Ext.refl _) (hex_hi y (by omega))
        · intro xs wq hq R hR
          go_simp
          exact hR _ _ (Ext.refl _) rfl
        · intro xs wq hq hk R hR
          go_simp
          exact hR _ _ (Ext.refl _) rfl
        · intro xs wq hq hk R hR
          go_simp
          rw [HA.out, dif_pos ⟨by omega, by omega⟩]
          exact hR _ _ (Ext.refl _) (hex_lo y (by omega))
        · intro xs wq hq hk R hR
          obtain ⟨hk0, hk1⟩ := hk
          go_simp
          exact hR _ _ ((Ext.refl _).alloc _) ⟨_, rfl, hq.size, alloc_at _ _⟩
      intro xs w2 hx2 hk
      simp only [heldV, Nat.zero_add, Nat.reduceAdd, and_true] at hk
      obtain ⟨q0, q1, q2, q3, q4, q5, q6, q7⟩ := hk
      simp (maxSteps := 1000000) only [List.take_succ_cons, List.take_zero, List.drop_succ_cons, List.drop_zero, fillFrom, Act.put, List.setIfInBounds_toArray, List.set_cons_zero, List.set_cons_succ, Nat.zero_add, Nat.reduceAdd, q0, q1, q2, q3, q4, q5, q6]
      clear q0 q1 q2 q3 q4 q5 q6
      generalize xs 7 = x7 at *
      obtain ⟨g, rfl, hg1, hg2⟩ := q7
      have hown2 := owns_ext hown hx2
      have hlen := hexL_length (l.take k)
      go_wp2_with (at_builtin; refine app_u8 rfl _ _ rfl w.heap.size _ (2 * k) _ rfl hown2 g 2 2 [hexs.getD (y.toNat / 16) 0, hexs.getD (y.toNat % 16) 0] rfl rfl hg2 (by omega) (by have := (hx.trans hx2).size; exact this) ?_; intro v' w3 hown3 hg3)
      go_roundw
      case rel => exact ⟨k + 1, by omega, by go_num, by rw [hexL_snoc hlt HY.out]; exact hown3, owns_ext_app (hx.trans hx2) hown2 hg3⟩
      case measure => simp [intOf]; omega
    · have hkk : k = l.length := by omega
      subst hkk
      rw [List.take_length] at hown
      have hlen := hexL_length l
      have hcv := conv_bytes (l := hexL l) (by unfold IsBytes; rw [hlen]; exact Row.of_owns hown (by omega))
      clear hlen
      go_wp2
      go_ret
      exact ⟨rfl, hx⟩

end Go.Proofs.YthfkohppillflaaDoor
