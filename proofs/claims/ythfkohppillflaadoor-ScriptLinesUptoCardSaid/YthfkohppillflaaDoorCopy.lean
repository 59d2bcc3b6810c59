/- marref.CopyBytes: bytes of the callee's own. Conditions: at most 100000 bytes. -/
import Derived.Test.YthfkohppillflaaDoorPair
namespace Go.Proofs.YthfkohppillflaaDoor
open Go Go.RowKit

set_option maxRecDepth 100000 in
set_option maxHeartbeats 1000000 in
theorem copy_any (v : Value) (l : B8) (w : World) (hv : IsBytes w v l) (hl : l.length ≤ 100000) :
    Calls Tryd.prog 15 #[v] w fun e w' => (∃ v, e = .returned v ∧ IsBytes w' v l) ∧ Ext w w' := by
  obtain ⟨a, cap, rfl, h1, h2, h3, h4⟩ := id hv
  cases l with
  | nil =>
    clear hv h4
    go_enter Tryd.func15, Tryd.ntmps15
    cases a with
    | none =>
      go_wp2
      go_ret
      exact ⟨⟨_, rfl, _, 0, rfl, Nat.le_refl _, by omega, by simp, fun h => absurd rfl h⟩, (Ext.refl _).alloc _⟩
    | some ad =>
      go_wp2
      go_ret
      exact ⟨⟨_, rfl, _, 0, rfl, Nat.le_refl _, by omega, by simp, fun h => absurd rfl h⟩, (Ext.refl _).alloc _⟩
  | cons x t =>
    obtain ⟨b, o, rfl, hc⟩ := h4 (by simp)
    generalize hL : x :: t = L at *
    have hown : (w.alloc (.cells #[] 5)).ownsRow w.heap.size 5 1 (.slice (some ⟨w.heap.size, 0, none⟩) 0 0) 0 [] := owns_block (base := w.heap.size) (n := 0) (alloc_at w (.cells #[] 5)) (Nat.le_refl _) rfl (by omega)
    have hx : Ext w (w.alloc (.cells #[] 5)) := (Ext.refl w).alloc _
    have hnews : ∀ (j : Nat) u, (L.map fun x => Value.int .u8 x.toNat)[j]? = some u → (w.alloc (.cells #[] 5)).cell? ((⟨b, o, none⟩ : Addr).add j) = some u := by
      intro j u hu
      have hadd : (⟨b, o, none⟩ : Addr).add j = ⟨b, o + j, none⟩ := by unfold Addr.add; split <;> simp_all
      rw [hadd]
      exact hx.cell (hc j u hu)
    have HN : Hid _ := hnews
    clear hc hnews h4 hv hL
    go_enter Tryd.func15, Tryd.ntmps15
    go_wp2_with (at_builtin; (refine app_any _ _ _ 1 1 Tryd.underlying22 info_u8 rfl (by omega) rfl _ _ rfl w.heap.size _ 0 _ rfl hown ⟨b, o, none⟩ L.length cap (L.map fun x => Value.int .u8 x.toNat) rfl (by simp) HN.out (by intro u hu; obtain ⟨_, _, rfl⟩ := List.mem_map.1 hu; rfl) (by omega) (by omega) (by simp) ?_); intro v' w3 hown3 hg3 _; have hb : IsBytes w3 v' L := Row.of_owns (by simpa using hown3) (by omega); obtain ⟨a3, c3, rfl, -⟩ := id hb; have HB : Hid _ := hb; have hx3 : Ext w w3 := owns_ext_app hx hown hg3; clear hb hown3)
    go_ret
    exact ⟨⟨_, rfl, HB.out⟩, hx3⟩

end Go.Proofs.YthfkohppillflaaDoor
