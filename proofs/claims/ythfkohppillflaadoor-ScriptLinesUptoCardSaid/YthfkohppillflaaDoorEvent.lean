/- script.event: an event as text. Conditions: numbers of 64 bits, a path and data of at most 3000000 bytes. -/
import Derived.Test.YthfkohppillflaaDoorAct
import Derived.Lib.ItoaLen
namespace Go.Proofs.YthfkohppillflaaDoor
open Go Go.RowKit

def orL (l : B8) : B8 := if l = [] then [45] else l
theorem orL_le (l : B8) : (orL l).length ≤ l.length + 1 := by unfold orL; split <;> simp
def evL (e : Ev) : List B8 := [Lib.itoa e.t, Lib.itoa e.kind, Lib.itoa e.mode, Lib.itoa e.keep, Lib.itoa e.torn, orL e.path, orL (hexL e.data)]
def evS (e : Ev) : B8 := Lib.join (evL e) [58]
def evN (e : Ev) : List Int := [e.t, e.kind, e.mode, e.keep, e.torn]

theorem join_len (sep : B8) : ∀ L : List B8, (Lib.join L sep).length ≤ (L.map List.length).sum + L.length * sep.length
  | [] => by simp [Lib.join_nil]
  | x :: L => by
    rw [Lib.join_cons]
    have : ∀ M : List B8, (Lib.joinTail sep M).length = (M.map List.length).sum + M.length * sep.length := by
      intro M
      induction M with
      | nil => simp [Lib.joinTail]
      | cons y M ih =>
        unfold Lib.joinTail at *
        simp only [List.map_cons, List.flatten_cons, List.length_append, List.sum_cons, List.length_cons, ih, Nat.add_mul]
        omega
    simp only [List.length_append, this, List.map_cons, List.sum_cons, List.length_cons, Nat.add_mul]
    omega

theorem itoa_len (n : Int) (h : I64 n) : (Lib.itoa n).length ≤ 21 := Lib.itoa_length_le n h.1 h.2

theorem evS_len (e : Ev) (h : e.ok) (hp : e.path.length ≤ 3000000) (hd : e.data.length ≤ 3000000) : (evS e).length ≤ 9200000 := by
  obtain ⟨h1, h2, h3, h4, h5⟩ := h
  have k1 := itoa_len _ h1
  have k2 := itoa_len _ h2
  have k3 := itoa_len _ h3
  have k4 := itoa_len _ h4
  have k5 := itoa_len _ h5
  have k6 := orL_le e.path
  have k7 := orL_le (hexL e.data)
  have k8 := hexL_length e.data
  have := join_len [58] (evL e)
  unfold evS
  simp [evL] at this ⊢
  omega

set_option maxRecDepth 100000 in
set_option maxHeartbeats 400000 in
theorem event_any (e : Ev) (cs : List Value) (w : World) (hE : Env w) (he : IsEv w cs e) (hok : e.ok) (hp : e.path.length ≤ 3000000) (hd : e.data.length ≤ 3000000) :
    Calls Tryd.prog 31 #[.agg cs.toArray] w fun x w' => x = .returned (S8 (evS e)) ∧ Ext w w' := by
  have HL : Hid _ := evS_len e hok hp hd
  obtain ⟨vd, rfl, hb⟩ := he
  have HO : Hid _ := hok
  have HB : Hid _ := hb
  have HE : Hid _ := hE
  clear hok hb hE
  go_enter Tryd.func31, Tryd.ntmps31
  go_wp2
  obtain ⟨w1, hw1⟩ : ∃ w1, w1 = ((w.alloc (.cells #[.int .i64 e.t, .int .i64 e.kind, .int .i64 e.mode, .int .i64 e.keep, .int .i64 e.torn, S8 e.path, vd] 43)).alloc (.cells #[.int .i64 e.t, .int .i64 e.kind, .int .i64 e.mode, .int .i64 e.keep, .int .i64 e.torn] 3)) := ⟨_, rfl⟩
  rw [← hw1]
  have hx1 : Ext w w1 := by rw [hw1]; exact ((Ext.refl w).alloc _).alloc _
  have c5 : w1.cell? ⟨w.heap.size, 5, none⟩ = some (S8 e.path) := by rw [hw1]; simp
  have c6 : w1.cell? ⟨w.heap.size, 6, none⟩ = some vd := by rw [hw1]; simp
  have cn : ∀ k x, (evN e)[k]? = some x → w1.cell? ⟨w.heap.size + 1, k, none⟩ = some (.int .i64 x) := by
    rw [hw1]
    intro k x hx
    simp [evN] at hx ⊢
    rcases k with _ | _ | _ | _ | _ | k <;> simp_all
  have CN : Hid _ := cn
  have HW : Hid _ := hw1
  clear hw1 cn
  go_loopw [3, 18] (fun v i wr => ∃ k : Nat, k ≤ 5 ∧ i = .int .i64 k ∧ wr.ownsRow w1.heap.size 9 1 v k (((evN e).take k |>.map Lib.itoa).map S8) ∧ Ext w1 wr) (fun _ i _ => 5 - (intOf i).toNat)
  case atStart => exact ⟨0, Nat.zero_le _, rfl, World.ownsRow_nil _ _ _ _, Ext.refl _⟩
  case round =>
    obtain ⟨k, hk, rfl, hown, hx⟩ := hrel
    by_cases hlt : k < 5
    · have hkl : k < (evN e).length := hlt
      obtain ⟨x, hxe⟩ : ∃ x, (evN e)[k]? = some x := ⟨_, List.getElem?_eq_getElem hkl⟩
      have hck := hx.cell (CN.out k x hxe)
      have hxo : I64 x := by
        obtain ⟨h1, h2, h3, h4, h5⟩ := HO.out
        rcases k with _ | _ | _ | _ | _ | k <;> simp [evN] at hxe <;> first | (subst hxe; assumption) | omega
      have HX : Hid _ := hxe
      clear hxe
      go_wp2_with (first | (go_at_call 30; go_must (refine (itoa_any x _ (HE.out.ext (hx1.trans hx)) hxo.1 hxo.2).mono ?_; rintro e' w2 ⟨rfl, hx2⟩; have hown2 := owns_ext hown hx2; have hsz := (hx.trans hx2).size)) | (at_builtin; go_must (refine app_str rfl _ _ rfl w1.heap.size _ k _ rfl (hown2.alloc _) w2.heap.size 1 1 [Lib.itoa x] rfl rfl (alloc_at _ _) (by omega) (by simp; omega) ?_; intro v' w3 hown3 hg3)))
      go_roundw
      case rel => exact ⟨k + 1, by omega, by go_num, by rw [List.take_add_one, HX.out, Option.toList_some, List.map_append]; exact hown3, owns_ext_app ((hx.trans hx2).alloc _) (hown2.alloc _) hg3⟩
      case measure => simp [intOf]; omega
    · have hkk : k = 5 := by omega
      subst hkk
      have hg : ¬ ((5 : Nat) : Int) < 5 := by omega
      have d5 := hx.cell c5
      have d6 := hx.cell c6
      have hown1 : wr.ownsRow w1.heap.size 9 1 u3 5 (((evN e).map Lib.itoa).map S8) := hown
      clear hown c5 c6
      go_wp2
      apply wp_region_mix 9 [_, _, _, S8 (orL e.path), _, _, _, S8 (orL (hexL e.data)), undef] [none, none, none, none, none, none, none, none, some (fun u w' => ∃ g, u = .slice (some ⟨g, 0, none⟩) 2 2 ∧ w'.heap[g]? = some (.cells #[S8 (orL e.path), S8 (orL (hexL e.data))] 9 (0, 0)))] [[], [], [1], [2], [], [4], [5], [6], [3, 7]] (by kernel_rfl) (by kernel_rfl) (by simp [mixV])
      · refine ⟨?_, trivial⟩
        · exact fun u w w' he ⟨g, h1, h3⟩ => ⟨g, h1, (he.block g (Array.getElem?_eq_some_iff.1 h3).1).trans h3⟩
      · simp (maxSteps := 1000000) only [List.take_succ_cons, List.take_zero, oblFrom, stepObl, fillFrom, Act.put, List.setIfInBounds_toArray, List.set_cons_zero, List.set_cons_succ, knows, getV, mixV, List.getD_cons_zero, List.getD_cons_succ, and_true, true_and, forall_const]
        refine ⟨?_, ?_, ?_, ?_, ?_, ?_, ?_, ?_, ?_⟩
        · intro xs wq hq R hR
          have f5 := hq.cell d5; have f6 := hq.cell d6
          go_simp
          exact hR _ _ (Ext.refl _) rfl
        · intro xs wq hq R hR
          have f5 := hq.cell d5; have f6 := hq.cell d6
          go_simp
          exact hR _ _ (Ext.refl _) rfl
        · intro xs wq hq hk R hR
          have f5 := hq.cell d5; have f6 := hq.cell d6
          go_simp
          exact hR _ _ (Ext.refl _) rfl
        · intro xs wq hq hk R hR
          go_simp
          exact (or_any _ _).mono (by rintro e' w2 ⟨rfl, rfl⟩; exact ⟨_, rfl, hR _ _ (Ext.refl _) rfl⟩)
        · intro xs wq hq R hR
          have f5 := hq.cell d5; have f6 := hq.cell d6
          go_simp
          exact hR _ _ (Ext.refl _) rfl
        · intro xs wq hq hk R hR
          have f5 := hq.cell d5; have f6 := hq.cell d6
          go_simp
          exact hR _ _ (Ext.refl _) rfl
        · intro xs wq hq hk R hR
          go_simp
          exact (digits_any _ _ _ (IsBytes.ext HB.out ((hx1.trans hx).trans hq)) hd).mono (by rintro e' w2 ⟨rfl, h2⟩; exact ⟨_, rfl, hR _ _ h2 rfl⟩)
        · intro xs wq hq hk R hR
          go_simp
          exact (or_any _ _).mono (by rintro e' w2 ⟨rfl, rfl⟩; exact ⟨_, rfl, hR _ _ (Ext.refl _) rfl⟩)
        · intro xs wq hq hk R hR
          obtain ⟨hk0, hk1⟩ := hk
          go_simp
          exact hR _ _ ((Ext.refl _).alloc _) ⟨_, rfl, alloc_at _ _⟩
      intro xs w2 hx2 hk
      simp only [heldV, Nat.zero_add, Nat.reduceAdd, and_true] at hk
      obtain ⟨q0, q1, q2, q3, q4, q5, q6, q7, q8⟩ := hk
      simp (maxSteps := 1000000) only [List.take_succ_cons, List.take_zero, List.drop_succ_cons, List.drop_zero, fillFrom, Act.put, List.setIfInBounds_toArray, List.set_cons_zero, List.set_cons_succ, Nat.zero_add, Nat.reduceAdd, q0, q1, q2, q3, q4, q5, q6, q7]
      clear q0 q1 q2 q3 q4 q5 q6 q7
      generalize xs 8 = x8 at *
      obtain ⟨g, rfl, hg2⟩ := q8
      have hown2 := owns_ext hown1 hx2
      have hsz := (hx.trans hx2).size
      go_wp2_with (first | (at_builtin; go_must (refine app_str rfl _ _ rfl w1.heap.size _ 5 _ rfl hown2 g 2 2 [orL e.path, orL (hexL e.data)] rfl rfl hg2 (by omega) hsz ?_; intro v' w3 hown3 hg3; have hx3 := owns_ext_app (hx.trans hx2) hown2 hg3)) | (go_at_call 32; go_must (refine (join_any _ (evL e) [58] _ (Row.of_owns (n := 7) hown3 (by decide)) (Nat.le_trans (show (Lib.join (evL e) [58]).length ≤ 9200000 from HL.out) (by omega))).mono ?_; rintro e' w4 ⟨rfl, hx4⟩)))
      go_ret
      exact ⟨rfl, hx1.trans (hx3.trans hx4)⟩

end Go.Proofs.YthfkohppillflaaDoor
