/- script.Acts: bytes as acts. Conditions: at most 100000 bytes. -/
import Derived.Test.YthfkohppillflaaDoorList
namespace Go.Proofs.YthfkohppillflaaDoor
open Go Go.RowKit

set_option maxRecDepth 100000 in
set_option maxHeartbeats 2000000 in
theorem acts_any (v : Value) (l : B8) (w : World) (hv : IsBytes w v l) (hl : l.length ≤ 100000) :
    Calls Tryd.prog 16 #[v] w fun e w' => (∃ v, e = .returned v ∧ IsActs 43 26 w' v (actsL l)) ∧ Ext w w' := by
  obtain ⟨a, cap, rfl, h1, h2, h3, h4⟩ := hv.get
  have H4 : Hid _ := h4
  have HN : Hid (∀ k, k < actsN l ↔ (4 * k + 3 < l.length ∧ k < 500)) := fun k => by unfold actsN; omega
  have HN5 : actsN l ≤ 500 := by unfold actsN; omega
  clear h4 hv
  go_enter Tryd.func16, Tryd.ntmps16
  go_wp2
  go_loopw [3, 4] (fun v i wr => ∃ (k j : Nat) (css : List (List Value)), k ≤ actsN l ∧ j = 4 * k ∧ i = .int .i64 j ∧ wr.ownsRow w.heap.size 26 8 v k css.flatten ∧ css.length = k ∧ (∀ (j : Nat) c, css[j]? = some c → IsAcG 43 wr c (actAt l j)) ∧ Ext w wr) (fun _ i _ => 4 * actsN l - (intOf i).toNat)
  case atStart => exact ⟨0, 0, [], Nat.zero_le _, rfl, rfl, World.ownsRow_nil _ _ _ _, rfl, fun j c hc => by simp at hc, Ext.refl _⟩
  case round =>
    obtain ⟨k, j, css, hk, hjk, rfl, hown, hcl, hcs, hx⟩ := hrel
    obtain ⟨av, cv, rfl, hkc, hkm⟩ : ∃ av cv, u3 = .slice av k cv ∧ k ≤ cv ∧ True := by
      obtain ⟨av, cv, h1, h2, -⟩ := Row.of_owns hown (by omega)
      exact ⟨av, cv, h1, h2, trivial⟩
    have HCL : Hid _ := hcl
    have HCS : Hid _ := hcs
    clear hcl hcs
    by_cases hlt : k < actsN l
    · have hlt2 := (HN.out k).1 hlt
      have hj3 : ((j : Int) + 3 < (l.length : Int)) := by omega
      have hk5 : ((k : Int) < 500) := by omega
      obtain ⟨b, o, rfl, hc⟩ := H4.out 0 (by omega)
      obtain ⟨x0, hx0⟩ : ∃ x, l.getD j 0 = x := ⟨_, rfl⟩
      obtain ⟨x1, hx1⟩ : ∃ x, l.getD (j + 1) 0 = x := ⟨_, rfl⟩
      obtain ⟨x2, hx2⟩ : ∃ x, l.getD (j + 2) 0 = x := ⟨_, rfl⟩
      obtain ⟨x3, hx3⟩ : ∃ x, l.getD (j + 3) 0 = x := ⟨_, rfl⟩
      have c0 := hx.cell (hc j (by omega))
      have c1 := hx.cell (hc (j + 1) (by omega))
      have c2 := hx.cell (hc (j + 2) (by omega))
      have c3 := hx.cell (hc (j + 3) (by omega))
      rw [hx0] at c0
      rw [hx1] at c1
      rw [hx2] at c2
      rw [hx3] at c3
      have HA : Hid (actAt l k = actL (x0.toNat % 10) x1.toNat x2.toNat x3.toNat) := by show actAt l k = _; unfold actAt; rw [← hjk, hx0, hx1, hx2, hx3]
      have k0 : x0.toNat ≤ 255 := Nat.le_of_lt_succ x0.toNat_lt
      have k1 : x1.toNat ≤ 255 := Nat.le_of_lt_succ x1.toNat_lt
      have k2 : x2.toNat ≤ 255 := Nat.le_of_lt_succ x2.toNat_lt
      have k3 : x3.toNat ≤ 255 := Nat.le_of_lt_succ x3.toNat_lt
      have j1 : (j : Int) + 1 < (l.length : Int) := by omega
      have j2 : (j : Int) + 2 < (l.length : Int) := by omega
      have j0 : (j : Int) < (l.length : Int) := by omega
      have hsz := hx.size
      have hjl : (j : Int) ≤ 100000 := by omega
      have hw1 : IntKind.i64.wrap ((j : Int) + 1) = (j : Int) + 1 := IntWalk.i64_in _ (by omega)
      have hp1 : 0 ≤ (j : Int) + 1 := by omega
      have ht1 : ((j : Int) + 1).toNat = j + 1 := by omega
      have hw2 : IntKind.i64.wrap ((j : Int) + 2) = (j : Int) + 2 := IntWalk.i64_in _ (by omega)
      have hp2 : 0 ≤ (j : Int) + 2 := by omega
      have ht2 : ((j : Int) + 2).toNat = j + 2 := by omega
      have hw3 : IntKind.i64.wrap ((j : Int) + 3) = (j : Int) + 3 := IntWalk.i64_in _ (by omega)
      have hp3 : 0 ≤ (j : Int) + 3 := by omega
      have ht3 : ((j : Int) + 3).toNat = j + 3 := by omega
      have e0 : IntKind.i64.wrap (x0.toNat : Int) = (x0.toNat : Int) := IntWalk.i64_in _ (by omega)
      have e1 : IntKind.i64.wrap (x1.toNat : Int) = (x1.toNat : Int) := IntWalk.i64_in _ (by omega)
      have e2 : IntKind.i64.wrap (x2.toNat : Int) = (x2.toNat : Int) := IntWalk.i64_in _ (by omega)
      have e3 : IntKind.i64.wrap (x3.toNat : Int) = (x3.toNat : Int) := IntWalk.i64_in _ (by omega)
      have hw4 : IntKind.i64.wrap ((j : Int) + 4) = (j : Int) + 4 := IntWalk.i64_in _ (by omega)
      have HJ : Hid _ := hjk
      have HL2 : Hid _ := hlt2
      clear hx0 hx1 hx2 hx3 hc hjk hlt2
      go_wp2
      apply wp_region_mix 26 [_, _, _, _, _, _, _, _, _, _, _, _, _, _, _, _, _, _, _, _, _, _, _, _, undef, undef] [none, none, none, none, none, none, none, none, none, none, none, none, none, none, none, none, none, none, none, none, none, none, none, none, some (fun u w' => ∃ cs, u = .agg cs.toArray ∧ IsAcG 43 w' cs (actAt l k)), some (fun u w' => ∃ g cs, u = .slice (some ⟨g, 0, none⟩) 1 1 ∧ w'.heap[g]? = some (.cells cs.toArray 26 (0, 0)) ∧ IsAcG 43 w' cs (actAt l k))] [[], [], [], [1, 2], [3], [4], [], [], [7], [6, 8], [9], [10], [], [], [13], [12, 14], [15], [16], [], [], [19], [18, 20], [21], [22], [5, 11, 17, 23], [24]] (by kernel_rfl) (by kernel_rfl) (by simp [mixV])
      · refine ⟨?_, ?_, trivial⟩
        · exact fun _ _ _ he ⟨cs, h1, h3⟩ => ⟨cs, h1, h3.ext he⟩
        · exact fun _ _ _ he ⟨g, cs, h1, h3, h4⟩ => ⟨g, cs, h1, he.row h3, h4.ext he⟩
      · simp (maxSteps := 1000000) only [List.take_succ_cons, List.take_zero, oblFrom, stepObl, fillFrom, Act.put, List.setIfInBounds_toArray, List.set_cons_zero, List.set_cons_succ, knows, getV, mixV, List.getD_cons_zero, List.getD_cons_succ, and_true, true_and, forall_const]
        refine ⟨?_, ?_, ?_, ?_, ?_, ?_, ?_, ?_, ?_, ?_, ?_, ?_, ?_, ?_, ?_, ?_, ?_, ?_, ?_, ?_, ?_, ?_, ?_, ?_, ?_, ?_⟩
        · intro xs wq hq R hR
          have f0 := hq.cell c0; have f1 := hq.cell c1; have f2 := hq.cell c2; have f3 := hq.cell c3
          go_simp
          exact hR _ _ (Ext.refl _) rfl
        · intro xs wq hq R hR
          have f0 := hq.cell c0; have f1 := hq.cell c1; have f2 := hq.cell c2; have f3 := hq.cell c3
          go_simp
          exact hR _ _ (Ext.refl _) rfl
        · intro xs wq hq R hR
          have f0 := hq.cell c0; have f1 := hq.cell c1; have f2 := hq.cell c2; have f3 := hq.cell c3
          go_simp
          exact hR _ _ (Ext.refl _) rfl
        · intro xs wq hq hk R hR
          obtain ⟨hk0, hk1⟩ := hk
          have f0 := hq.cell c0; have f1 := hq.cell c1; have f2 := hq.cell c2; have f3 := hq.cell c3
          go_simp
          exact hR _ _ (Ext.refl _) rfl
        · intro xs wq hq hk R hR
          have f0 := hq.cell c0; have f1 := hq.cell c1; have f2 := hq.cell c2; have f3 := hq.cell c3
          go_simp
          exact hR _ _ (Ext.refl _) rfl
        · intro xs wq hq hk R hR
          have f0 := hq.cell c0; have f1 := hq.cell c1; have f2 := hq.cell c2; have f3 := hq.cell c3
          go_simp
          exact hR _ _ (Ext.refl _) rfl
        · intro xs wq hq R hR
          have f0 := hq.cell c0; have f1 := hq.cell c1; have f2 := hq.cell c2; have f3 := hq.cell c3
          go_simp
          exact hR _ _ (Ext.refl _) rfl
        · intro xs wq hq R hR
          have f0 := hq.cell c0; have f1 := hq.cell c1; have f2 := hq.cell c2; have f3 := hq.cell c3
          go_simp
          exact hR _ _ (Ext.refl _) rfl
        · intro xs wq hq hk R hR
          have f0 := hq.cell c0; have f1 := hq.cell c1; have f2 := hq.cell c2; have f3 := hq.cell c3
          go_simp
          exact hR _ _ (Ext.refl _) rfl
        · intro xs wq hq hk R hR
          obtain ⟨hk0, hk1⟩ := hk
          have f0 := hq.cell c0; have f1 := hq.cell c1; have f2 := hq.cell c2; have f3 := hq.cell c3
          go_simp
          exact hR _ _ (Ext.refl _) rfl
        · intro xs wq hq hk R hR
          have f0 := hq.cell c0; have f1 := hq.cell c1; have f2 := hq.cell c2; have f3 := hq.cell c3
          go_simp
          exact hR _ _ (Ext.refl _) rfl
        · intro xs wq hq hk R hR
          have f0 := hq.cell c0; have f1 := hq.cell c1; have f2 := hq.cell c2; have f3 := hq.cell c3
          go_simp
          exact hR _ _ (Ext.refl _) rfl
        · intro xs wq hq R hR
          have f0 := hq.cell c0; have f1 := hq.cell c1; have f2 := hq.cell c2; have f3 := hq.cell c3
          go_simp
          exact hR _ _ (Ext.refl _) rfl
        · intro xs wq hq R hR
          have f0 := hq.cell c0; have f1 := hq.cell c1; have f2 := hq.cell c2; have f3 := hq.cell c3
          go_simp
          exact hR _ _ (Ext.refl _) rfl
        · intro xs wq hq hk R hR
          have f0 := hq.cell c0; have f1 := hq.cell c1; have f2 := hq.cell c2; have f3 := hq.cell c3
          go_simp
          exact hR _ _ (Ext.refl _) rfl
        · intro xs wq hq hk R hR
          obtain ⟨hk0, hk1⟩ := hk
          have f0 := hq.cell c0; have f1 := hq.cell c1; have f2 := hq.cell c2; have f3 := hq.cell c3
          go_simp
          exact hR _ _ (Ext.refl _) rfl
        · intro xs wq hq hk R hR
          have f0 := hq.cell c0; have f1 := hq.cell c1; have f2 := hq.cell c2; have f3 := hq.cell c3
          go_simp
          exact hR _ _ (Ext.refl _) rfl
        · intro xs wq hq hk R hR
          have f0 := hq.cell c0; have f1 := hq.cell c1; have f2 := hq.cell c2; have f3 := hq.cell c3
          go_simp
          exact hR _ _ (Ext.refl _) rfl
        · intro xs wq hq R hR
          have f0 := hq.cell c0; have f1 := hq.cell c1; have f2 := hq.cell c2; have f3 := hq.cell c3
          go_simp
          exact hR _ _ (Ext.refl _) rfl
        · intro xs wq hq R hR
          have f0 := hq.cell c0; have f1 := hq.cell c1; have f2 := hq.cell c2; have f3 := hq.cell c3
          go_simp
          exact hR _ _ (Ext.refl _) rfl
        · intro xs wq hq hk R hR
          have f0 := hq.cell c0; have f1 := hq.cell c1; have f2 := hq.cell c2; have f3 := hq.cell c3
          go_simp
          exact hR _ _ (Ext.refl _) rfl
        · intro xs wq hq hk R hR
          obtain ⟨hk0, hk1⟩ := hk
          have f0 := hq.cell c0; have f1 := hq.cell c1; have f2 := hq.cell c2; have f3 := hq.cell c3
          go_simp
          exact hR _ _ (Ext.refl _) rfl
        · intro xs wq hq hk R hR
          have f0 := hq.cell c0; have f1 := hq.cell c1; have f2 := hq.cell c2; have f3 := hq.cell c3
          go_simp
          exact hR _ _ (Ext.refl _) rfl
        · intro xs wq hq hk R hR
          have f0 := hq.cell c0; have f1 := hq.cell c1; have f2 := hq.cell c2; have f3 := hq.cell c3
          go_simp
          exact hR _ _ (Ext.refl _) rfl
        · intro xs wq hq hk R hR
          obtain ⟨hk0, hk1, hk2, hk3⟩ := hk
          go_simp
          exact (act_any x0.toNat x1.toNat x2.toNat x3.toNat _ k0 k1 k2 k3).mono (by rintro e' w7 ⟨⟨cs, rfl, h4⟩, h2⟩; exact ⟨_, rfl, hR _ _ h2 ⟨cs, rfl, by rw [HA.out]; exact h4⟩⟩)
        · intro xs wq hq hk R hR
          obtain ⟨cs, hcs1, vd, vf, ve, rfl, ⟨⟨q1, q2, rfl, e1⟩, e2⟩, ⟨⟨q3, q4, rfl, e3⟩, e4⟩, ⟨q5, ⟨q6, q7, rfl, e5⟩, e6⟩⟩ := hk
          go_simp
          exact hR _ _ ((Ext.refl _).alloc _) ⟨_, _, rfl, alloc_at _ _, IsAcG.ext ⟨_, _, _, rfl, ⟨⟨q1, q2, rfl, e1⟩, e2⟩, ⟨⟨q3, q4, rfl, e3⟩, e4⟩, ⟨q5, ⟨q6, q7, rfl, e5⟩, e6⟩⟩ ((Ext.refl _).alloc _)⟩
      intro xs w6 hx6 hk
      simp only [heldV, Nat.zero_add, Nat.reduceAdd, and_true] at hk
      obtain ⟨q0, q1, q2, q3, q4, q5, q6, q7, q8, q9, q10, q11, q12, q13, q14, q15, q16, q17, q18, q19, q20, q21, q22, q23, q24, q25⟩ := hk
      simp (maxSteps := 1000000) only [List.take_succ_cons, List.take_zero, List.drop_succ_cons, List.drop_zero, fillFrom, Act.put, List.setIfInBounds_toArray, List.set_cons_zero, List.set_cons_succ, Nat.zero_add, Nat.reduceAdd, q0, q1, q2, q3, q4, q5, q6, q7, q8, q9, q10, q11, q12, q13, q14, q15, q16, q17, q18, q19, q20, q21, q22, q23]
      clear q0 q1 q2 q3 q4 q5 q6 q7 q8 q9 q10 q11 q12 q13 q14 q15 q16 q17 q18 q19 q20 q21 q22 q23
      generalize xs 24 = x24 at *
      generalize xs 25 = x25 at *
      obtain ⟨g, cs, rfl, hg, hac⟩ := q25
      have hown6 := owns_ext hown hx6
      have hsz6 := Nat.le_trans hsz hx6.size
      have hx16 := hx.trans hx6
      obtain ⟨hcl8, hone⟩ : cs.length = 8 ∧ cs.all (·.oneCell') = true := by
        obtain ⟨_, _, _, rfl, ⟨⟨_, _, rfl, _⟩, _⟩, ⟨⟨_, _, rfl, _⟩, _⟩, ⟨_, ⟨_, _, rfl, _⟩, _⟩⟩ := hac
        exact ⟨rfl, by simp [Value.oneCell']⟩
      have HAC : Hid _ := hac
      clear hown hac q24 c0 c1 c2 c3
      go_wp2_with (at_builtin; refine app_ac rfl _ _ rfl w.heap.size _ k _ rfl hown6 g 1 cs rfl hcl8 hg hone (by omega) hsz6 ?_; intro v' w7 hown7 hgr7)
      go_roundw
      case rel =>
        have st := acts_step HCL.out HCS.out ((Keep.of_ext hx6).trans (Keep.of_owns (e := 5) hown6 hgr7 (by decide))) ((Keep.of_ext hx6).trans (Keep.of_owns (e := 3) hown6 hgr7 (by decide))) ((Keep.of_ext hx6).trans (Keep.of_owns (e := 43) hown6 hgr7 (by decide))) (IsAcG.keep HAC.out (Keep.of_owns (e := 5) hown6 hgr7 (by decide)) (Keep.of_owns (e := 3) hown6 hgr7 (by decide)) (Keep.of_owns (e := 43) hown6 hgr7 (by decide)))
        refine ⟨k + 1, j + 4, css ++ [cs], by omega, by have := HJ.out; omega, by go_num, ?_, st.1, st.2, owns_ext_app hx16 hown6 hgr7⟩
        rw [List.flatten_append]
        simpa using hown7
      case measure => have := HJ.out; have := HL2.out; simp [intOf]; omega
    · have hkk : k = actsN l := by omega
      subst hkk
      have hact := acts_done hown HCL.out HCS.out
      have HACT : Hid _ := hact
      have hno : ¬ ((j : Int) + 3 < (l.length : Int) ∧ (actsN l : Int) < 500) := by
        intro ⟨h1, h2⟩
        exact hlt ((HN.out _).2 ⟨by omega, by omega⟩)
      have hw3 : IntKind.i64.wrap ((j : Int) + 3) = (j : Int) + 3 := IntWalk.i64_in _ (by omega)
      clear hact hlt hjk hown
      by_cases hj3 : (j : Int) + 3 < (l.length : Int)
      · have hk5 : ¬ (actsN l : Int) < 500 := fun h => hno ⟨hj3, h⟩
        clear hno
        go_wp2
        go_ret
        exact ⟨⟨_, rfl, HACT.out⟩, hx⟩
      · clear hno
        go_wp2
        go_ret
        exact ⟨⟨_, rfl, HACT.out⟩, hx⟩

end Go.Proofs.YthfkohppillflaaDoor
