/- The roots of the primes, as a row lays them. Conditions: what the row lists. -/
import Derived.Test.YtalpfoomkhhgnaaGreatDoorZai
import Derived.Laws.StructEq
import Derived.Test.YtalpfoomkhhgnaaGreatDoorZaf
import Derived.Test.YtalpfoomkhhgnaaGreatDoorZac
import Derived.Test.YtalpfoomkhhgnaaGreatDoorCards
import Derived.Test.YtalpfoomkhhgnaaGreatDoorTie
import Derived.OpenShut
import Derived.LaidMore
import Derived.Lay
import Derived.Deep.DeepHandedRow
import Derived.Lib.LaidTab
import Derived.Stop.LaidErr
import Derived.ProofKit
import Derived.SizedLaws
import Derived.Deep.Slices
import Derived.Deep.Fields
import Derived.ChangeSame
import Derived.Test.YtalpfoomkhhgnaaGreatDoorZah

set_option linter.unusedVariables false
set_option linter.unusedSimpArgs false
set_option linter.unusedSectionVars false

/-! scan.Status: what it answers. Conditions: as each theorem states. -/
namespace Go.Proofs.YtalpfoomkhhgnaaGreatDoor
open Go Go.RowKit Go.Sort
set_option linter.unusedVariables false
set_option linter.unusedSimpArgs false
set_option linter.unusedSectionVars false

/-! ### What differs, in memory -/
def chC (c : Chg) : List Value := [S8 c.path, .int .i64 c.old.1, S8 c.old.2, .int .i64 c.new.1, S8 c.new.2]
def IsChs (w : World) (v : Value) (l : List Chg) : Prop := Row w v l.length (l.flatMap chC)
theorem IsChs.ext {w w' : World} {v : Value} {l : List Chg} (h : IsChs w v l) (hx : Ext w w') : IsChs w' v l := Row.ext h hx
theorem flat_ch : ∀ (l : List Chg) (k : Nat) (x : Chg), l[k]? = some x → (l.flatMap chC)[k * 5]? = some (S8 x.path) ∧ (l.flatMap chC)[k * 5 + 1]? = some (.int .i64 x.old.1) ∧ (l.flatMap chC)[k * 5 + 2]? = some (S8 x.old.2) ∧ (l.flatMap chC)[k * 5 + 3]? = some (.int .i64 x.new.1) ∧ (l.flatMap chC)[k * 5 + 4]? = some (S8 x.new.2)
  | [], k, x, h => by simp at h
  | y :: l, 0, x, h => by
    simp only [List.getElem?_cons_zero, Option.some.injEq] at h
    subst h
    exact ⟨rfl, rfl, rfl, rfl, rfl⟩
  | y :: l, k + 1, x, h => by
    have ih := flat_ch l k x (by simpa using h)
    have e : (y :: l).flatMap chC = S8 y.path :: .int .i64 y.old.1 :: S8 y.old.2 :: .int .i64 y.new.1 :: S8 y.new.2 :: l.flatMap chC := by rw [List.flatMap_cons]; rfl
    rw [e, show (k + 1) * 5 = k * 5 + 1 + 1 + 1 + 1 + 1 by omega]
    exact ih
theorem IsChs.get {w : World} {v : Value} {l : List Chg} (h : IsChs w v l) : ∃ a cap, v = .slice a l.length cap ∧ l.length ≤ cap ∧ l.length ≤ 140737488355328 ∧ cap ≤ 9223372036854775807 ∧
    ∀ (k : Nat) x, l[k]? = some x → ∃ b o, a = some ⟨b, o, none⟩ ∧ w.cell? ⟨b, o + k * 5, none⟩ = some (S8 x.path) ∧ w.cell? ⟨b, o + k * 5 + 1, none⟩ = some (.int .i64 x.old.1) ∧ w.cell? ⟨b, o + k * 5 + 1 + 1, none⟩ = some (S8 x.old.2) ∧ w.cell? ⟨b, o + k * 5 + 3, none⟩ = some (.int .i64 x.new.1) ∧ w.cell? ⟨b, o + k * 5 + 3 + 1, none⟩ = some (S8 x.new.2) := by
  obtain ⟨a, cap, rfl, h1, h2, h3, h4⟩ := h
  refine ⟨a, cap, rfl, h1, h3, h2, fun k x hk => ?_⟩
  obtain ⟨e0, e1, e2, e3, e4⟩ := flat_ch l k x hk
  obtain ⟨b, o, ha, hc⟩ := h4 (fun h0 => by rw [h0] at e0; simp at e0)
  exact ⟨b, o, ha, hc _ _ e0, by have := hc _ _ e1; rwa [← Nat.add_assoc] at this, by have := hc _ _ e2; rwa [← Nat.add_assoc] at this, by have := hc _ _ e3; rwa [← Nat.add_assoc] at this, by have := hc _ _ e4; rwa [← Nat.add_assoc] at this⟩

/-! ### Two entries held against one another -/
theorem neq_ent (a b : Int × B8) (w : World) : (binOp .neq 26 (.agg #[.int .i64 a.1, S8 a.2]) (.agg #[.int .i64 b.1, S8 b.2])).run Tryz.prog w = .ok (.bool (a != b)) w := by
  have hS : Tryz.prog.underlying 26 = some (.struct (Tryz.prog.fieldsOf 26)) := by kernel_rfl
  have hp : Tryz.prog.stoodInHeld 26 = false := by kernel_rfl
  rw [run_neq_struct, show (10000 : Nat) = 9999 + 1 from rfl, run_equalIn_agg w 9999 26 _ _ hS hp]
  simp only [Program.fieldsOf, Tryz.underlying26]
  go_simp
  obtain ⟨a1, a2⟩ := a
  obtain ⟨b1, b2⟩ := b
  have ha : (⟨a2.toArray⟩ : ByteArray).toList = a2 := Lib.toList_data _
  have hb : (⟨b2.toArray⟩ : ByteArray).toList = b2 := Lib.toList_data _
  by_cases h1 : a1 = b1 <;> by_cases h2 : a2 = b2 <;> simp [h1, h2, ha, hb]
section
variable {ops : Array Oper} {rest : List Oper} {o : Oper} {a : Act} {Q : Exit → Act → World → Prop} {w : World}
end
end Go.Proofs.YtalpfoomkhhgnaaGreatDoor

/-! marlaw16.TableSets, what the chapter's examples fix given. Conditions: as each theorem states. -/
namespace Go.Proofs.YtalpfoomkhhgnaaGreatDoor
open Go Go.RowKit Go.Sort
set_option linter.unusedVariables false
set_option linter.unusedSimpArgs false
set_option linter.unusedSectionVars false

theorem tab_rise {l : List Rw} (h : mayTab l = true) : RiseR l ∧ ∀ x ∈ l, x.mode ≠ 0 := by
  have hr0 : ∀ j x, j < l.length → l[j]? = some x → mayR0 l j x = true := fun j x _ hx => by
    have := tab_row h hx
    unfold mayTRow at this
    exact ((Bool.and_eq_true _ _).mp this).1
  refine ⟨?_, fun x hx => ?_⟩
  · unfold RiseR
    rw [List.pairwise_iff_getElem]
    intro i j hi hj hij
    exact r0_lt hr0 hij hj (List.getElem?_eq_getElem hi) (List.getElem?_eq_getElem hj)
  · obtain ⟨j, hj, rfl⟩ := List.mem_iff_getElem.1 hx
    have h1 := hr0 j _ hj (List.getElem?_eq_getElem hj)
    unfold mayR0 at h1
    simp only [Bool.and_eq_true, decide_eq_true_eq] at h1
    have := h1.2.1
    omega
theorem outR_len (l : List Rw) (p : B8) (e : Int × B8) : (outR l p e).length ≤ l.length + 1 := by
  unfold outR
  have := List.length_filter_le (fun r : Rw => !(r.path == p)) l
  rw [List.length_append]
  show (l.filter _).length + _ ≤ _
  split
  · simp; omega
  · simp; omega

set_option maxRecDepth 100000 in
set_option maxHeartbeats 16000000 in
theorem tableSets_of (va : Value) (a : List Rw) (p q : B8) (m : Int) (id : B8) (w : World) (hE : Env w) (hF : First16 w) (hva : IsRws w va a) :
    Calls Tryz.prog 3 #[va, S8 p, S8 q, .int .i64 m, S8 id] w fun e w' => e = .returned (.bool true) ∧ Ext w w' := by
  obtain ⟨aa, ac, rfl, -⟩ := hva.get
  have HVA : Hid (IsRws w (.slice aa a.length ac) a) := hva
  have HF : Hid (First16 w) := hF
  have HE : Hid (Env w) := hE
  clear hva hF hE
  go_enter Tryz.func3, Tryz.ntmps3
  go_wp2_with fail
  go_at_call 6
  refine (HF.out w (Ext.refl _)).mono ?_
  rintro e w1 ⟨rfl, hx1⟩
  have HX1 : Hid (Ext w w1) := hx1
  clear hx1
  go_wp2_with fail
  go_at_call 7
  refine (few16_any _ a w1 (HVA.out.ext HX1.out)).mono ?_
  rintro e w2 ⟨ta, rfl, rfl, hta⟩
  have HTA0 : Hid (ta = true → a.length ≤ 100 ∧ ∀ r ∈ a, r.path.length ≤ 400 ∧ r.id.length ≤ 400) := hta
  clear hta
  obtain ⟨w1, rfl⟩ : ∃ w1 : World, w1 = w2 := ⟨_, rfl⟩
  cases ta with
  | false =>
    go_wp2_with fail
    go_at_call 6
    refine (HF.out _ HX1.out).mono ?_
    rintro e wz ⟨rfl, hxz⟩
    go_wp2
    go_ret
    exact ⟨rfl, HX1.out.trans hxz⟩
  | true =>
  have ha100 := (HTA0.out rfl).1
  have HAB : Hid (∀ r ∈ a, r.path.length ≤ 400 ∧ r.id.length ≤ 400) := (HTA0.out rfl).2
  clear HTA0
  go_wp2_with fail
  go_at_call 8
  refine (tmay_any _ a w1 (HE.out.ext HX1.out) (HVA.out.ext HX1.out) (by omega) HAB.out).mono ?_
  rintro e w3 ⟨rfl, hx3⟩
  have HX3 : Hid (Ext w w3) := HX1.out.trans hx3
  obtain ⟨b, hb⟩ : ∃ b, mayTab a = b := ⟨_, rfl⟩
  rw [hb]
  have HB : Hid _ := hb
  clear hx3 hb
  cases b with
  | false =>
    go_wp2_with fail
    go_at_call 6
    refine (HF.out _ HX3.out).mono ?_
    rintro e wz ⟨rfl, hxz⟩
    go_wp2
    go_ret
    exact ⟨rfl, HX3.out.trans hxz⟩
  | true =>
  by_cases hpl : (400 : Int) < (p.length : Int)
  · go_wp2_with fail
    go_at_call 6
    refine (HF.out _ HX3.out).mono ?_
    rintro e wz ⟨rfl, hxz⟩
    go_wp2
    go_ret
    exact ⟨rfl, HX3.out.trans hxz⟩
  by_cases hql : (400 : Int) < (q.length : Int)
  · go_wp2_with fail
    go_at_call 6
    refine (HF.out _ HX3.out).mono ?_
    rintro e wz ⟨rfl, hxz⟩
    go_wp2
    go_ret
    exact ⟨rfl, HX3.out.trans hxz⟩
  by_cases hil : (400 : Int) < (id.length : Int)
  · go_wp2_with fail
    go_at_call 6
    refine (HF.out _ HX3.out).mono ?_
    rintro e wz ⟨rfl, hxz⟩
    go_wp2
    go_ret
    exact ⟨rfl, HX3.out.trans hxz⟩
  have HTB : Hid (RiseR a ∧ ∀ x ∈ a, x.mode ≠ 0) := tab_rise HB.out
  go_upto_region 6 with fail
  obtain ⟨w4, hw4⟩ : ∃ w4, w4 = w3.alloc (.cells #[.int .i64 m, S8 id] 26) := ⟨_, rfl⟩
  have hb4 : w4.heap[w3.heap.size]? = some (.cells #[.int .i64 m, S8 id] 26 (0, 0)) := by rw [hw4]; exact alloc_at _ _
  have HX4 : Hid (Ext w w4) := by rw [hw4]; exact HX3.out.alloc _
  have HLE : Hid (w.heap.size ≤ w3.heap.size) := HX3.out.size
  have HLT : Hid (w3.heap.size < w4.heap.size) := by rw [hw4]; show _ < (w3.heap.push _).size; rw [Array.size_push]; exact Nat.lt_succ_self _
  rw [← hw4]
  obtain ⟨ge, hge⟩ : ∃ g, w3.heap.size = g := ⟨_, rfl⟩
  rw [hge] at hb4 HLE HLT ⊢
  have HB4 : Hid _ := hb4
  clear hw4 hge hb4
  go_wp2_with fail
  go_at_call 9
  refine (tget_any _ a p w4 (HVA.out.ext HX4.out)).mono ?_
  rintro e w5 ⟨rfl, hx5⟩
  obtain ⟨⟨wm, wi⟩, hu⟩ : ∃ u, entG a p = u := ⟨_, rfl⟩
  rw [hu]
  have HU : Hid _ := hu
  have HX45 : Hid (Ext w4 w5) := hx5
  unfold entV
  dsimp only
  clear hx5 hu
  go_upto_region 7 with fail
  obtain ⟨w6, hw6⟩ : ∃ w6, w6 = w5.alloc (.cells #[.int .i64 wm, S8 wi] 26) := ⟨_, rfl⟩
  have hb6 : w6.heap[w5.heap.size]? = some (.cells #[.int .i64 wm, S8 wi] 26 (0, 0)) := by rw [hw6]; exact alloc_at _ _
  have HX46 : Hid (Ext w4 w6) := by rw [hw6]; exact HX45.out.alloc _
  have HLW : Hid (ge < w5.heap.size) := Nat.lt_of_lt_of_le HLT.out HX45.out.size
  have HLS : Hid (w5.heap.size < w6.heap.size) := by rw [hw6]; show _ < (w5.heap.push _).size; rw [Array.size_push]; exact Nat.lt_succ_self _
  rw [← hw6]
  obtain ⟨gw, hgw⟩ : ∃ g, w5.heap.size = g := ⟨_, rfl⟩
  rw [hgw] at hb6 HLW HLS ⊢
  have HB6 : Hid _ := hb6
  have HBE6 : Hid (w6.heap[ge]? = some (.cells #[.int .i64 m, S8 id] 26 (0, 0))) := HX46.out.row HB4.out
  have HX6 : Hid (Ext w w6) := HX4.out.trans HX46.out
  have e0 : w6.cell? ⟨ge, 0, none⟩ = some (.int .i64 m) := (cell_of_row _ _ 0 _ _ _ HBE6.out).trans rfl
  have e1 : w6.cell? ⟨ge, 1, none⟩ = some (S8 id) := (cell_of_row _ _ 1 _ _ _ HBE6.out).trans rfl
  clear hw6 hgw hb6 HX45 HX46
  go_wp2_with fail
  go_at_call 10
  refine (tset_any _ a p (m, id) w6 (HVA.out.ext HX6.out) (by omega) HTB.out.1).mono ?_
  rintro e w7 ⟨⟨v7, s, rfl, hS, ho7⟩, hx7⟩
  have HS : Hid (IsSet a p (m, id) s) := hS
  have hsl : s.length ≤ 101 := by have h1 := hS.2.1; have h2 := outR_len a p (m, id); omega
  have HO7 : Hid (w7.ownsRow w6.heap.size 30 3 v7 s.length (s.flatMap rwC)) := ho7
  have HX67 : Hid (Ext w6 w7) := hx7
  have HB7 : Hid (w7.heap[ge]? = some (.cells #[.int .i64 m, S8 id] 26 (0, 0))) := hx7.row HBE6.out
  have HBW7 : Hid (w7.heap[gw]? = some (.cells #[.int .i64 wm, S8 wi] 26 (0, 0))) := hx7.row HB6.out
  have HX7 : Hid (Ext w w7) := HX6.out.trans hx7
  clear hS ho7 hx7 e0 e1
  have HSG : Hid (entG s p = if m = 0 then (0, []) else (m, id)) := set_get HS.out
  have HSO : Hid (q ≠ p → entG s q = entG a q) := fun h => set_other HTB.out.1 HS.out h
  obtain ⟨z, hz⟩ : ∃ z, (m == 0) = z := ⟨_, rfl⟩
  have HZ : Hid (z = true ↔ m = 0) := by unfold Hid; rw [← hz]; exact beq_iff_eq
  cases z
  case' true =>
    have hm := HZ.out.1 rfl
    obtain ⟨em, hem⟩ : ∃ x : Int, x = 0 := ⟨_, rfl⟩
    obtain ⟨ei, hei⟩ : ∃ x : B8, x = [] := ⟨_, rfl⟩
    have HSP : Hid (entG s p = (em, ei)) := by unfold Hid; rw [HSG.out, if_pos hm, hem, hei]
    clear hm
    go_upto_region 10 with (refine wpList_store_row rfl 26 (.tmp 11) (.tmp 53) rfl ge #[.int .i64 0, S8 []] rfl rfl 26 _ HB7.out size_ent rfl (by simp [Value.oneCell']) ?_)
    obtain ⟨w8, hw8⟩ : ∃ w8, w8 = w7.setRow ge #[.int .i64 0, S8 []] := ⟨_, rfl⟩
    have HG8 : Hid (w7.grownBy w8 (some ge)) := by rw [hw8]; exact setRow_grown _ _ _
    have hb8 : w8.heap[ge]? = some (.cells #[.int .i64 em, S8 ei] 26 (0, 0)) := by rw [hw8, hem, hei]; exact setRow_heap _ _ _ _ _ _ HB7.out
    have HX8 : Hid (Ext w w8) := Ext.but HX7.out HG8.out HLE.out
    have HBW8 : Hid (w8.heap[gw]? = some (.cells #[.int .i64 wm, S8 wi] 26 (0, 0))) := but_row HG8.out HBW7.out (Nat.ne_of_gt HLW.out)
    have HR8 : Hid (IsRws w8 v7 s) := by
      refine row_same (Row.of_owns HO7.out (by omega)) (fun k hk => ?_)
      rcases HO7.out.2 with ⟨h1, -⟩ | ⟨g', c', cur, h1, h2, h3, -⟩
      · rw [h1] at hk; cases hk
      · rw [h1] at hk
        simp only [Value.ownBlock, Option.some.injEq] at hk
        subst hk
        have h4 := HLS.out
        have h5 := HLW.out
        refine HG8.out.block g' (Array.getElem?_eq_some_iff.1 h3).1 (fun he => ?_)
        simp only [Option.some.injEq] at he
        omega
    first | rw [← hw8] | skip
    clear hw8 hem hei
  case' false =>
    have hm : ¬ m = 0 := fun h => by have := HZ.out.2 h; cases this
    obtain ⟨em, hem⟩ : ∃ x : Int, x = m := ⟨_, rfl⟩
    obtain ⟨ei, hei⟩ : ∃ x : B8, x = id := ⟨_, rfl⟩
    have HSP : Hid (entG s p = (em, ei)) := by unfold Hid; rw [HSG.out, if_neg hm, hem, hei]
    go_upto_region 10 with fail
    obtain ⟨w8, hw8⟩ : ∃ w8, w8 = w7 := ⟨_, rfl⟩
    have hb8 : w8.heap[ge]? = some (.cells #[.int .i64 em, S8 ei] 26 (0, 0)) := by rw [hw8, hem, hei]; exact HB7.out
    have HX8 : Hid (Ext w w8) := by rw [hw8]; exact HX7.out
    have HBW8 : Hid (w8.heap[gw]? = some (.cells #[.int .i64 wm, S8 wi] 26 (0, 0))) := by rw [hw8]; exact HBW7.out
    have HR8 : Hid (IsRws w8 v7 s) := by rw [hw8]; exact Row.of_owns HO7.out (by omega)
    rw [← hw8]
    clear hw8 hm hem hei
  all_goals
    obtain ⟨sa, sc, hve, -⟩ := HR8.out.get
    subst hve
    have y0 : w8.cell? ⟨ge, 0, none⟩ = some (.int .i64 em) := (cell_of_row _ _ 0 _ _ _ hb8).trans rfl
    have y1 : w8.cell? ⟨ge, 1, none⟩ = some (S8 ei) := (cell_of_row _ _ 1 _ _ _ hb8).trans rfl
    have HGP : Hid (∀ wq, Ext w8 wq → Calls Tryz.prog 9 #[.slice sa s.length sc, S8 p] wq fun e w' => e = .returned (.agg #[.int .i64 em, S8 ei]) ∧ Ext wq w') := fun wq hq => by
      have h9 := tget_any _ s p wq (HR8.out.ext hq)
      rw [HSP.out] at h9
      exact h9
    obtain ⟨⟨om, oi⟩, ho⟩ : ∃ u, entG a q = u := ⟨_, rfl⟩
    have HGA : Hid (∀ wq, Ext w8 wq → Calls Tryz.prog 9 #[.slice aa a.length ac, S8 q] wq fun e w' => e = .returned (.agg #[.int .i64 om, S8 oi]) ∧ Ext wq w') := fun wq hq => by
      have h9 := tget_any _ a q wq (HVA.out.ext (HX8.out.trans hq))
      rw [ho] at h9
      exact h9
    have HGQ : Hid (q ≠ p → ∀ wq, Ext w8 wq → Calls Tryz.prog 9 #[.slice sa s.length sc, S8 q] wq fun e w' => e = .returned (.agg #[.int .i64 om, S8 oi]) ∧ Ext wq w') := fun hqp wq hq => by
      have h9 := tget_any _ s q wq (HR8.out.ext hq)
      rw [HSO.out hqp, ho] at h9
      exact h9
    have HN1 : Hid (∀ w : World, (binOp .neq 26 (.agg #[.int .i64 em, S8 ei]) (.agg #[.int .i64 em, S8 ei])).run Tryz.prog w = .ok (.bool false) w) := fun w => by
      have := neq_ent (em, ei) (em, ei) w
      rwa [show ((em, ei) != (em, ei)) = false by simp] at this
    have HN2 : Hid (∀ w : World, (binOp .neq 26 (.agg #[.int .i64 om, S8 oi]) (.agg #[.int .i64 om, S8 oi])).run Tryz.prog w = .ok (.bool false) w) := fun w => by
      have := neq_ent (om, oi) (om, oi) w
      rwa [show ((om, oi) != (om, oi)) = false by simp] at this
    clear ho hb8
    by_cases hqp : q = p
    case' pos =>
      apply wp_region_mix 19 [_, _, .agg #[.int .i64 em, S8 ei], .agg #[.int .i64 em, S8 ei], .bool false, .bool false, S8 p, S8 p, .bool false, .bool false, _, _, _, _, _, _, _, .bool false, .bool false] [none, none, none, none, none, none, none, none, none, none, none, none, none, none, none, none, none, none, none] [[], [], [0, 1], [], [2, 3], [4], [5], [5], [5, 6, 7], [5, 8], [9], [9], [9, 10, 11], [9], [9], [9, 13, 14], [9, 12, 15], [5, 9, 16], [5, 17]] (by kernel_rfl) (by kernel_rfl) (by simp [mixV])
      · trivial
      · simp (maxSteps := 1000000) only [List.take_succ_cons, List.take_zero, oblFrom, stepObl, fillFrom, Act.put, List.setIfInBounds_toArray, List.set_cons_zero, List.set_cons_succ, knows, getV, mixV, List.getD_cons_zero, List.getD_cons_succ, and_true, true_and, forall_const]
        refine ⟨?_, ?_, ?_, ?_, ?_, ?_, ?_, ?_, ?_, ?_, ?_, ?_, ?_, ?_, ?_, ?_, ?_, ?_, ?_⟩
        · intro xs wq hq R hR
          have f0 := hq.cell y0; have f1 := hq.cell y1; have f2 := HN1.out
          go_simp
          exact hR _ _ (Ext.refl _) rfl
        · intro xs wq hq R hR
          have f0 := hq.cell y0; have f1 := hq.cell y1; have f2 := HN1.out
          go_simp
          exact hR _ _ (Ext.refl _) rfl
        · intro xs wq hq hk R hR
          obtain ⟨hk0, hk1⟩ := hk
          go_simp
          exact (HGP.out _ hq).mono (by rintro e' w9 ⟨rfl, hx9⟩; exact ⟨_, rfl, hR _ _ hx9 rfl⟩)
        · intro xs wq hq R hR
          have f0 := hq.cell y0; have f1 := hq.cell y1; have f2 := HN1.out
          go_simp
          exact hR _ _ (Ext.refl _) rfl
        · intro xs wq hq hk R hR
          obtain ⟨hk0, hk1⟩ := hk
          have f0 := hq.cell y0; have f1 := hq.cell y1; have f2 := HN1.out
          go_simp
          exact hR _ _ (Ext.refl _) rfl
        · intro xs wq hq hk R hR
          have f0 := hq.cell y0; have f1 := hq.cell y1; have f2 := HN1.out
          go_simp
          exact hR _ _ (Ext.refl _) rfl
        · intro xs wq hq hk R hR
          have f0 := hq.cell y0; have f1 := hq.cell y1; have f2 := HN1.out
          go_simp
          exact hR _ _ (Ext.refl _) rfl
        · intro xs wq hq hk R hR
          have f0 := hq.cell y0; have f1 := hq.cell y1; have f2 := HN1.out
          go_simp
          exact hR _ _ (Ext.refl _) rfl
        · intro xs wq hq hk R hR
          obtain ⟨hk0, hk1, hk2⟩ := hk
          have f0 := hq.cell y0; have f1 := hq.cell y1; have f2 := HN1.out
          go_simp
          exact hR _ _ (Ext.refl _) rfl
        · intro xs wq hq hk R hR
          obtain ⟨hk0, hk1⟩ := hk
          have f0 := hq.cell y0; have f1 := hq.cell y1; have f2 := HN1.out
          go_simp
          exact hR _ _ (Ext.refl _) rfl
        · intro xs wq hq hk R hR
          have f0 := hq.cell y0; have f1 := hq.cell y1; have f2 := HN1.out
          go_simp
          exact hR _ _ (Ext.refl _) rfl
        · intro xs wq hq hk R hR
          have f0 := hq.cell y0; have f1 := hq.cell y1; have f2 := HN1.out
          go_simp
          exact hR _ _ (Ext.refl _) rfl
        · intro xs wq hq hk R hR
          obtain ⟨hk0, hk1, hk2⟩ := hk
          have f0 := hq.cell y0; have f1 := hq.cell y1; have f2 := HN1.out
          go_simp
          exact hR _ _ (Ext.refl _) rfl
        · intro xs wq hq hk R hR
          have f0 := hq.cell y0; have f1 := hq.cell y1; have f2 := HN1.out
          go_simp
          exact hR _ _ (Ext.refl _) rfl
        · intro xs wq hq hk R hR
          have f0 := hq.cell y0; have f1 := hq.cell y1; have f2 := HN1.out
          go_simp
          exact hR _ _ (Ext.refl _) rfl
        · intro xs wq hq hk R hR
          obtain ⟨hk0, hk1, hk2⟩ := hk
          have f0 := hq.cell y0; have f1 := hq.cell y1; have f2 := HN1.out
          go_simp
          exact hR _ _ (Ext.refl _) rfl
        · intro xs wq hq hk R hR
          obtain ⟨hk0, hk1, hk2⟩ := hk
          have f0 := hq.cell y0; have f1 := hq.cell y1; have f2 := HN1.out
          go_simp
          exact hR _ _ (Ext.refl _) rfl
        · intro xs wq hq hk R hR
          obtain ⟨hk0, hk1, hk2⟩ := hk
          have f0 := hq.cell y0; have f1 := hq.cell y1; have f2 := HN1.out
          go_simp
          exact hR _ _ (Ext.refl _) rfl
        · intro xs wq hq hk R hR
          obtain ⟨hk0, hk1⟩ := hk
          have f0 := hq.cell y0; have f1 := hq.cell y1; have f2 := HN1.out
          go_simp
          exact hR _ _ (Ext.refl _) rfl
      intro xs w9 hx9 hk
      simp only [heldV, Nat.zero_add, Nat.reduceAdd, and_true] at hk
      have q0 := hk.1
      replace hk := hk.2
      have q1 := hk.1
      replace hk := hk.2
      have q2 := hk.1
      replace hk := hk.2
      have q3 := hk.1
      replace hk := hk.2
      have q4 := hk.1
      replace hk := hk.2
      have q5 := hk.1
      replace hk := hk.2
      have q6 := hk.1
      replace hk := hk.2
      have q7 := hk.1
      replace hk := hk.2
      have q8 := hk.1
      replace hk := hk.2
      have q9 := hk.1
      replace hk := hk.2
      have q10 := hk.1
      replace hk := hk.2
      have q11 := hk.1
      replace hk := hk.2
      have q12 := hk.1
      replace hk := hk.2
      have q13 := hk.1
      replace hk := hk.2
      have q14 := hk.1
      replace hk := hk.2
      have q15 := hk.1
      replace hk := hk.2
      have q16 := hk.1
      replace hk := hk.2
      have q17 := hk.1
      replace hk := hk.2
      have q18 := hk
      clear hk
      simp (maxSteps := 1000000) only [List.take_succ_cons, List.take_zero, List.drop_succ_cons, List.drop_zero, fillFrom, Act.put, List.setIfInBounds_toArray, List.set_cons_zero, List.set_cons_succ, Nat.zero_add, Nat.reduceAdd, q0, q1, q2, q3, q4, q5, q6, q7, q8, q9, q10, q11, q12, q13, q14, q15, q16, q17, q18]
      clear q0 q1 q2 q3 q4 q5 q6 q7 q8 q9 q10 q11 q12 q13 q14 q15 q16 q17 q18
    case' neg =>
      have HQP : Hid (q ≠ p) := hqp
      have hqb : (q == p) = false := by simpa using hqp
      apply wp_region_mix 19 [_, _, .agg #[.int .i64 em, S8 ei], .agg #[.int .i64 em, S8 ei], .bool false, .bool false, S8 q, S8 p, .bool true, .bool true, _, _, .agg #[.int .i64 om, S8 oi], _, _, .agg #[.int .i64 om, S8 oi], .bool false, .bool false, .bool false] [none, none, none, none, none, none, none, none, none, none, none, none, none, none, none, none, none, none, none] [[], [], [0, 1], [], [2, 3], [4], [5], [5], [5, 6, 7], [5, 8], [9], [9], [9, 10, 11], [9], [9], [9, 13, 14], [9, 12, 15], [5, 9, 16], [5, 17]] (by kernel_rfl) (by kernel_rfl) (by simp [mixV])
      · trivial
      · simp (maxSteps := 1000000) only [List.take_succ_cons, List.take_zero, oblFrom, stepObl, fillFrom, Act.put, List.setIfInBounds_toArray, List.set_cons_zero, List.set_cons_succ, knows, getV, mixV, List.getD_cons_zero, List.getD_cons_succ, and_true, true_and, forall_const]
        refine ⟨?_, ?_, ?_, ?_, ?_, ?_, ?_, ?_, ?_, ?_, ?_, ?_, ?_, ?_, ?_, ?_, ?_, ?_, ?_⟩
        · intro xs wq hq R hR
          have f0 := hq.cell y0; have f1 := hq.cell y1; have f2 := HN1.out; have f3 := HN2.out
          go_simp
          exact hR _ _ (Ext.refl _) rfl
        · intro xs wq hq R hR
          have f0 := hq.cell y0; have f1 := hq.cell y1; have f2 := HN1.out; have f3 := HN2.out
          go_simp
          exact hR _ _ (Ext.refl _) rfl
        · intro xs wq hq hk R hR
          obtain ⟨hk0, hk1⟩ := hk
          go_simp
          exact (HGP.out _ hq).mono (by rintro e' w9 ⟨rfl, hx9⟩; exact ⟨_, rfl, hR _ _ hx9 rfl⟩)
        · intro xs wq hq R hR
          have f0 := hq.cell y0; have f1 := hq.cell y1; have f2 := HN1.out; have f3 := HN2.out
          go_simp
          exact hR _ _ (Ext.refl _) rfl
        · intro xs wq hq hk R hR
          obtain ⟨hk0, hk1⟩ := hk
          have f0 := hq.cell y0; have f1 := hq.cell y1; have f2 := HN1.out; have f3 := HN2.out
          go_simp
          exact hR _ _ (Ext.refl _) rfl
        · intro xs wq hq hk R hR
          have f0 := hq.cell y0; have f1 := hq.cell y1; have f2 := HN1.out; have f3 := HN2.out
          go_simp
          exact hR _ _ (Ext.refl _) rfl
        · intro xs wq hq hk R hR
          have f0 := hq.cell y0; have f1 := hq.cell y1; have f2 := HN1.out; have f3 := HN2.out
          go_simp
          exact hR _ _ (Ext.refl _) rfl
        · intro xs wq hq hk R hR
          have f0 := hq.cell y0; have f1 := hq.cell y1; have f2 := HN1.out; have f3 := HN2.out
          go_simp
          exact hR _ _ (Ext.refl _) rfl
        · intro xs wq hq hk R hR
          obtain ⟨hk0, hk1, hk2⟩ := hk
          have f0 := hq.cell y0; have f1 := hq.cell y1; have f2 := HN1.out; have f3 := HN2.out
          go_simp
          exact hR _ _ (Ext.refl _) rfl
        · intro xs wq hq hk R hR
          obtain ⟨hk0, hk1⟩ := hk
          have f0 := hq.cell y0; have f1 := hq.cell y1; have f2 := HN1.out; have f3 := HN2.out
          go_simp
          exact hR _ _ (Ext.refl _) rfl
        · intro xs wq hq hk R hR
          have f0 := hq.cell y0; have f1 := hq.cell y1; have f2 := HN1.out; have f3 := HN2.out
          go_simp
          exact hR _ _ (Ext.refl _) rfl
        · intro xs wq hq hk R hR
          have f0 := hq.cell y0; have f1 := hq.cell y1; have f2 := HN1.out; have f3 := HN2.out
          go_simp
          exact hR _ _ (Ext.refl _) rfl
        · intro xs wq hq hk R hR
          obtain ⟨hk0, hk1, hk2⟩ := hk
          go_simp
          exact (HGQ.out HQP.out _ hq).mono (by rintro e' w9 ⟨rfl, hx9⟩; exact ⟨_, rfl, hR _ _ hx9 rfl⟩)
        · intro xs wq hq hk R hR
          have f0 := hq.cell y0; have f1 := hq.cell y1; have f2 := HN1.out; have f3 := HN2.out
          go_simp
          exact hR _ _ (Ext.refl _) rfl
        · intro xs wq hq hk R hR
          have f0 := hq.cell y0; have f1 := hq.cell y1; have f2 := HN1.out; have f3 := HN2.out
          go_simp
          exact hR _ _ (Ext.refl _) rfl
        · intro xs wq hq hk R hR
          obtain ⟨hk0, hk1, hk2⟩ := hk
          go_simp
          exact (HGA.out _ hq).mono (by rintro e' w9 ⟨rfl, hx9⟩; exact ⟨_, rfl, hR _ _ hx9 rfl⟩)
        · intro xs wq hq hk R hR
          obtain ⟨hk0, hk1, hk2⟩ := hk
          have f0 := hq.cell y0; have f1 := hq.cell y1; have f2 := HN1.out; have f3 := HN2.out
          go_simp
          exact hR _ _ (Ext.refl _) rfl
        · intro xs wq hq hk R hR
          obtain ⟨hk0, hk1, hk2⟩ := hk
          have f0 := hq.cell y0; have f1 := hq.cell y1; have f2 := HN1.out; have f3 := HN2.out
          go_simp
          exact hR _ _ (Ext.refl _) rfl
        · intro xs wq hq hk R hR
          obtain ⟨hk0, hk1⟩ := hk
          have f0 := hq.cell y0; have f1 := hq.cell y1; have f2 := HN1.out; have f3 := HN2.out
          go_simp
          exact hR _ _ (Ext.refl _) rfl
      intro xs w9 hx9 hk
      simp only [heldV, Nat.zero_add, Nat.reduceAdd, and_true] at hk
      have q0 := hk.1
      replace hk := hk.2
      have q1 := hk.1
      replace hk := hk.2
      have q2 := hk.1
      replace hk := hk.2
      have q3 := hk.1
      replace hk := hk.2
      have q4 := hk.1
      replace hk := hk.2
      have q5 := hk.1
      replace hk := hk.2
      have q6 := hk.1
      replace hk := hk.2
      have q7 := hk.1
      replace hk := hk.2
      have q8 := hk.1
      replace hk := hk.2
      have q9 := hk.1
      replace hk := hk.2
      have q10 := hk.1
      replace hk := hk.2
      have q11 := hk.1
      replace hk := hk.2
      have q12 := hk.1
      replace hk := hk.2
      have q13 := hk.1
      replace hk := hk.2
      have q14 := hk.1
      replace hk := hk.2
      have q15 := hk.1
      replace hk := hk.2
      have q16 := hk.1
      replace hk := hk.2
      have q17 := hk.1
      replace hk := hk.2
      have q18 := hk
      clear hk
      simp (maxSteps := 1000000) only [List.take_succ_cons, List.take_zero, List.drop_succ_cons, List.drop_zero, fillFrom, Act.put, List.setIfInBounds_toArray, List.set_cons_zero, List.set_cons_succ, Nat.zero_add, Nat.reduceAdd, q0, q1, q2, q3, q4, q5, q6, q7, q8, q9, q10, q11, q12, q13, q14, q15, q16, q17, q18]
      clear q0 q1 q2 q3 q4 q5 q6 q7 q8 q9 q10 q11 q12 q13 q14 q15 q16 q17 q18
    all_goals
      have HX9 : Hid (Ext w8 w9) := hx9
      clear hx9 y0 y1
      go_wp2_with fail
      go_loopw [14] (fun i wr => ∃ k : Nat, k ≤ s.length ∧ i = .int .i64 ((k : Int) + 1) ∧ Hid (Ext w9 wr)) (fun i _ => s.length + 1 - (intOf i).toNat)
      case atStart => exact ⟨0, Nat.zero_le _, rfl, Ext.refl _⟩
      case round =>
      obtain ⟨k, hk, rfl, HX⟩ := hrel
      by_cases hlt : k + 1 < s.length
      case pos =>
        obtain ⟨x, hx⟩ : ∃ x, s[k]? = some x := ⟨_, List.getElem?_eq_getElem (by omega)⟩
        obtain ⟨y, hy⟩ : ∃ y, s[k + 1]? = some y := ⟨_, List.getElem?_eq_getElem hlt⟩
        have hxy : ltB x.path y.path = true := by
          have h9 := List.pairwise_iff_getElem.1 HS.out.2.2 k (k + 1) (by omega) hlt (Nat.lt_succ_self _)
          rw [List.getElem?_eq_getElem (by omega)] at hx
          rw [List.getElem?_eq_getElem hlt] at hy
          cases hx; cases hy
          exact h9
        obtain ⟨_, _, he, -, -, -, hgr⟩ := HR8.out.get
        cases he
        obtain ⟨rb, ro, rfl, r0, -⟩ := hgr k x hx
        obtain ⟨rb2, ro2, he2, t0, -⟩ := hgr (k + 1) y hy
        cases he2
        have HXR : Hid (Ext w8 wr) := HX9.out.trans HX.out
        have x0 : wr.cell? ⟨rb, ro + k * 3, none⟩ = some (S8 x.path) := by rw [Nat.mul_comm k 3]; exact HXR.out.cell r0
        have y0 : wr.cell? ⟨rb, ro + (k + 1) * 3, none⟩ = some (S8 y.path) := by rw [Nat.mul_comm (k + 1) 3]; exact HXR.out.cell t0
        have hlt2 : (k : Int) + 1 < (s.length : Int) := by omega
        have hlt3 : (k : Int) < (s.length : Int) := by omega
        have hlt4 : (0 : Int) ≤ (k : Int) + 1 := by omega
        have hwk : IntKind.i64.wrap (k : Int) = (k : Int) := IntWalk.i64_in _ (by omega)
        have htn : ((k : Int) + 1).toNat = k + 1 := by omega
        clear hx hy hgr r0 t0
        rcases leT_cases y.path x.path with ⟨h1, h2, h3⟩ | ⟨h1, h2⟩ | ⟨h1, h2, h3⟩
        · clear h1 hxy
          go_upto_region 15 with fail
          go_quiet (fail)
          have hxx := fun n => HX.out.trans (Ext.drawn wr n)
          clear x0 y0
          go_wp2_with fail
          go_roundw
          case rel => exact ⟨k + 1, by omega, by go_num, hxx _⟩
          case measure => simp [intOf]; omega
        · rw [hxy] at h1; cases h1
        · rw [hxy] at h1; cases h1
      case neg =>
        have hn : ¬ ((k : Int) + 1 < (s.length : Int)) := by omega
        have HXW : Hid (Ext w wr) := HX8.out.trans (HX9.out.trans HX.out)
        go_wp2_with fail
        go_at_call 6
        refine (HF.out _ HXW.out).mono ?_
        rintro e wz ⟨rfl, hxz⟩
        have HXZ : Hid (Ext w8 wz) := (HX9.out.trans HX.out).trans hxz
        have u0 := HXZ.out.cell ((cell_of_row _ _ 0 _ _ _ HBW8.out).trans rfl)
        have u1 := HXZ.out.cell ((cell_of_row _ _ 1 _ _ _ HBW8.out).trans rfl)
        clear hxz
        go_wp2_with fail
        go_at_call 10
        refine (tset_any _ s p (wm, wi) wz (HR8.out.ext HXZ.out) (by omega) HS.out.2.2).mono ?_
        rintro e wt ⟨⟨vt, t, rfl, hT, hot⟩, hxt⟩
        have HTA : Hid (t = a) := set_back HTB.out.1 HTB.out.2 HS.out (by rw [HU.out]; exact hT)
        have htl : t.length ≤ 102 := by have h1 := hT.2.1; have h2 := outR_len s p (wm, wi); omega
        have HRT : Hid (IsRws wt vt t) := Row.of_owns hot (by omega)
        have HXT : Hid (Ext w wt) := HX8.out.trans (HXZ.out.trans hxt)
        clear hT hot hxt u0 u1
        go_wp2_with fail
        go_at_call 11
        refine (tsame_any vt _ t a wt HRT.out (HVA.out.ext HXT.out)).mono ?_
        rintro e wu ⟨⟨c, rfl, hc⟩, hxu⟩
        obtain rfl : c = true := hc.2 HTA.out
        have HXU : Hid (Ext w wu) := HXT.out.trans hxu
        clear hc hxu
        go_wp2
        go_ret
        exact ⟨rfl, HXU.out⟩
end Go.Proofs.YtalpfoomkhhgnaaGreatDoor

/-! marlaw5.FewEvents, Few: are events, operations few and small? Conditions: as each theorem states. -/
namespace Go.Proofs.YtalpfoomkhhgnaaGreatDoor
open Go Go.RowKit
variable [Inhabited BaseW]

theorem ReadO.dExt {p : List Value → Ev → Prop} {w w' : World} {v : Value} {L : List Ev} (h : ReadO w p v L) (hx : Ext w w') : ReadO w' p v L := h.stay hx.size (fun hn k hk => hx.block k (h.lt hn k hk))
/-- An operation, in its cells. -/
def IsOpn (w : World) (cs : List Value) (o : Opn) : Prop := ∃ vd vp, cs = [.int .i64 o.kind, .int .i64 o.mode, .int .i64 o.keep, .int .i64 o.torn, S8 o.path, S8 o.dest, vd, vp] ∧ OldB vd o.data ∧ ReadO w IsEvI vp o.plan
/-! ### FewEvents -/
def evW (n : Nat) (e : Ev) : Nat := min (n + min e.data.length 40000 + min e.path.length 1000) 160000
def fewEv (es : List Ev) : Bool := decide (es.length ≤ 60) && (es.all (fun e => decide (e.path.length ≤ 400)) && decide (es.foldl evW 0 ≤ 40000))
/-! ### Few -/
def opW (n : Nat) (o : Opn) : Nat := min (n + min o.data.length 40000) 160000
def okOp (o : Opn) : Bool := fewEv o.plan && (decide (o.path.length ≤ 400) && decide (o.dest.length ≤ 400))
def fewOps (l : List Opn) : Bool := decide (l.length ≤ 100) && (l.all okOp && decide (l.foldl opW 0 ≤ 40000))
theorem IsOpn.length {w : World} {cs : List Value} {o : Opn} (h : IsOpn w cs o) : cs.length = 8 ∧ cs.all (·.oneCell') = true := by
  obtain ⟨vd, vp, rfl, h1, h3⟩ := h
  obtain ⟨_, _, rfl, _⟩ := h1.bytes
  obtain ⟨_, ⟨_, _, rfl, _⟩, _⟩ := h3
  exact ⟨rfl, by simp [Value.oneCell']⟩
abbrev IsOps (w : World) (v : Value) (l : List Opn) : Prop := ReadO w (IsOpn w) v l
end Go.Proofs.YtalpfoomkhhgnaaGreatDoor

/-! marlaw5: what comes in: operations, by their fields, their slices, their events, read as the texts say. Conditions: what one slice may hold. -/
namespace Go.Proofs.YtalpfoomkhhgnaaGreatDoor
open Go Go.ChangeShapes Go.WideShapes Go.ChangeAt Go.RowKit Go.Deep

theorem own : ownKnob Tryz.prog.godebug = none := by kernel_rfl
theorem laidOut : laidOutB Tryz.prog = true := by kernel_rfl
theorem env_of {W : World} (hs : W.ShapedOpen Tryz.prog) : Env W :=
  ⟨Go.Proofs.cell_of_shapedOpen_int (zero := #[.int .i64 0]) (t := 3) hs (of_decide_eq_true (by kernel_rfl)) (by kernel_rfl) rfl (by kernel_rfl) (by kernel_rfl) Tryz.underlying3⟩

theorem trodAll_below (hl : laidOutB Tryz.prog = true) {H : Type} {enc : TypeId × Value → H} {W W' : World} (hb : Below W.heap.size W W') : ∀ {ts : List TypeId} {vs : List Value} {ds : List (DataW H)} {ps : List MemPlace}, DataW.TrodAll enc Tryz.prog W 0 (fun _ => true) true ts vs ds ps → (∀ x ∈ ps, x.block < W.heap.size) → (∀ t ∈ ts, Tryz.prog.readableRec t = true ∧ t < Tryz.prog.types.size) →
    DataW.TrodAll enc Tryz.prog W' 0 (fun b => decide (b < W.heap.size)) true ts vs ds ps
  | [], vs, ds, ps, h, _, _ => by
    obtain ⟨rfl, rfl, rfl⟩ := trodAll_nil h
    exact trodAll_mk0
  | t :: ts, vs, ds, ps, h, hlt, hr => by
    obtain ⟨v, vs', d, ds', p, q, rfl, rfl, rfl, h0, h1⟩ := trodAll_cons h
    exact ⟨p, q, Below.trod hl (hr t (by simp)).1 (hr t (by simp)).2 h0 hb (fun x hx => hlt x (by simp [hx])), trodAll_below hl hb h1 (fun x hx => hlt x (by simp [hx])) (fun t ht => hr t (by simp [ht])), rfl⟩

theorem i64_wf {n : Int} (h : (Lit.int .i64 n).wf = true) : I64 n := by
  have h1 : IntKind.i64.min = -9223372036854775808 := rfl
  have h2 : IntKind.i64.max = 9223372036854775807 := rfl
  simp only [Lit.wf, Bool.and_eq_true, decide_eq_true_eq] at h
  unfold I64
  omega

section
variable {H : Type} {enc : TypeId × Value → H} {P : Program} {w : World} {base : Nat} {spare : Nat → Bool} {held : Bool}
end

/-! ### What one slice may hold, at any depth -/
def Szd {H : Type} (t : TypeId) (d : DataW H) : Prop := ∀ n ∈ d.weights Tryz.prog t, n ≤ reachBytes
theorem szd_arg {H : Type} {ts : List TypeId} {ds : List (DataW H)} {j : Nat} {t : TypeId} {d : DataW H} (h : (DataW.weightsEach Tryz.prog ts ds).all (· ≤ reachBytes) = true) (ht : ts[j]? = some t) (hd : ds[j]? = some d) : Szd t d := fun n hn => by
  have := List.all_eq_true.1 h _ (DataW.weights_mem_each ht hd n hn)
  simpa using this
theorem wAll_mem {H : Type} {P : Program} {e : TypeId} : ∀ {l : List (DataW H)} {d : DataW H}, d ∈ l → ∀ n ∈ d.weights P e, n ∈ DataW.weightsAll P e l
  | d' :: r, d, hd, n, hn => by
    simp only [DataW.weightsAll, List.mem_append]
    rcases List.mem_cons.1 hd with rfl | h
    · exact Or.inl hn
    · exact Or.inr (wAll_mem h n hn)
theorem szd_slice {H : Type} {t q : TypeId} {e s : List (DataW H)} (h : Szd t (.slice e s)) (hu : Tryz.prog.underlying t = some (.slice q)) : (e.length + s.length) * Tryz.prog.bytesOf q ≤ reachBytes ∧ ∀ d ∈ e, Szd q d := by
  refine ⟨h _ (by simp [DataW.weights, hu]), fun d hd n hn => h n ?_⟩
  simp only [DataW.weights, hu, List.mem_cons, List.mem_append]
  exact Or.inr (Or.inl (wAll_mem hd n hn))
section
variable {H : Type} {enc : TypeId × Value → H} {W : World}
theorem trod_i64 {n : Nat} {v : Value} {y : DataW H × List MemPlace} (h : DataW.trod enc Tryz.prog W 0 (fun _ => true) true n 3 [v] = some y) : ∃ z, v = .int .i64 z ∧ I64 z := by
  obtain ⟨z, hc, -, hw⟩ := DataW.trod_int Tryz.underlying3 h
  simp only [List.cons.injEq, and_true] at hc
  exact ⟨z, hc, i64_wf hw⟩
theorem trod_s8 {n : Nat} {v : Value} {y : DataW H × List MemPlace} (h : DataW.trod enc Tryz.prog W 0 (fun _ => true) true n 9 [v] = some y) : ∃ l : B8, v = S8 l := by
  obtain ⟨s, hc, -, -⟩ := DataW.trod_string Tryz.underlying9 h
  simp only [List.cons.injEq, and_true] at hc
  exact ⟨s.data.toList, hc⟩

theorem row_of_cells {a : Addr} {len cap : Nat} {cs : List Value} (hl : len ≤ cap) (hm : cap ≤ maxLen) (hn : len ≤ 140737488355328) (hc : ∀ i u, cs[i]? = some u → W.cell? (a.add i) = some u) : Row W (.slice (some a) len cap) len cs := by
  unfold maxLen at hm
  refine ⟨some a, cap, rfl, hl, by omega, hn, fun hne => ?_⟩
  obtain ⟨x, r, rfl⟩ : ∃ x r, cs = x :: r := by
    cases cs with
    | nil => exact (hne rfl).elim
    | cons x r => exact ⟨x, r, rfl⟩
  have hspot : a.spot = none := by
    have := World.cell?_spot (hc 0 x rfl)
    simpa [Addr.add] using this
  obtain ⟨b, o, sp⟩ := a
  simp only at hspot
  subst hspot
  refine ⟨b, o, rfl, fun i u hu => ?_⟩
  have hadd : (⟨b, o, none⟩ : Addr).add i = ⟨b, o + i, none⟩ := by unfold Addr.add; split <;> simp_all
  rw [← hadd]
  exact hc i u hu


theorem row_low {w : World} {v : Value} {n : Nat} {cs : List Value} (h : Row w v n cs) (hn : cs ≠ []) : ∀ k, v.ownBlock = some k → k < w.heap.size := by
  obtain ⟨a, cap, rfl, h1, h2, h3, h4⟩ := h
  obtain ⟨b, o, rfl, hc⟩ := h4 hn
  intro k hk
  cases cs with
  | nil => exact (hn rfl).elim
  | cons x r =>
    have := World.block_lt_of_cell? _ _ (hc 0 x rfl)
    have hb : b = k := by simpa [Value.ownBlock] using hk
    subst hb
    exact this
theorem flat_inv (m : Nat) (hm : 0 < m) (css : List (List Value)) (h : ∀ c ∈ css, c.length = m) (q : Nat) (u : Value) (hq : css.flatten[q]? = some u) : ∃ c, css[q / m]? = some c ∧ c[q % m]? = some u := by
  induction css generalizing q with
  | nil => simp at hq
  | cons c r ih =>
    have hc := h c (by simp)
    by_cases hl : q < m
    · refine ⟨c, by rw [Nat.div_eq_of_lt hl]; rfl, ?_⟩
      rw [Nat.mod_eq_of_lt hl]
      simpa [List.flatten_cons, List.getElem?_append_left (show q < c.length by omega)] using hq
    · rw [List.flatten_cons, List.getElem?_append_right (by omega), hc] at hq
      obtain ⟨d, h1, h2⟩ := ih (fun x hx => h x (by simp [hx])) (q - m) hq
      refine ⟨d, ?_, ?_⟩
      · have : q / m = (q - m) / m + 1 := by
          rw [Nat.div_eq_sub_div hm (by omega)]
        rw [this]
        exact h1
      · rw [Nat.mod_eq_sub_mod (by omega)]
        exact h2


theorem mul_ge {a b c : Nat} (h : a * b ≤ c) (hb : 1 ≤ b) : a ≤ c := Nat.le_trans (Nat.le_mul_of_pos_right a hb) h
/-- A slice of structs, from what each row says. -/
theorem readO_of {α : Type} (m : Nat) (hm0 : 0 < m) {a : Addr} {len cap : Nat} (d0 : List Value × α) (hl : len ≤ cap) (hm : cap ≤ maxLen) (hn : len ≤ 140737488355328) {p : List Value → α → Prop} (hp : ∀ c x, p c x → c.length = m)
    (key : ∀ i, i < len → ∃ ce : List Value × α, p ce.1 ce.2 ∧ ∀ j u, ce.1[j]? = some u → W.cell? (a.add (i * m + j)) = some u) : ∃ xs : List α, ReadO W p (.slice (some a) len cap) xs ∧ xs.length = len ∧ ∀ x ∈ xs, ∃ c, p c x := by
  have key2 : ∀ i, ∃ ce : List Value × α, i < len → p ce.1 ce.2 ∧ ∀ j u, ce.1[j]? = some u → W.cell? (a.add (i * m + j)) = some u := fun i => by
    by_cases h : i < len
    · obtain ⟨ce, h1⟩ := key i h
      exact ⟨ce, fun _ => h1⟩
    · exact ⟨d0, fun hc => (h hc).elim⟩
  have CE := fun i => (key2 i).choose_spec
  generalize hce : (fun i => (key2 i).choose) = ce at CE
  have CE' : ∀ i, i < len → p (ce i).1 (ce i).2 ∧ ∀ j u, (ce i).1[j]? = some u → W.cell? (a.add (i * m + j)) = some u := fun i hil => by
    have := CE i hil
    rw [← hce]
    exact this
  have hget : ∀ (i : Nat) c, ((List.range len).map fun i => (ce i).1)[i]? = some c → i < len ∧ c = (ce i).1 := fun i c hc => by
    have hil := (List.getElem?_eq_some_iff.1 hc).1
    simp only [List.length_map, List.length_range] at hil
    refine ⟨hil, ?_⟩
    rw [List.getElem?_map, List.getElem?_range hil] at hc
    exact (Option.some.inj hc).symm
  have hrow : Row W (.slice (some a) len cap) len ((List.range len).map fun i => (ce i).1).flatten := by
    refine row_of_cells hl hm hn fun q u hq => ?_
    obtain ⟨c, hc, hu⟩ := flat_inv m hm0 _ (fun c hc => by
      obtain ⟨i, hir, rfl⟩ := List.mem_map.1 hc
      exact hp _ _ (CE' i (by simpa using hir)).1) q u hq
    obtain ⟨hil, rfl⟩ := hget _ _ hc
    have := (CE' _ hil).2 _ u hu
    rwa [show q / m * m + q % m = q by rw [Nat.mul_comm]; exact Nat.div_add_mod q m] at this
  refine ⟨(List.range len).map fun i => (ce i).2, ⟨(List.range len).map fun i => (ce i).1, by rw [List.length_map, List.length_range]; exact hrow, fun hne => ?_, by simp, fun i c e hc he => ?_⟩, by simp, fun x hx => ?_⟩
  · refine row_low hrow fun h0 => ?_
    have hlen : 0 < len := by
      cases len with
      | zero => exact (hne rfl).elim
      | succ n => omega
    have h1 := hp _ _ (CE' 0 hlen).1
    have h2 : ((List.range len).map fun i => (ce i).1)[0]? = some (ce 0).1 := by rw [List.getElem?_map, List.getElem?_range hlen]; rfl
    have h3 := List.mem_of_getElem? h2
    have h4 := List.flatten_eq_nil_iff.1 h0 _ h3
    rw [h4] at h1
    simp at h1
    omega
  · obtain ⟨hil, rfl⟩ := hget _ _ hc
    rw [List.getElem?_map, List.getElem?_range hil] at he
    cases he
    exact (CE' i hil).1
  · obtain ⟨i, hir, rfl⟩ := List.mem_map.1 hx
    exact ⟨_, (CE' i (by simpa using hir)).1⟩
end

section
variable [Inhabited BaseW] {H : Type} {enc : TypeId × Value → H} {W : World}
end

end Go.Proofs.YtalpfoomkhhgnaaGreatDoor

/-! marlaw13.Few, patterns. Conditions: as each theorem states. -/
namespace Go.Proofs.YtalpfoomkhhgnaaGreatDoor
open Go Go.RowKit
set_option linter.unusedVariables false
set_option linter.unusedSimpArgs false
set_option linter.unusedSectionVars false
variable [Inhabited BaseW]

section
variable {ops : Array Oper} {rest : List Oper} {o : Oper} {a : Act} {Q : Exit → Act → World → Prop} {w : World}
end

theorem IsOpn.ext {w w' : World} {cs : List Value} {o : Opn} (h : IsOpn w cs o) (hx : Ext w w') : IsOpn w' cs o := by
  obtain ⟨vd, vp, rfl, h1, h2⟩ := h
  exact ⟨vd, vp, rfl, h1, h2.dExt hx⟩
theorem IsOps.ext {w w' : World} {v : Value} {l : List Opn} (h : IsOps w v l) (hx : Ext w w') : IsOps w' v l :=
  (h.stay hx.size (fun hn k hk => hx.block k (h.lt hn k hk))).mono (fun c x hc => hc.ext hx)

/-- marlaw13's operations. -/
structure Sop where
  kind : Int
  f : Opn
def IsSop (w : World) (cs : List Value) (o : Sop) : Prop := ∃ fs, cs = .int .i64 o.kind :: fs ∧ IsOpn w fs o.f
theorem IsSop.length {w : World} {cs : List Value} {o : Sop} (h : IsSop w cs o) : cs.length = 9 := by
  obtain ⟨fs, rfl, h⟩ := h
  simp [(h.length).1]
abbrev IsSops (w : World) (v : Value) (l : List Sop) : Prop := ReadO w (IsSop w) v l
def fewS (l : List Sop) : Bool := decide (l.length ≤ 60) && fewOps (l.map Sop.f)
end Go.Proofs.YtalpfoomkhhgnaaGreatDoor

/-! What comes in: operations of marlaw13, texts, rows, by their fields. Conditions: what one slice may hold. -/
namespace Go.Proofs.YtalpfoomkhhgnaaGreatDoor
open Go Go.ChangeShapes Go.WideShapes Go.ChangeAt Go.RowKit Go.Deep
set_option linter.unusedVariables false
set_option linter.unusedSimpArgs false
set_option linter.unusedSectionVars false

section
variable {H : Type} {enc : TypeId × Value → H} {P : Program} {w : World} {base : Nat} {spare : Nat → Bool} {held : Bool}
theorem slice_parts {t e : TypeId} {fs : Array Field} {fuel : Nat} {cs : List Value} {x : DataW H × List MemPlace} (ht : P.underlying t = some (.slice e)) (he : P.underlying e = some (.struct fs))
    (h : DataW.trod enc P w base spare held fuel t cs = some x) :
    (cs = [.slice none 0 0] ∧ x = (.nil, [])) ∨
    ∃ (a : Addr) (len cap m : Nat) (D : Nat → DataW H) (Pl : Nat → List MemPlace), cs = [.slice (some a) len cap] ∧ len ≤ cap ∧ cap ≤ maxLen ∧ m = (if spare a.block then cap else len) ∧
      x = (.slice ((List.range len).map D) ((List.range (m - len)).map fun j => D (len + j)), MemPlace.row a (m * P.cellsOf e) ++ (List.range m).flatMap Pl) ∧
      ∀ i, i < m → ∃ (ys : List (DataW H × List MemPlace)) (n : Nat) (cs' : List Value), D i = .agg (ys.map (·.1)) ∧ ys.length = fs.size ∧ cs'.length = P.cellsOf e ∧ (∀ j u, cs'[j]? = some u → w.cell? (a.add (i * P.cellsOf e + j)) = some u) ∧
        ∀ (j : Nat) (f : Field), fs[j]? = some f → ∃ y, ys[j]? = some y ∧ DataW.trod enc P w base spare held n f.type ((cs'.drop f.offset).take (P.cellsOf f.type)) = some y := by
  rcases open_slice ht h with h0 | ⟨a, len, cap, m, n, D, Pl, hcs, hb, hl, hm, hmm, hx, hi⟩
  · exact .inl h0
  · refine .inr ⟨a, len, cap, m, D, Pl, hcs, hl, hm, hmm, hx, fun i him => ?_⟩
    obtain ⟨cs', hc, ht'⟩ := hi i him
    obtain ⟨ys, n', hn', hy, hlen, hyl, hf⟩ := DataW.trod_struct he ht'
    obtain ⟨_, hcl, hat⟩ := World.cells?_some hc
    simp only [Prod.mk.injEq] at hy
    refine ⟨ys, n', cs', hy.1, hyl, hlen, fun j u hu => ?_, fun j f hj => ?_⟩
    · have hjl := (List.getElem?_eq_some_iff.1 hu).1
      rw [← Go.Deep.add_add, hat j (by omega)]
      exact hu
    · have hjl : j < fs.size := (Array.getElem?_eq_some_iff.1 hj).1
      have hys : ys[j]? = some (ys[j]'(by omega)) := List.getElem?_eq_getElem (by omega)
      exact ⟨_, hys, (hf j f hj).trans hys⟩
end
theorem cells_int : Tryz.prog.cellsOf 3 = 1 := by kernel_rfl
theorem cells_str : Tryz.prog.cellsOf 9 = 1 := by kernel_rfl
theorem list3v {α : Type} {l : List α} (h : l.length = 3) : ∃ x0 x1 x2, l = [x0, x1, x2] := by
  match l, h with
  | [x0, x1, x2], _ => exact ⟨x0, x1, x2, rfl⟩
theorem list2v {α : Type} {l : List α} (h : l.length = 2) : ∃ x0 x1, l = [x0, x1] := by
  match l, h with
  | [x0, x1], _ => exact ⟨x0, x1, rfl⟩
theorem cells_rw : Tryz.prog.cellsOf 30 = 3 := by kernel_rfl
theorem bytes_rw : 1 ≤ Tryz.prog.bytesOf 30 := of_decide_eq_true (by kernel_rfl)
theorem cells_ent : Tryz.prog.cellsOf 26 = 2 := by kernel_rfl
section
variable [Inhabited BaseW] {H : Type} {enc : TypeId × Value → H} {W : World}
end
section
variable {H : Type} {enc : TypeId × Value → H} {W : World}
set_option maxRecDepth 100000 in
theorem trod_rows {n : Nat} {v : Value} {y : DataW H × List MemPlace} (h : DataW.trod enc Tryz.prog W 0 (fun _ => true) true n 22 [v] = some y) (hb : Szd 22 y.1) : ∃ l : List Rw, IsRws W v l ∧ ∀ r ∈ l, I64 r.mode := by
  rcases slice_parts Tryz.underlying22 Tryz.underlying30 h with ⟨hcs, hx⟩ | ⟨a, len, cap, m, D, Pl, hcs, hl, hm, hmm, rfl, hi⟩
  · simp only [List.cons.injEq, and_true] at hcs
    subst hcs
    exact ⟨[], Row.nil _, by simp⟩
  · simp only [List.cons.injEq, and_true] at hcs
    subst hcs
    simp only [if_true] at hmm
    subst hmm
    obtain ⟨hs1, hs2⟩ := szd_slice hb Tryz.underlying22
    have hlen := mul_ge hs1 bytes_rw
    have hr := reachBytes_lt
    simp only [List.length_map, List.length_range] at hlen
    obtain ⟨xs, h1, -, h2⟩ := readO_of (W := W) (a := a) (len := len) (p := fun c (o : Rw) => c = rwC o ∧ I64 o.mode) 3 (by omega) ([], ⟨[], 0, []⟩) hl hm (by omega) (fun c x hx => by rw [hx.1]; rfl) (fun i hil => by
      obtain ⟨ys, k, cs', hD, hyl, hcl, hat, hf⟩ := hi i (by omega)
      rw [cells_rw] at hcl hat
      obtain ⟨x0, x1, x2, rfl⟩ := list3v hcl
      obtain ⟨y0, e0, t0⟩ : ∃ y, ys[0]? = some y ∧ DataW.trod enc Tryz.prog W 0 (fun _ => true) true k 9 (([x0, x1, x2].drop 0).take (Tryz.prog.cellsOf 9)) = some y := hf 0 _ rfl
      obtain ⟨y1, e1, t1⟩ : ∃ y, ys[1]? = some y ∧ DataW.trod enc Tryz.prog W 0 (fun _ => true) true k 26 (([x0, x1, x2].drop 1).take (Tryz.prog.cellsOf 26)) = some y := hf 1 _ rfl
      rw [cells_str] at t0
      rw [cells_ent] at t1
      have t1 : DataW.trod enc Tryz.prog W 0 (fun _ => true) true k 26 [x1, x2] = some y1 := t1
      obtain ⟨zs, k', hk', hy, hlen', hzl, hg⟩ := DataW.trod_struct Tryz.underlying26 t1
      have hzl2 : zs.length = 2 := hzl
      obtain ⟨z0, z1, rfl⟩ := list2v hzl2
      have s0 : DataW.trod enc Tryz.prog W 0 (fun _ => true) true k' 3 (([x1, x2].drop 0).take (Tryz.prog.cellsOf 3)) = some z0 := hg 0 _ rfl
      have s1 : DataW.trod enc Tryz.prog W 0 (fun _ => true) true k' 9 (([x1, x2].drop 1).take (Tryz.prog.cellsOf 9)) = some z1 := hg 1 _ rfl
      rw [cells_int] at s0
      rw [cells_str] at s1
      obtain ⟨pp, rfl⟩ := trod_s8 t0
      obtain ⟨mm, rfl, i0⟩ := trod_i64 s0
      obtain ⟨qq, rfl⟩ := trod_s8 s1
      exact ⟨(_, ⟨pp, mm, qq⟩), ⟨rfl, i0⟩, fun j u hu => hat j u hu⟩)
    obtain ⟨css, hrow, -, heach⟩ := h1
    have hcs : ∀ (css : List (List Value)) (L : List Rw), Each (fun c (o : Rw) => c = rwC o ∧ I64 o.mode) css L → css.flatten = L.flatMap rwC := by
      intro css L hE
      have h9 : css = L.map rwC := by
        obtain ⟨hEl, hEa⟩ := hE
        apply List.ext_getElem (by rw [List.length_map]; exact hEl)
        intro k h1 h2
        rw [List.length_map] at h2
        rw [List.getElem_map]
        exact (hEa k _ _ (List.getElem?_eq_getElem h1) (List.getElem?_eq_getElem h2)).1
      rw [h9, List.flatMap_def]
    refine ⟨xs, ?_, fun e he => by obtain ⟨c, hc⟩ := h2 e he; exact hc.2⟩
    rw [hcs css xs heach] at hrow
    exact hrow
set_option maxRecDepth 100000 in
/-- An argument: rows. -/
theorem arg_rows {base : Nat} {v : Value} {d : DataW H} {p : List MemPlace} {ts : List TypeId} {ds : List (DataW H)} {j : Nat}
    (hval : Value.okWide Tryz.prog W .any base 22 v) (h : DataW.Trod enc Tryz.prog W 0 (fun _ => true) true 22 v d p)
    (hsz : (DataW.weightsEach Tryz.prog ts ds).all (· ≤ reachBytes) = true) (ht : ts[j]? = some 22) (hd : ds[j]? = some d) : ∃ l : List Rw, IsRws W v l ∧ ∀ r ∈ l, I64 r.mode := by
  obtain ⟨a0, len, cap, rfl⟩ := okWide_slice Tryz.underlying22 hval
  obtain ⟨fuel, hf⟩ := h
  exact trod_rows (y := (d, p)) (by simpa [Value.cells] using hf) (szd_arg hsz ht hd)
end

end Go.Proofs.YtalpfoomkhhgnaaGreatDoor

/-! The roots of the primes, as a row lays them. Conditions: what the row lists. -/
namespace Go.Proofs.YtalpfoomkhhgnaaGreatDoor
open Go Go.ChangeShapes Go.WideShapes Go.ChangeAt Go.RowKit Go.Deep

def tabH : List Int := shaH.map fun x => (x.toNat : Int)
def tabK : List Int := shaK.map fun x => (x.toNat : Int)
theorem tab_h : Rows.laid_marline_sha_squares = (Lib.tabData .u32 tabH : DataW Unit) := by kernel_rfl
theorem tab_k : Rows.laid_marline_sha_cubes = (Lib.tabData .u32 tabK : DataW Unit) := by kernel_rfl
theorem block_of {W : World} {name : String} {zs : List Int} {g : Nat} {zero : Array Value} {t : TypeId} (hS : W.ShapedOpen Tryz.prog) (h : Lib.TabIs Tryz.prog W name .u32 zs) (hg : Tryz.prog.globalNamed name = some g) (hlt : g < Tryz.prog.globals.size)
    (h0 : ((begin Tryz.prog (fun _ _ => 0) default).world.heap[g]?).bind Obj.row? = some (zero, t)) : W.heap[g]? = some (.cells (zs.map fun z => Value.int .u32 z).toArray t (0, 0)) := by
  obtain ⟨cs, hh, -, -⟩ := hS.1 g zero t hlt h0
  unfold Lib.TabIs World.var? at h
  rw [hg] at h
  simp only [Option.bind_some, hh, Option.some.injEq] at h
  rw [hh, h]
theorem envS_of {W : World} {x : String × DataW Unit} {rest : List (String × DataW Unit)}
    (hL : laidMet Tryz.prog (x :: ("marline/sha.cubes", Rows.laid_marline_sha_cubes) :: ("marline/sha.squares", Rows.laid_marline_sha_squares) :: rest) W) (hS : W.ShapedOpen Tryz.prog) : EnvS W := by
  have hK := laidMet.tail hL
  have hH := laidMet.tail hK
  rw [tab_k] at hK
  rw [tab_h] at hH
  have tk := Lib.tabIs_of_head (g := 1) (by kernel_rfl) (by kernel_rfl) Tryz.underlying159 Tryz.underlying139 (by kernel_rfl) (by kernel_rfl) hK
  have th := Lib.tabIs_of_head (g := 0) (by kernel_rfl) (by kernel_rfl) Tryz.underlying146 Tryz.underlying139 (by kernel_rfl) (by kernel_rfl) hH
  have bk := block_of (g := 1) (zero := (List.replicate 64 (.int .u32 0)).toArray) (t := 159) hS tk (by kernel_rfl) (of_decide_eq_true (by kernel_rfl)) (by kernel_rfl)
  have bh := block_of (g := 0) (zero := (List.replicate 8 (.int .u32 0)).toArray) (t := 146) hS th (by kernel_rfl) (of_decide_eq_true (by kernel_rfl)) (by kernel_rfl)
  have ek : (tabK.map fun z => Value.int .u32 z) = shaK.map U32 := by unfold tabK; rw [List.map_map]; rfl
  have eh : (tabH.map fun z => Value.int .u32 z) = shaH.map U32 := by unfold tabH; rw [List.map_map]; rfl
  rw [ek] at bk
  rw [eh] at bh
  exact ⟨⟨_, bh⟩, ⟨_, bk⟩⟩

end Go.Proofs.YtalpfoomkhhgnaaGreatDoor
