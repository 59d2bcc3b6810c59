/- marref5.FS: UserWrite, UserRemove. Conditions: at most 7000000 ticks; short paths. -/
import Derived.Test.YtfgdmlmfgnhpaaaGreatDoorZaj
import Derived.Test.YtfgdmlmfgnhpaaaGreatDoorZaf
import Derived.Test.YtfgdmlmfgnhpaaaGreatDoorZag
import Derived.Test.YtfgdmlmfgnhpaaaGreatDoorZaa
import Derived.Test.YtfgdmlmfgnhpaaaGreatDoorZab

set_option linter.unusedVariables false
set_option linter.unusedSimpArgs false
set_option linter.unusedSectionVars false

/-! marlaw16.Few, table.Paths, Get, marref.Rises: what they answer. Conditions: as each theorem states. -/
namespace Go.Proofs.YtfgdmlmfgnhpaaaGreatDoor
open Go Go.RowKit Go.Sort
set_option linter.unusedVariables false
set_option linter.unusedSimpArgs false
set_option linter.unusedSectionVars false

set_option maxRecDepth 100000 in
theorem few16_any (v : Value) (l : List Rw) (w : World) (hv : IsRws w v l) :
    Calls Tryz.prog 38 #[v] w fun e w' => ∃ b, e = .returned (.bool b) ∧ w' = w ∧ (b = true → l.length ≤ 100 ∧ ∀ r ∈ l, r.path.length ≤ 400 ∧ r.id.length ≤ 400) := by
  obtain ⟨a, cap, rfl, l1, l2, l3, hg⟩ := hv.cells
  have HG : Hid _ := hg
  clear hv hg
  go_enter Tryz.func38, Tryz.ntmps38
  go_wp2_with fail
  go_loopw [3] (fun i wr => ∃ k : Nat, k ≤ l.length ∧ k ≤ 100 ∧ i = .int .i64 k ∧ wr = w ∧ Hid (∀ r ∈ l.take k, r.path.length ≤ 400 ∧ r.id.length ≤ 400)) (fun i _ => l.length - (intOf i).toNat)
  case atStart => exact ⟨0, Nat.zero_le _, Nat.zero_le _, rfl, rfl, fun r hr => by simp at hr⟩
  case round =>
  obtain ⟨k, hk, hk100, rfl, rfl, HJ⟩ := hrel
  by_cases hlt : k < l.length
  case neg =>
    have hkk : k = l.length := by omega
    subst hkk
    have HR : Hid (∀ r ∈ l, r.path.length ≤ 400 ∧ r.id.length ≤ 400) := by have := HJ.out; rwa [List.take_length] at this
    have hl21 : Hid (decide ((l.length : Int) ≤ 100) = true) := by rw [Hid, decide_eq_true_eq]; omega
    go_wp2
    go_ret
    exact ⟨true, by rw [← hl21.out]; rfl, rfl, fun _ => ⟨hk100, HR.out⟩⟩
  by_cases h100 : k < 100
  case neg =>
    have hz : k = 100 := by omega
    subst hz
    have hl9 : ¬ (l.length : Int) ≤ 100 := by omega
    go_wp2
    go_ret
    first | exact ⟨false, rfl, rfl, fun h => absurd h (by decide)⟩ | exact .inl ⟨rfl, rfl⟩
  obtain ⟨x, hx⟩ : ∃ x, l[k]? = some x := ⟨_, List.getElem?_eq_getElem hlt⟩
  obtain ⟨bb, oo, rfl, y0, -, y2⟩ := HG.out k x hx
  have HSN : Hid _ := take_snocR hx
  clear hx
  by_cases hp : (400 : Int) < (x.path.length : Int)
  · go_wp2
    go_ret
    first | exact ⟨false, rfl, rfl, fun h => absurd h (by decide)⟩ | exact .inl ⟨rfl, rfl⟩
  by_cases hi : (400 : Int) < (x.id.length : Int)
  · go_wp2
    go_ret
    first | exact ⟨false, rfl, rfl, fun h => absurd h (by decide)⟩ | exact .inl ⟨rfl, rfl⟩
  have HJX : Hid (∀ r ∈ l.take (k + 1), r.path.length ≤ 400 ∧ r.id.length ≤ 400) := by
    unfold Hid
    rw [HSN.out]
    intro r hr
    rcases List.mem_append.1 hr with hr | hr
    · exact HJ.out r hr
    · obtain rfl : r = x := by simpa using hr
      exact ⟨by omega, by omega⟩
  go_wp2
  go_roundw
  case rel => exact ⟨k + 1, by omega, by omega, by go_num, trivial, HJX⟩
  case measure => simp [intOf]; omega

set_option maxRecDepth 100000 in
set_option maxHeartbeats 4000000 in
theorem tpaths_any (v : Value) (us : List Value) (ls : List (List Rw)) (w : World) (hv : IsTbs w v us ls) (hl : (pathsLs ls).length ≤ 1000000) :
    Calls Tryz.prog 42 #[v] w fun e w' => (∃ v', e = .returned v' ∧ w'.ownsRow w.heap.size 9 1 v' (uniqT (pathsLs ls)).length ((uniqT (pathsLs ls)).map S8)) ∧ Ext w w' := by
  obtain ⟨hr, hul, hea⟩ := hv
  obtain ⟨a, c, rfl, l1, l2, l3, hg⟩ := hr
  rw [hul] at l1 l3 ⊢
  have HUL : Hid _ := hul
  have HEA : Hid _ := hea
  have HG : Hid _ := hg
  clear hul hea hg
  go_enter Tryz.func42, Tryz.ntmps42
  go_wp2_with fail
  go_loopw [3, 10] (fun v i wr => ∃ k : Nat, k ≤ ls.length ∧ i = .int .i64 k ∧ Hid (wr.ownsRow w.heap.size 9 1 v (pathsLs (ls.take k)).length ((pathsLs (ls.take k)).map S8)) ∧ Hid (Ext w wr)) (fun _ i _ => ls.length - (intOf i).toNat)
  case atStart => exact ⟨0, Nat.zero_le _, rfl, World.ownsRow_nil _ _ _ _, Ext.refl _⟩
  case round =>
  obtain ⟨k, hk, rfl, HOW, HX⟩ := hrel
  have hpl := pathsLs_len2 ls k
  by_cases hlt : k < ls.length
  case neg =>
    have hkk : k = ls.length := by omega
    subst hkk
    have hst : IsStrs wr u3 (pathsLs ls) := by
      have h9 := HOW.out
      rw [List.take_length] at h9
      exact Row.of_owns h9 (by omega)
    have HSZ : Hid _ := HX.out.size
    have hwu := wuniq_any hst hl
    have HWU : Hid _ := hwu
    obtain ⟨sa, sc, he, -⟩ := hst.get
    subst he
    clear hst hwu
    go_wp2_with fail
    go_at_call 125
    refine Calls.mono HWU.out ?_
    rintro e w2 ⟨⟨v', rfl, ho⟩, hx2⟩
    have HO : Hid _ := World.ownsRow.mono ho HSZ.out
    have HX2 : Hid (Ext w w2) := HX.out.trans hx2
    clear ho hx2
    go_wp2
    go_ret
    exact ⟨⟨_, rfl, HO.out⟩, HX2.out⟩
  obtain ⟨l, hll⟩ : ∃ l, ls[k]? = some l := ⟨_, List.getElem?_eq_getElem hlt⟩
  obtain ⟨u, huu⟩ : ∃ u, us[k]? = some u := ⟨_, List.getElem?_eq_getElem (by rw [HUL.out]; exact hlt)⟩
  obtain ⟨bb, oo, rfl, hc⟩ := HG.out (by intro h0; rw [h0] at huu; simp at huu)
  have y1 := HX.out.cell (hc k u huu)
  have hrw := HEA.out k u l huu hll
  obtain ⟨ra, rc, rfl, r1, r2, r3, hrg⟩ := hrw.cells
  have HRG : Hid _ := hrg
  have HSN : Hid _ := pathsLs_snoc hll
  have hpl2 : (pathsLs (ls.take k)).length + l.length ≤ 1000000 := by
    have := pathsLs_len2 ls (k + 1)
    rw [HSN.out, List.length_append, List.length_map] at this
    omega
  obtain ⟨P, hP⟩ : ∃ P, pathsLs (ls.take k) = P := ⟨_, rfl⟩
  rw [hP] at HOW HSN hpl hpl2
  have HOW0 : Hid (wr.ownsRow w.heap.size 9 1 u3 (P.length + 0) ((P ++ (l.take 0).map (·.path)).map S8)) := by
    have h9 := HOW.out
    unfold Hid
    rw [List.take_zero, List.map_nil, List.append_nil]
    exact h9
  clear hc hll huu hrw hrg hP HOW
  go_wp2_with fail
  go_loopw [3, 16] (fun v i wq => ∃ j : Nat, j ≤ l.length ∧ i = .int .i64 j ∧ Hid (wq.ownsRow w.heap.size 9 1 v (P.length + j) ((P ++ (l.take j).map (·.path)).map S8)) ∧ Hid (Ext w wq)) (fun _ i _ => l.length - (intOf i).toNat)
  case atStart => exact ⟨0, Nat.zero_le _, rfl, HOW0, HX⟩
  case round =>
  clear y1 HOW0 HX
  obtain ⟨j, hj, rfl, HOW, HX⟩ := hrel
  by_cases hjl : j < l.length
  case neg =>
    have hkk : j = l.length := by omega
    have HOX : Hid (wr.ownsRow w.heap.size 9 1 u3 (pathsLs (ls.take (k + 1))).length ((pathsLs (ls.take (k + 1))).map S8)) := by
      have h9 := HOW.out
      rw [hkk, List.take_length] at h9
      unfold Hid
      rw [HSN.out, List.length_append, List.length_map]
      exact h9
    clear hkk HOW
    go_wp2_with fail
    go_roundw
    case rel => exact ⟨k + 1, by omega, by go_num, HOX, HX⟩
    case measure => simp [intOf]; omega
  obtain ⟨x, hx⟩ : ∃ x, l[j]? = some x := ⟨_, List.getElem?_eq_getElem hjl⟩
  obtain ⟨rb, ro, rfl, c0, c1, c2⟩ := HRG.out j x hx
  have y0 := HX.out.cell c0
  have y1 := HX.out.cell c1
  have y2 := HX.out.cell c2
  have HJN : Hid _ := map_take_snoc hx
  have hlen : (P ++ (l.take j).map (·.path)).length = P.length + j := by rw [List.length_append, List.length_map, List.length_take]; omega
  have HLEN : Hid _ := hlen
  clear c0 c1 c2 hx hlen
  go_upto_region 8 with fail
  obtain ⟨w4, hw4⟩ : ∃ w4, w4 = wr.alloc (.cells #[S8 x.path, .int .i64 x.mode, S8 x.id] 85) := ⟨_, rfl⟩
  have hx4 : Ext wr w4 := by rw [hw4]; exact (Ext.refl _).alloc _
  have hb4 : w4.heap[wr.heap.size]? = some (.cells #[S8 x.path, .int .i64 x.mode, S8 x.id] 85 (0, 0)) := by rw [hw4]; exact alloc_at _ _
  rw [← hw4]
  obtain ⟨z0, z1, z2⟩ := cellsAt3 hb4
  have HX4 : Hid (Ext w w4) := HX.out.trans hx4
  have hown4 := owns_ext HOW.out hx4
  have hsz := HX4.out.size
  obtain ⟨gi, hgi⟩ : ∃ gi, wr.heap.size = gi := ⟨_, rfl⟩
  rw [hgi] at z0 ⊢
  clear hw4 hx4 hb4 hgi z1 z2 y0 y1 y2
  go_wp2_with (at_builtin; go_must (refine app_str rfl _ _ rfl w.heap.size _ (P.length + j) _ rfl (hown4.alloc _) w4.heap.size 1 1 [x.path] rfl rfl (alloc_at _ _) (by omega) (by simp; omega) ?_; intro v' w3 hown3 hg3))
  go_roundw
  case rel =>
    refine ⟨j + 1, by omega, by go_num, ?_, owns_ext_app (HX4.out.alloc _) (hown4.alloc _) hg3⟩
    unfold Hid
    rw [HJN.out, ← List.append_assoc]
    exact hown3
  case measure => simp [intOf]; omega

set_option maxRecDepth 100000 in
set_option maxHeartbeats 4000000 in
theorem tget_any (v : Value) (l : List Rw) (p : B8) (w : World) (hv : IsRws w v l) :
    Calls Tryz.prog 44 #[v, S8 p] w fun e w' => e = .returned (entV (entG l p)) ∧ Ext w w' := by
  obtain ⟨a, cap, rfl, l1, l2, l3, hg⟩ := hv.cells
  have HG : Hid _ := hg
  have htp : (⟨p.toArray⟩ : ByteArray).toList = p := Lib.toList_data _
  clear hv hg
  go_enter Tryz.func44, Tryz.ntmps44
  go_upto_region 1 with fail
  obtain ⟨w1, hw1⟩ : ∃ w1, w1 = w.alloc (.cells #[.int .i64 0, S8 []] 83) := ⟨_, rfl⟩
  have HX1 : Hid (Ext w w1) := by rw [hw1]; exact (Ext.refl _).alloc _
  have HB1 : Hid (w1.heap[w.heap.size]? = some (.cells #[.int .i64 0, S8 []] 83 (0, 0))) := by rw [hw1]; exact alloc_at _ _
  obtain ⟨g, hgz⟩ : ∃ g, w.heap.size = g := ⟨_, rfl⟩
  have HGZ : Hid _ := hgz
  have HW1 : Hid _ := hw1
  rw [hgz] at HB1
  first | rw [← hw1, hgz] | (rw [← HW1.out, hgz])
  clear hw1 hgz HW1
  go_wp2_with fail
  go_loopw [9] (fun i wr => ∃ k : Nat, k ≤ l.length ∧ i = .int .i64 k ∧ Hid (Ext w1 wr) ∧ Hid (∀ r ∈ l.take k, r.path ≠ p)) (fun i _ => l.length - (intOf i).toNat)
  case atStart => exact ⟨0, Nat.zero_le _, rfl, Ext.refl _, fun r hr => by simp at hr⟩
  case round =>
  obtain ⟨k, hk, rfl, HXR, HN⟩ := hrel
  have HBR : Hid _ := HXR.out.row HB1.out
  have hb1 := HBR.out
  by_cases hlt : k < l.length
  case neg =>
    have hkk : k = l.length := by omega
    subst hkk
    have HR : Hid (entG l p = (0, [])) := ent_none (by have := HN.out; rwa [List.take_length] at this)
    go_wp2_with (refine wpList_store_row rfl 83 (.tmp 4) (.tmp 20) rfl g #[.int .i64 0, S8 []] rfl rfl 83 _ HBR.out size_ent rfl (by simp [Value.oneCell']) ?_)
    refine bodyPost_ret (results_cell_row rfl _ _ g 83 #[.int .i64 0, S8 []] (0, 0) _ rfl (setRow_heap _ _ _ _ _ _ HBR.out) Tryz.underlying83 rfl size_ent) rfl ?_
    exact ⟨by rw [HR.out]; rfl, Ext.but (HX1.out.trans HXR.out) (setRow_grown _ _ _) (Nat.le_of_eq HGZ.out)⟩
  obtain ⟨x, hx⟩ : ∃ x, l[k]? = some x := ⟨_, List.getElem?_eq_getElem hlt⟩
  obtain ⟨bb, oo, rfl, c0, c1, c2⟩ := HG.out k x hx
  have hxw := HX1.out.trans HXR.out
  have y0 := hxw.cell c0
  have y1 := hxw.cell c1
  have y2 := hxw.cell c2
  have htx : (⟨x.path.toArray⟩ : ByteArray).toList = x.path := Lib.toList_data _
  have HX : Hid _ := hx
  obtain ⟨bq, hbq⟩ : ∃ bq, (x.path == p) = bq := ⟨_, rfl⟩
  clear c0 c1 c2 hx hxw
  go_upto_region 4 with fail
  obtain ⟨w4, hw4⟩ : ∃ w4, w4 = wr.alloc (.cells #[S8 x.path, .int .i64 x.mode, S8 x.id] 85) := ⟨_, rfl⟩
  have hx4 : Ext wr w4 := by rw [hw4]; exact (Ext.refl _).alloc _
  have hb4 : w4.heap[wr.heap.size]? = some (.cells #[S8 x.path, .int .i64 x.mode, S8 x.id] 85 (0, 0)) := by rw [hw4]; exact alloc_at _ _
  rw [← hw4]
  obtain ⟨z0, z1, z2⟩ := cellsAt3 hb4
  have HX4 : Hid (Ext w1 w4) := HXR.out.trans hx4
  have HB4 : Hid _ := hx4.row HBR.out
  obtain ⟨gi, hgi⟩ : ∃ gi, wr.heap.size = gi := ⟨_, rfl⟩
  rw [hgi] at z0 z1 z2 ⊢
  clear hw4 hx4 hb4 hgi y0 y1 y2 hb1
  cases bq with
  | true =>
    obtain rfl : x.path = p := by simpa using hbq
    have HR : Hid (entG l x.path = (x.mode, x.id)) := ent_at HN.out HX.out
    go_wp2_with (refine wpList_store_row rfl 83 (.tmp 4) (.tmp 18) rfl g #[.int .i64 x.mode, S8 x.id] rfl rfl 83 _ HB4.out size_ent rfl (by simp [Value.oneCell']) ?_)
    refine bodyPost_ret (results_cell_row rfl _ _ g 83 #[.int .i64 x.mode, S8 x.id] (0, 0) _ rfl (setRow_heap _ _ _ _ _ _ HB4.out) Tryz.underlying83 rfl size_ent) rfl ?_
    exact ⟨by rw [HR.out]; rfl, Ext.but (HX1.out.trans HX4.out) (setRow_grown _ _ _) (Nat.le_of_eq HGZ.out)⟩
  | false =>
    have HNX : Hid (∀ r ∈ l.take (k + 1), r.path ≠ p) := ne_snoc HN.out HX.out (by simpa using hbq)
    go_wp2
    go_roundw
    case rel => exact ⟨k + 1, by omega, by go_num, HX4, HNX⟩
    case measure => simp [intOf]; omega

/-- Is a text behind the one ahead of it, at each place from 1 on? -/
theorem rise_steps {l : List B8} (h : ∀ k a b, l[k]? = some a → l[k + 1]? = some b → ltB a b = true) : riseT l := by
  have hd : ∀ (d i : Nat) (x y : B8), l[i]? = some x → l[i + 1 + d]? = some y → ltB x y = true := by
    intro d
    induction d with
    | zero => exact h
    | succ d ih =>
      intro i x y hx hy
      have hm := (List.getElem?_eq_some_iff.1 hy).1
      have hz : l[i + 1 + d]? = some l[i + 1 + d] := List.getElem?_eq_getElem (by omega)
      exact lt_trans' (ih i x _ hx hz) (h (i + 1 + d) _ y hz hy)
  refine List.pairwise_iff_getElem.2 fun i j hi hj hij => ?_
  exact hd (j - i - 1) i _ _ (List.getElem?_eq_getElem hi) (by rw [show i + 1 + (j - i - 1) = j by omega]; exact List.getElem?_eq_getElem hj)
def RisePost (l : List B8) (e : Ending) : Prop := ∃ c : Bool, e = .returned (.bool c) ∧ (c = true ↔ riseT l)

set_option maxRecDepth 100000 in
set_option maxHeartbeats 4000000 in
theorem rises16_any (v : Value) (l : List B8) (w : World) (hv : IsStrs w v l) :
    Calls Tryz.prog 28 #[v] w fun e w' => RisePost l e ∧ Ext w w' := by
  obtain ⟨a, cap, rfl, l1, l2, l3, hg⟩ := hv.get
  have HG : Hid _ := hg
  clear hv hg
  go_enter Tryz.func28, Tryz.ntmps28
  go_wp2_with fail
  go_loopw [3] (fun i wr => ∃ k : Nat, k ≤ l.length ∧ i = .int .i64 ((k : Int) + 1) ∧ Hid (∀ j a b, j < k → l[j]? = some a → l[j + 1]? = some b → ltB a b = true) ∧ Hid (Ext w wr)) (fun i _ => l.length + 1 - (intOf i).toNat)
  case atStart => exact ⟨0, Nat.zero_le _, rfl, fun j a b hj => absurd hj (Nat.not_lt_zero _), Ext.refl _⟩
  case round =>
  obtain ⟨k, hk, rfl, HT, HX⟩ := hrel
  by_cases hlt : k + 1 < l.length
  case neg =>
    have HR : Hid (riseT l) := rise_steps (fun j a b ha hb => HT.out j a b (by have := (List.getElem?_eq_some_iff.1 hb).1; omega) ha hb)
    have hn : ¬ ((k : Int) + 1 < (l.length : Int)) := by omega
    go_wp2
    go_ret
    exact ⟨⟨true, rfl, fun _ => HR.out, fun _ => rfl⟩, HX.out⟩
  obtain ⟨x, hx⟩ : ∃ x, l[k]? = some x := ⟨_, List.getElem?_eq_getElem (by omega)⟩
  obtain ⟨y, hy⟩ : ∃ y, l[k + 1]? = some y := ⟨_, List.getElem?_eq_getElem hlt⟩
  obtain ⟨bb, oo, rfl, hc⟩ := HG.out k (by omega)
  have x0 := HX.out.cell (hc k (by omega))
  have y0 := HX.out.cell (hc (k + 1) hlt)
  rw [show l.getD k [] = x by rw [List.getD_eq_getElem?_getD, hx]; rfl] at x0
  rw [show l.getD (k + 1) [] = y by rw [List.getD_eq_getElem?_getD, hy]; rfl] at y0
  have HXK : Hid _ := hx
  have HYK : Hid _ := hy
  have hlt2 : (k : Int) + 1 < (l.length : Int) := by omega
  have hlt3 : (k : Int) < (l.length : Int) := by omega
  have hlt4 : (0 : Int) ≤ (k : Int) + 1 := by omega
  have hwk : IntKind.i64.wrap (k : Int) = (k : Int) := IntWalk.i64_in _ (by omega)
  have htn : ((k : Int) + 1).toNat = k + 1 := by omega
  clear hc hx hy
  rcases leT_cases y x with ⟨h1, h2, h3⟩ | ⟨h1, h2⟩ | ⟨h1, h2, h3⟩
  · have HTX : Hid (∀ j a b, j < k + 1 → l[j]? = some a → l[j + 1]? = some b → ltB a b = true) := fun j a b hj ha hb => by
      by_cases hjk : j = k
      · subst hjk
        rw [HXK.out] at ha
        rw [HYK.out] at hb
        cases ha; cases hb
        exact h1
      · exact HT.out j a b (by omega) ha hb
    clear h1
    go_upto_region 4 with fail
    go_quiet (fail)
    have hxx := fun n => HX.out.trans (Ext.drawn wr n)
    clear x0 y0
    go_wp2_with fail
    go_roundw
    case rel => exact ⟨k + 1, by omega, by go_num, HTX, hxx _⟩
    case measure => simp [intOf]; omega
  · have HN : Hid (¬ riseT l) := fun hr => by
      have := rise_lt hr HXK.out HYK.out (Nat.lt_succ_self _)
      rw [h1] at this
      cases this
    clear h1
    go_upto_region 4 with fail
    go_quiet (fail)
    go_wp2
    go_ret
    exact ⟨⟨false, rfl, fun h => (by cases h), fun h => (HN.out h).elim⟩, HX.out.trans (Ext.drawn _ _)⟩
  · have HN : Hid (¬ riseT l) := fun hr => by
      have := rise_lt hr HXK.out HYK.out (Nat.lt_succ_self _)
      rw [h1] at this
      cases this
    clear h1
    go_upto_region 4 with fail
    go_quiet (fail)
    go_wp2
    go_ret
    exact ⟨⟨false, rfl, fun h => (by cases h), fun h => (HN.out h).elim⟩, HX.out.trans (Ext.drawn _ _)⟩

end Go.Proofs.YtfgdmlmfgnhpaaaGreatDoor

/-! marref5.apply: a change of a list of files. Conditions: at most 10000000 files; short paths. -/
namespace Go.Proofs.YtfgdmlmfgnhpaaaGreatDoor
open Go Go.RowKit

/-- What a change hands back: a new list, or the one that it was given. -/
def NewOr (w : World) (v v' : Value) : Prop := ∀ k, v'.ownBlock = some k → v.ownBlock = some k ∨ w.heap.size ≤ k
def ApplyPost (R : Nat → Prop) (w : World) (v : Value) (l : Files) (e : Ending) (w' : World) : Prop := (∃ v', e = .returned v' ∧ IsRows R w' v' l ∧ NewOr w v v') ∧ Ext w w'
theorem OwnRows.low {base base' : Nat} {R : Nat → Prop} {w : World} {v : Value} {l : Files} (h : OwnRows base R w v l) (hb : base' ≤ base) : OwnRows base' R w v l := by
  obtain ⟨css, h1, h2⟩ := h
  exact ⟨css, owns_low h1 hb, h2⟩
theorem OwnRows.ext {base : Nat} {R : Nat → Prop} {w w' : World} {v : Value} {l : Files} (h : OwnRows base R w v l) (hx : Ext w w') : OwnRows base R w' v l := by
  obtain ⟨css, h1, h2⟩ := h
  exact ⟨css, owns_ext h1 hx, Each.imp h2 (fun c x hc => IsRowR.keepR hc (KeepR.of_keep (KeepB.of_ext hx)))⟩
theorem ApplyPost.own {R : Nat → Prop} {w wx w' : World} {v v' : Value} {l : Files} (h : OwnRows wx.heap.size R w' v' l) (hx : w.heap.size ≤ wx.heap.size) (hl : l.length ≤ 100000000) (hw : Ext w w') : ApplyPost R w v l (.returned v') w' :=
  ⟨⟨_, rfl, h.rows hl, fun k hk => .inr (Nat.le_trans hx (h.lt hk).1)⟩, hw⟩

end Go.Proofs.YtfgdmlmfgnhpaaaGreatDoor

/-! marref5.FS: change: a change is done. Conditions: at most 10000000 files, changes, ticks. -/
namespace Go.Proofs.YtfgdmlmfgnhpaaaGreatDoor
open Go Go.RowKit
variable [Inhabited BaseW]

section
variable {ops : Array Oper} {rest : List Oper} {o : Oper} {a : Act} {Q : Exit → Act → World → Prop} {w : World}
end

theorem IsOp.ext {R : Nat → Prop} {w w' : World} {cs : List Value} {c : Ch} (h : IsOp R w cs c) (hx : Ext w w') : IsOp R w' cs c := h.keepR (KeepR.of_keep (KeepB.of_ext hx))
/-- A change with its stamp. -/
theorem IsOp.stamp {R : Nat → Prop} {w : World} {kind : Int} {p q : B8} {mode time t2 : Int} {a : Option Addr} {n cap : Nat} {c : Ch} {t : Nat} (h : IsOp R w [.int .i64 kind, S8 p, S8 q, .int .i64 mode, .slice a n cap, .int .i64 time] c)
    (hk : (kind = 1 ∧ ∃ f, c = .put q f ∧ p = [] ∧ f.mode = mode ∧ f.data.length = n ∧ f.time = time) ∨ (kind ≠ 1 ∧ ∀ t, c.at t = c)) (ht : t2 = if kind = 1 then (t : Int) else time) :
    IsOp R w [.int .i64 kind, S8 p, S8 q, .int .i64 mode, .slice a n cap, .int .i64 t2] (c.at t) := by
  rcases hk with ⟨rfl, f, rfl, rfl, rfl, rfl, rfl⟩ | ⟨hk, hat⟩
  · obtain ⟨h1, v, he, hd⟩ := h
    rw [if_pos rfl] at ht
    subst ht
    simp only [List.cons.injEq, true_and, and_true] at he
    exact ⟨h1, _, rfl, he ▸ hd⟩
  · rw [if_neg hk] at ht
    rw [hat, ht]
    exact h

end Go.Proofs.YtfgdmlmfgnhpaaaGreatDoor

/-! marref1.Under: what it answers. Conditions: texts of at most 10000000 signs. -/
namespace Go.Proofs.YtfgdmlmfgnhpaaaGreatDoor
open Go Go.RowKit

theorem cut_snoc (c : UInt8) : ∀ l : B8, cut c (l ++ [c]) = cut c l ++ [[]]
  | [] => by simp [cut]
  | x :: l => by
    have ih := cut_snoc c l
    rw [List.cons_append, cut, cut]
    split
    · rw [ih]; rfl
    · rw [ih]
      cases hc : cut c l with
      | nil => exact absurd hc (cut_ne c l)
      | cons h t => rfl
theorem path_end {l : B8} (h : pathB (l ++ [47]) = true) : False := by
  unfold pathB at h
  simp only [Bool.and_eq_true, List.all_eq_true] at h
  have := h.2.1 [] (by rw [cut_snoc]; simp)
  revert this; decide
theorem under_eq {d s : B8} (hs : pathB s = true) : isUnder d s = true ↔ d.length + 1 < s.length ∧ s.take d.length = d ∧ s[d.length]? = some 47 := by
  unfold isUnder
  rw [List.isPrefixOf_iff_prefix]
  constructor
  · rintro ⟨t, rfl⟩
    have ht : t ≠ [] := by
      rintro rfl
      rw [List.append_nil] at hs
      exact path_end hs
    have h1 := List.length_pos_iff.2 ht
    refine ⟨by simp; omega, by simp, by simp⟩
  · rintro ⟨h1, h2, h3⟩
    refine ⟨s.drop (d.length + 1), ?_⟩
    have e := List.take_append_drop (d.length + 1) s
    rw [List.take_add_one, h2, h3] at e
    exact e

set_option maxRecDepth 100000 in
set_option maxHeartbeats 1000000 in
theorem runder_any (d s : B8) (w : World) (hd : d.length ≤ 10000000) (hs : s.length ≤ 10000000) :
    Calls Tryz.prog 41 #[S8 d, S8 s] w fun e w' => e = .returned (.bool (pathB d && (pathB s && isUnder d s))) ∧ Ext w w' := by
  have hts : (⟨s.toArray⟩ : ByteArray).toList = s := Lib.toList_data _
  have htd : (⟨d.toArray⟩ : ByteArray).toList = d := Lib.toList_data _
  go_enter Tryz.func41, Tryz.ntmps41
  go_wp2_with fail
  go_at_call 124
  refine (rpath_any d _ hd).mono ?_
  rintro e w1 ⟨rfl, hx1⟩
  cases hp1 : pathB d
  · have HP1 : Hid _ := hp1
    clear hp1
    go_wp2
    go_ret
    exact ⟨ret_b (by rw [HP1.out]; rfl), hx1⟩
  have HP1 : Hid _ := hp1
  clear hp1
  go_wp2_with fail
  go_at_call 124
  refine (rpath_any s _ hs).mono ?_
  rintro e w2 ⟨rfl, hx2⟩
  cases hp2 : pathB s
  · have HP2 : Hid _ := hp2
    clear hp2
    go_wp2
    go_ret
    exact ⟨ret_b (by rw [HP1.out, HP2.out]; rfl), hx1.trans hx2⟩
  have HP2 : Hid _ := hp2
  have HU : Hid _ := @under_eq d s hp2
  clear hp2
  by_cases h1 : d.length + 1 < s.length
  · have h1i : (d.length : Int) + 1 < (s.length : Int) := by omega
    have hidx : d.length < s.length := by omega
    have hex : ((⟨s.toArray⟩ : ByteArray).extract 0 d.length).toList = s.take d.length := by
      rw [extract_list ⟨s.toArray⟩ 0 d.length (Nat.zero_le _) (by show d.length ≤ s.length; omega)]
      simp [Lib.toList_data]
    have hget : (⟨s.toArray⟩ : ByteArray)[d.length]'(by show d.length < s.length; exact hidx) = s[d.length] := rfl
    obtain ⟨bq, hbq⟩ : ∃ bq, (((⟨s.toArray⟩ : ByteArray).extract 0 d.length).toList == d) = bq := ⟨_, rfl⟩
    have HB : Hid ((s.take d.length == d) = bq) := by unfold Hid; rw [← hex]; exact hbq
    have HG : Hid _ := hget
    clear hex hget
    cases bq with
    | true =>
      go_wp2
      go_ret
      refine ⟨ret_b ?_, hx1.trans hx2⟩
      rw [HP1.out, HP2.out, Bool.true_and, Bool.true_and]
      have h2 : s.take d.length = d := by simpa using HB.out
      rw [Bool.eq_iff_iff, HU.out, HG.out]
      constructor
      · intro h3
        have h4 : s[d.length].toNat = 47 := by have := beq_iff_eq.1 h3; omega
        refine ⟨h1, h2, ?_⟩
        rw [List.getElem?_eq_getElem hidx]
        exact congrArg some (UInt8.toNat_inj.1 h4)
      · rintro ⟨_, _, h3⟩
        rw [List.getElem?_eq_getElem hidx] at h3
        rw [Option.some.inj h3]
        rfl
    | false =>
      have HF : Hid (isUnder d s = false) := by
        unfold Hid
        cases hu : isUnder d s with
        | false => rfl
        | true =>
          have := HB.out
          rw [(HU.out.1 hu).2.1] at this
          simp at this
      go_wp2
      go_ret
      exact ⟨ret_b (by rw [HP1.out, HP2.out, HF.out]; rfl), hx1.trans hx2⟩
  · have h1i : ¬ (d.length : Int) + 1 < (s.length : Int) := by omega
    have HF : Hid (isUnder d s = false) := by
      unfold Hid
      cases hu : isUnder d s with
      | false => rfl
      | true => exact absurd (HU.out.1 hu).1 h1
    go_wp2
    go_ret
    exact ⟨ret_b (by rw [HP1.out, HP2.out, HF.out]; rfl), hx1.trans hx2⟩

end Go.Proofs.YtfgdmlmfgnhpaaaGreatDoor

/-! marref5.may: may a file stand at a path? Conditions: all paths may be. -/
namespace Go.Proofs.YtfgdmlmfgnhpaaaGreatDoor
open Go Go.RowKit

end Go.Proofs.YtfgdmlmfgnhpaaaGreatDoor

/-! marref5.FS: safe, drop. Conditions: at most 9000000 ticks; short paths. -/
namespace Go.Proofs.YtfgdmlmfgnhpaaaGreatDoor
open Go Go.RowKit
variable [Inhabited BaseW]

section
variable {ops : Array Oper} {rest : List Oper} {o : Oper} {a : Act} {Q : Exit → Act → World → Prop} {w : World}
end
end Go.Proofs.YtfgdmlmfgnhpaaaGreatDoor

/-! marref.CopyBytes; marref5.FS: put. Conditions: at most 8000000 ticks; short paths. -/
namespace Go.Proofs.YtfgdmlmfgnhpaaaGreatDoor
open Go Go.RowKit
variable [Inhabited BaseW]

def putRM (m : Fs) (path : B8) (mode : Int) (data : B8) (only full : Bool) (room : Int) : Fs × Int :=
  if wrongE path mode data ≠ 0 then (m, wrongE path mode data) else if only = true ∧ (look m.now path).isSome then (m, 8)
  else putsM m path mode data (!full && decide ((data.length : Int) ≤ room - usedF m.now + oldLen m.now path))

end Go.Proofs.YtfgdmlmfgnhpaaaGreatDoor

/-! marref5.FS: Crash. Conditions: at most 8000000 ticks. -/
namespace Go.Proofs.YtfgdmlmfgnhpaaaGreatDoor
open Go Go.RowKit
variable [Inhabited BaseW]

/-- A store into the own block, told. -/
theorem RefPost.store {O R : Nat → Prop} {w w1 w2 : World} {m' : Fs} {g : Nat} {vn vs vp vl vu : Value} {cur : Array Value} (hfr : Fr O w w1) (hO : Nw O w w1 g) (hg : w1.heap[g]? = some (.cells cur 110 (0, 0)))
    (hP : RParts (Nw O w w1) (Nw R w w1) w1 vn vs vp vl vu m'.now m'.sure m'.pend m'.plan m'.users) (hgr : w1.grownBy w2 (some g)) (hg2 : w2.heap[g]? = some (.cells (refCells m'.room vn vs vp vl m'.calls m'.time m'.down vu) 110 (0, 0))) :
    RefPost O R w (.pointer (some ⟨g, 0, none⟩)) m' w2 :=
  ⟨⟨g, vn, vs, vp, vl, vu, rfl, hg2, hO.fst hgr.size, (hP.own hg hgr).mono (fun k hk => hk.fst hgr.size) (fun k hk => hk.fst hgr.size)⟩,
   hfr.step hgr (fun k hk => by cases hk; exact hO.imp id (fun h => h.1)) (by rintro k hk; cases hk; exact cells_u8 hg (by kernel_rfl))⟩
theorem NewOr.inn {O : Nat → Prop} {w w' : World} {v v' : Value} (h : NewOr w v v') (hi : Inn O v) (hl : ∀ k, v'.ownBlock = some k → k < w'.heap.size) : Inn (Nw O w w') v' := fun k hk => (h k hk).imp (hi k) (fun h1 => ⟨h1, hl k hk⟩)
end Go.Proofs.YtfgdmlmfgnhpaaaGreatDoor

/-! marref5.FS: UserWrite, UserRemove. Conditions: at most 7000000 ticks; short paths. -/
namespace Go.Proofs.YtfgdmlmfgnhpaaaGreatDoor
open Go Go.RowKit
variable [Inhabited BaseW]

section
variable {ops : Array Oper} {rest : List Oper} {o : Oper} {a : Act} {Q : Exit → Act → World → Prop} {w : World}
end

end Go.Proofs.YtfgdmlmfgnhpaaaGreatDoor
