/- marlaw5.Does: Sync. Conditions: as each theorem states. -/
import Derived.Test.YtfimfbdlegookaaGreatDoorZaj
import Derived.Test.YtfimfbdlegookaaGreatDoorZae
import Derived.Test.YtfimfbdlegookaaGreatDoorZah
import Derived.Deep.DeepCutAuto

set_option linter.unusedVariables false
set_option linter.unusedSimpArgs false
set_option linter.unusedSectionVars false

/-! marref5.FS: New, Plan, User, and what each tells of itself. Conditions: what holds of a file system at all times. -/
namespace Go.Proofs.YtfimfbdlegookaaGreatDoor
open Go Go.RowKit
variable [Inhabited BaseW]

section
variable {O R : Nat → Prop} {w : World} {p : Value} {m : Fs}
set_option maxRecDepth 100000 in
theorem upR_any (h : IsRef O R w p m) : Calls Tryz.prog 108 #[p] w fun e w' => e = .returned (.bool (!m.down)) ∧ w' = w := by
 obtain ⟨g, vn, vs, vp, vl, vu, rfl, hg, -, -⟩ := h
 obtain ⟨d0, d1, d2, d3, d4, d5, d6, d7, d8⟩ := cellsAt9 hg
 clear hg
 go_enter Tryz.func108, Tryz.ntmps108
 go_wp2
 go_ret
 exact ⟨rfl, rfl⟩
set_option maxRecDepth 100000 in
theorem nowR_any (h : IsRef O R w p m) : Calls Tryz.prog 103 #[p] w fun e w' => e = .returned (.int .i64 m.time) ∧ w' = w := by
 obtain ⟨g, vn, vs, vp, vl, vu, rfl, hg, -, -⟩ := h
 obtain ⟨d0, d1, d2, d3, d4, d5, d6, d7, d8⟩ := cellsAt9 hg
 clear hg
 go_enter Tryz.func103, Tryz.ntmps103
 go_wp2
 go_ret
 exact ⟨rfl, rfl⟩
set_option maxRecDepth 100000 in
theorem callsR_any (h : IsRef O R w p m) : Calls Tryz.prog 101 #[p] w fun e w' => e = .returned (.int .i64 m.calls) ∧ w' = w := by
 obtain ⟨g, vn, vs, vp, vl, vu, rfl, hg, -, -⟩ := h
 obtain ⟨d0, d1, d2, d3, d4, d5, d6, d7, d8⟩ := cellsAt9 hg
 clear hg
 go_enter Tryz.func101, Tryz.ntmps101
 go_wp2
 go_ret
 exact ⟨rfl, rfl⟩
set_option maxRecDepth 100000 in
theorem pendingR_any (h : IsRef O R w p m) (hl : m.pend.length ≤ 1000000) : Calls Tryz.prog 107 #[p] w fun e w' => e = .returned (.int .i64 m.pend.length) ∧ w' = w := by
 obtain ⟨g, vn, vs, vp, vl, vu, rfl, hg, -, hP⟩ := h
 obtain ⟨pa, pc, rfl, -⟩ := ops_get hP.pend hl
 obtain ⟨d0, d1, d2, d3, d4, d5, d6, d7, d8⟩ := cellsAt9 hg
 clear hg hP
 go_enter Tryz.func107, Tryz.ntmps107
 go_wp2
 go_ret
 exact ⟨rfl, rfl⟩
set_option maxRecDepth 100000 in
theorem usedRR_any (h : IsRef O R w p m) (hu : usedF m.now ≤ 1000000000000) : Calls Tryz.prog 105 #[p] w fun e w' => e = .returned (.int .i64 (usedF m.now)) ∧ Ext w w' := by
 obtain ⟨g, vn, vs, vp, vl, vu, rfl, hg, -, hP⟩ := h
 have HC : Hid _ := usedR_any hP.now hu
 obtain ⟨na, nc, rfl, -⟩ := rows_get hP.now
 obtain ⟨d0, d1, d2, d3, d4, d5, d6, d7, d8⟩ := cellsAt9 hg
 obtain ⟨U, hU⟩ : ∃ U, usedF m.now = U := ⟨_, rfl⟩
 rw [hU] at HC ⊢
 clear hg hP hU
 go_enter Tryz.func105, Tryz.ntmps105
 go_wp2_with (go_at_call 163; go_must (refine Calls.mono HC.out ?_; rintro e w' ⟨rfl, hx⟩))
 go_ret
 exact ⟨rfl, hx⟩
set_option maxRecDepth 100000 in
theorem rebootR_any (h : IsRef O R w p m) : Calls Tryz.prog 97 #[p] w fun e w' => e = .returned (.tuple #[]) ∧ RefPost O R w p (rebootM m) w' := by
 obtain ⟨g, vn, vs, vp, vl, vu, rfl, hg, hO, hP⟩ := h
 have HG : Hid _ := hg
 have HP : Hid _ := hP
 clear hg hP
 go_enter Tryz.func97, Tryz.ntmps97
 go_wp2_with (refine store_field rfl 4 (.tmp 4) _ rfl g 7 rfl (.bool false) rfl rfl _ _ HG.out (Nat.le_of_ble_eq_true rfl) size_bool (refCells m.room vn vs vp vl m.calls m.time false vu) (by simp) ?_; intro w2 hg2 hgr2)
 go_end0
 exact ⟨rfl, RefPost.store (m' := rebootM m) (Fr.refl O w) (.inl hO) HG.out (HP.out.mono (fun k hk => .inl hk) (fun k hk => .inl hk)) hgr2 hg2⟩
end

set_option maxRecDepth 100000 in
theorem newR_no (room : Int) (w : World) (h : room < 0 ∨ 1073741824 < room) :
  Calls Tryz.prog 30 #[.int .i64 room] w fun e w' => e = .returned (.tuple #[.pointer none, .int .i64 1]) ∧ w' = w := by
 rcases h with h | h
 ·go_enter Tryz.func30, Tryz.ntmps30
  go_wp2
  go_ret2
  exact ⟨rfl, rfl⟩
 ·have h0 : ¬ room < 0 := by omega
  go_enter Tryz.func30, Tryz.ntmps30
  go_wp2
  go_ret2
  exact ⟨rfl, rfl⟩
def NewRPost (room : Int) (w : World) (e : Ending) (w' : World) : Prop := (∃ p, e = .returned (.tuple #[p, .int .i64 0]) ∧ IsRef (Nu w w') (fun _ => False) w' p (newM room)) ∧ Ext w w'
set_option maxRecDepth 100000 in
set_option maxHeartbeats 1000000 in
theorem newR_yes (room : Int) (w : World) (h0 : 0 ≤ room) (h1 : room ≤ 1073741824) :
  Calls Tryz.prog 30 #[.int .i64 room] w (NewRPost room w) := by
 have h0' : ¬ room < 0 := by omega
 have h1' : ¬ 1073741824 < room := by omega
 go_enter Tryz.func30, Tryz.ntmps30
 go_wp2
 go_ret2
 refine ⟨⟨_, rfl, w.heap.size, .slice none 0 0, .slice none 0 0, .slice none 0 0, .slice none 0 0, .slice none 0 0, rfl, alloc_at w (.cells (refCells room (.slice none 0 0) (.slice none 0 0) (.slice none 0 0) (.slice none 0 0) 0 0 false (.slice none 0 0)) 133), ⟨Nat.le_refl _, by simp⟩, ?_⟩, (Ext.refl _).alloc _⟩
 exact ⟨ReadL.nil _ _ _, Inn.nil _ _ _, ReadL.nil _ _ _, Inn.nil _ _ _, OwnL.nil _ _ _ _, Inn.nil _ _ _, OwnL.nil _ _ _ _, Inn.nil _ _ _, OwnL.nil _ _ _ _, Inn.nil _ _ _, fun k hk => by simp [Value.ownBlock] at hk⟩

set_option maxRecDepth 100000 in
set_option maxHeartbeats 4000000 in
theorem planR_any {O R : Nat → Prop} {w : World} {p v : Value} {m : Fs} {L : List Ev} {css : List (List Value)} (h : IsRef O R w p m) (hv : Row w v L.length css.flatten) (he : Each IsEvD css L) (hlow : ∀ k, v.ownBlock = some k → k < w.heap.size ∧ ¬ O k) (hl : L.length ≤ 1000) :
  Calls Tryz.prog 98 #[p, v] w fun e w' => e = .returned (.tuple #[]) ∧ RefPost O R w p (planM m L) w' := by
 obtain ⟨g, vn, vs, vp, vl, vu, rfl, hg, hO, hP⟩ := h
 have hgl := (Array.getElem?_eq_some_iff.1 hg).1
 have HP : Hid _ := hP
 have HG : Hid _ := hg
 have HE : Hid _ := he
 have hcl : css.length = L.length := he.1
 have h7 := Each.len he (fun c x hx => hx.length.1)
 have HL : Hid _ := hlow
 obtain ⟨a, cap, rfl, l1, l2, l3, hcell⟩ := id hv
 have HC : Hid _ := hcell
 have H7 : Hid _ := h7
 clear hg hP he h7 hlow hcell hv
 go_enter Tryz.func98, Tryz.ntmps98
 go_wp2_with (refine store_field rfl 131 (.tmp 7) _ rfl g 4 rfl (.slice none 0 0) rfl rfl _ _ HG.out (Nat.le_of_ble_eq_true rfl) size_revs (refCells m.room vn vs vp (.slice none 0 0) m.calls m.time m.down vu) (by simp) ?_; intro w1 hg1 hgr1)
 go_loopw [4] (fun i wr => ∃ (k : Nat) (vl' : Value), k ≤ L.length ∧ i = .int .i64 k ∧ wr.heap[g]? = some (.cells (refCells m.room vn vs vp vl' m.calls m.time m.down vu) 133 (0, 0)) ∧ OwnL wr 146 7 IsEvD vl' ((L.take k).filter fun e => decide ((m.calls : Int) < e.t)) ∧ (∀ j, vl'.ownBlock = some j → w.heap.size ≤ j) ∧ w.grownBy wr (some g)) (fun i _ => L.length - (intOf i).toNat)
 case atStart => exact ⟨0, _, Nat.zero_le _, rfl, hg1, OwnL.nil _ _ _ _, fun j hj => by simp [Value.ownBlock] at hj, hgr1⟩
 case round =>
  obtain ⟨k, vl', hk, rfl, hgk, hown, hnew, hgr⟩ := hrel
  have HOW : Hid _ := hown
  have HNEW : Hid _ := hnew
  have HGR : Hid _ := hgr
  have HGK : Hid _ := hgk
  have hsz := hgr.size
  clear hown hnew hgr
  by_cases hlt : k < L.length
  ·obtain ⟨e, hke⟩ : ∃ e, L[k]? = some e := ⟨_, List.getElem?_eq_getElem hlt⟩
   obtain ⟨c, hkc⟩ : ∃ c, css[k]? = some c := ⟨_, List.getElem?_eq_getElem (by omega)⟩
   have hev := HE.out.2 k c e hkc hke
   have hcw := fun j u hu => flat_get 7 css k j c u H7.out hkc hu
   obtain ⟨b, o, hab, hcb⟩ := HC.out (by
    intro hnil
    have h0 : c[0]? = some (c[0]'(by rw [hev.length.1]; omega)) := List.getElem?_eq_getElem _
    have := hcw 0 _ h0
    rw [hnil] at this
    simp at this)
   subst hab
   have hbl := HL.out b rfl
   have hbg : b ≠ g := fun e => hbl.2 (e ▸ hO)
   have hcr : ∀ j u, c[j]? = some u → wr.cell? ⟨b, o + k * 7 + j, none⟩ = some u := fun j u hu => by
    rw [World.cell?_of_block (w := w) (w' := wr) (a := ⟨b, o + k * 7 + j, none⟩) (HGR.out.block b hbl.1 (by simpa using hbg))]
    have := hcb _ _ (hcw j u hu)
    rwa [Nat.mul_comm 7 k, ← Nat.add_assoc] at this
   have HEV : Hid _ := hev
   obtain ⟨vd, rfl, hd, -⟩ := id hev
   obtain ⟨q1, q2, rfl, -⟩ := id hd.bytes
   have y0 := hcr 0 _ rfl
   have y1 := hcr 1 _ rfl
   have y2 := hcr 2 _ rfl
   have y3 := hcr 3 _ rfl
   have y4 := hcr 4 _ rfl
   have y5 := hcr 5 _ rfl
   have y6 := hcr 6 _ rfl
   simp only [Nat.add_zero] at y0
   obtain ⟨z0, z1, z2, z3, z4, z5, z6, z7, z8⟩ := cellsAt9 hgk
   have HTK : Hid ((L.take (k + 1)).filter (fun e => decide ((m.calls : Int) < e.t)) = (L.take k).filter (fun e => decide ((m.calls : Int) < e.t)) ++ (if (m.calls : Int) < e.t then [e] else [])) := by
    unfold Hid
    rw [List.take_add_one, hke, Option.toList_some, List.filter_append]
    congr 1
    by_cases h0 : (m.calls : Int) < e.t
    ·rw [if_pos h0, List.filter_cons_of_pos (by simpa using h0)]; rfl
    ·rw [if_neg h0, List.filter_cons_of_neg (by simpa using h0)]; rfl
   have hfl : ((L.take k).filter (fun e => decide ((m.calls : Int) < e.t))).length ≤ 1000 := Nat.le_trans (List.length_filter_le _ _) (Nat.le_trans (List.length_take_le _ _) (by omega))
   have hcl2 : (k : Int) < (L.length : Int) := by omega
   clear hev hcw hcb hcr hd hke hkc
   obtain ⟨bt, hbt⟩ : ∃ bt, decide ((m.calls : Int) < e.t) = bt := ⟨_, rfl⟩
   have HBT : Hid _ := hbt
   go_wp2_with fail
   apply wp_region_mix 10 [_, _, _, _, _, _, _, _, _, .bool bt] [none, none, none, none, none, none, none, none, none, none] [[], [], [0, 1], [2], [3], [], [5], [6], [7], [4, 8]] (by kernel_rfl) (by kernel_rfl) (by simp [mixV])
   ·trivial
   ·simp (maxSteps := 1000000) only [List.take_succ_cons, List.take_zero, oblFrom, stepObl, fillFrom, Act.put, List.setIfInBounds_toArray, List.set_cons_zero, List.set_cons_succ, knows, getV, mixV, List.getD_cons_zero, List.getD_cons_succ, and_true, true_and, forall_const]
    refine ⟨?_, ?_, ?_, ?_, ?_, ?_, ?_, ?_, ?_, ?_⟩
    ·intro xs wq hq R hR
     have f0 := hq.cell y0; have f5 := hq.cell z5
     go_simp
     exact hR _ _ (Ext.refl _) rfl
    ·intro xs wq hq R hR
     have f0 := hq.cell y0; have f5 := hq.cell z5
     go_simp
     exact hR _ _ (Ext.refl _) rfl
    ·intro xs wq hq hk R hR
     obtain ⟨hk0, hk1⟩ := hk
     have f0 := hq.cell y0; have f5 := hq.cell z5
     go_simp
     exact hR _ _ (Ext.refl _) rfl
    ·intro xs wq hq hk R hR
     have f0 := hq.cell y0; have f5 := hq.cell z5
     go_simp
     exact hR _ _ (Ext.refl _) rfl
    ·intro xs wq hq hk R hR
     have f0 := hq.cell y0; have f5 := hq.cell z5
     go_simp
     exact hR _ _ (Ext.refl _) rfl
    ·intro xs wq hq R hR
     have f0 := hq.cell y0; have f5 := hq.cell z5
     go_simp
     exact hR _ _ (Ext.refl _) rfl
    ·intro xs wq hq hk R hR
     have f0 := hq.cell y0; have f5 := hq.cell z5
     go_simp
     exact hR _ _ (Ext.refl _) rfl
    ·intro xs wq hq hk R hR
     have f0 := hq.cell y0; have f5 := hq.cell z5
     go_simp
     exact hR _ _ (Ext.refl _) rfl
    ·intro xs wq hq hk R hR
     have f0 := hq.cell y0; have f5 := hq.cell z5
     go_simp
     exact hR _ _ (Ext.refl _) rfl
    ·intro xs wq hq hk R hR
     obtain ⟨hk0, hk1⟩ := hk
     have f0 := hq.cell y0; have f5 := hq.cell z5
     go_simp
     exact hR _ _ (Ext.refl _) rfl
   intro xs w2 hx2 hk
   simp only [heldV, Nat.zero_add, Nat.reduceAdd, and_true] at hk
   obtain ⟨q0, q1, q2, q3, q4, q5, q6, q7, q8, q9⟩ := hk
   simp (maxSteps := 1000000) only [List.take_succ_cons, List.take_zero, List.drop_succ_cons, List.drop_zero, fillFrom, Act.put, List.setIfInBounds_toArray, List.set_cons_zero, List.set_cons_succ, Nat.zero_add, Nat.reduceAdd, q0, q1, q2, q3, q4, q5, q6, q7, q8, q9]
   clear q0 q1 q2 q3 q4 q5 q6 q7 q8 q9
   have HX2 : Hid _ := hx2
   have HOW2 : Hid (OwnL w2 146 7 IsEvD vl' ((L.take k).filter fun e => decide ((m.calls : Int) < e.t))) := OwnL.stay HOW.out (fun j hj => hx2.block j (OwnL.lt HOW.out j hj))
   have hg2 := hx2.row hgk
   have HGR2 : Hid (w.grownBy w2 (some g)) := ext_grown HGR.out hx2
   replace y0 := hx2.cell y0
   replace y1 := hx2.cell y1
   replace y2 := hx2.cell y2
   replace y3 := hx2.cell y3
   replace y4 := hx2.cell y4
   replace y5 := hx2.cell y5
   replace y6 := hx2.cell y6
   replace z4 := hx2.cell z4
   have hs2 := hx2.size
   clear hbt hx2 hgk z0 z1 z2 z3 z5 z6 z7 z8
   cases bt with
   | false =>
    have hn : ¬ (m.calls : Int) < e.t := by simpa using HBT.out
    have HT2 : Hid _ := HTK.out.trans (by rw [if_neg hn, List.append_nil])
    clear hn y0 y1 y2 y3 y4 y5 y6 z4
    go_wp2
    go_roundw
    case rel => exact ⟨k + 1, vl', by omega, by go_num, hg2, by rw [HT2.out]; exact HOW2.out, HNEW.out, HGR2.out⟩
    case measure => simp [intOf]; omega
   | true =>
    have hn : (m.calls : Int) < e.t := by simpa using HBT.out
    have HT2 : Hid _ := HTK.out.trans (by rw [if_pos hn])
    have hev2 : IsEvD [.int .i64 e.t, .int .i64 e.kind, .int .i64 e.mode, .int .i64 e.keep, .int .i64 e.torn, S8 e.path, .slice q1 e.data.length q2] e := HEV.out
    have HEV2 : Hid _ := hev2
    obtain ⟨F, hF⟩ : ∃ F, (L.take k).filter (fun e => decide ((m.calls : Int) < e.t)) = F := ⟨_, rfl⟩
    rw [hF] at HOW2 HT2 hfl
    obtain ⟨ds, hown2, heach2⟩ := HOW2.out
    obtain ⟨pa, pc, rfl, -⟩ := Row.of_owns hown2 (by omega)
    have HEA2 : Hid _ := heach2
    clear hn hev2 heach2 hF
    go_wp2_with fail
    apply wp_region_free 10 0 (.pointer (some ⟨g, 0, none⟩)) [.pointer (some ⟨g, 0, none⟩), _, _, _, _, _, _, _, .agg #[.int .i64 e.t, .int .i64 e.kind, .int .i64 e.mode, .int .i64 e.keep, .int .i64 e.torn, S8 e.path, .slice q1 e.data.length q2], undef] [none, none, none, none, none, none, none, none, none, some (fun u w' => ∃ k, u = .slice (some ⟨k, 0, none⟩) 1 1 ∧ w'.heap[k]? = some (.cells #[.int .i64 e.t, .int .i64 e.kind, .int .i64 e.mode, .int .i64 e.keep, .int .i64 e.torn, S8 e.path, .slice q1 e.data.length q2] 146 (0, 0)))] [[], [], [1], [2], [3], [], [], [5, 6], [7], [8]] (by kernel_rfl) (by kernel_rfl) (by simp [mixV])
    ·refine ⟨?_, trivial⟩
     ·exact fun _ _ _ he ⟨k, h1, h3⟩ => ⟨k, h1, he.row h3⟩
    ·exact ⟨_, rfl, rfl, fun w => by go_simp⟩
    ·exact fun _ => rfl
    ·simp (maxSteps := 1000000) only [List.take_succ_cons, List.take_zero, oblFrom, stepObl, fillFrom, Act.put, List.setIfInBounds_toArray, List.set_cons_zero, List.set_cons_succ, knows, getV, mixV, List.getD_cons_zero, List.getD_cons_succ, and_true, true_and, forall_const]
     refine ⟨?_, ?_, ?_, ?_, ?_, ?_, ?_, ?_, ?_, ?_⟩
     ·intro xs wq hq R hR
      have f4 := hq.cell z4; have c0 := hq.cell y0; have c1 := hq.cell y1; have c2 := hq.cell y2; have c3 := hq.cell y3; have c4 := hq.cell y4; have c5 := hq.cell y5; have c6 := hq.cell y6
      go_simp
      exact hR _ _ (Ext.refl _) rfl
     ·intro xs wq hq R hR
      have f4 := hq.cell z4; have c0 := hq.cell y0; have c1 := hq.cell y1; have c2 := hq.cell y2; have c3 := hq.cell y3; have c4 := hq.cell y4; have c5 := hq.cell y5; have c6 := hq.cell y6
      go_simp
      exact hR _ _ (Ext.refl _) rfl
     ·intro xs wq hq hk R hR
      have f4 := hq.cell z4; have c0 := hq.cell y0; have c1 := hq.cell y1; have c2 := hq.cell y2; have c3 := hq.cell y3; have c4 := hq.cell y4; have c5 := hq.cell y5; have c6 := hq.cell y6
      go_simp
      exact hR _ _ (Ext.refl _) rfl
     ·intro xs wq hq hk R hR
      have f4 := hq.cell z4; have c0 := hq.cell y0; have c1 := hq.cell y1; have c2 := hq.cell y2; have c3 := hq.cell y3; have c4 := hq.cell y4; have c5 := hq.cell y5; have c6 := hq.cell y6
      go_simp
      exact hR _ _ (Ext.refl _) rfl
     ·intro xs wq hq hk R hR
      have f4 := hq.cell z4; have c0 := hq.cell y0; have c1 := hq.cell y1; have c2 := hq.cell y2; have c3 := hq.cell y3; have c4 := hq.cell y4; have c5 := hq.cell y5; have c6 := hq.cell y6
      go_simp
      exact hR _ _ (Ext.refl _) rfl
     ·intro xs wq hq R hR
      have f4 := hq.cell z4; have c0 := hq.cell y0; have c1 := hq.cell y1; have c2 := hq.cell y2; have c3 := hq.cell y3; have c4 := hq.cell y4; have c5 := hq.cell y5; have c6 := hq.cell y6
      go_simp
      exact hR _ _ (Ext.refl _) rfl
     ·intro xs wq hq R hR
      have f4 := hq.cell z4; have c0 := hq.cell y0; have c1 := hq.cell y1; have c2 := hq.cell y2; have c3 := hq.cell y3; have c4 := hq.cell y4; have c5 := hq.cell y5; have c6 := hq.cell y6
      go_simp
      exact hR _ _ (Ext.refl _) rfl
     ·intro xs wq hq hk R hR
      obtain ⟨hk0, hk1⟩ := hk
      have f4 := hq.cell z4; have c0 := hq.cell y0; have c1 := hq.cell y1; have c2 := hq.cell y2; have c3 := hq.cell y3; have c4 := hq.cell y4; have c5 := hq.cell y5; have c6 := hq.cell y6
      go_simp
      exact hR _ _ (Ext.refl _) rfl
     ·intro xs wq hq hk R hR
      have f4 := hq.cell z4; have c0 := hq.cell y0; have c1 := hq.cell y1; have c2 := hq.cell y2; have c3 := hq.cell y3; have c4 := hq.cell y4; have c5 := hq.cell y5; have c6 := hq.cell y6
      go_simp
      exact hR _ _ (Ext.refl _) rfl
     ·intro xs wq hq hk R hR
      go_simp
      exact hR _ _ ((Ext.refl _).alloc _) ⟨_, rfl, alloc_at _ _⟩
    intro xs w6 hx6 hk
    simp only [heldV, Nat.zero_add, Nat.reduceAdd, and_true] at hk
    obtain ⟨q0, q1, q2, q3, q4, q5, q6, q7, q8, q9⟩ := hk
    simp (maxSteps := 1000000) only [List.take_succ_cons, List.take_zero, List.drop_succ_cons, List.drop_zero, fillFrom, Act.put, List.setIfInBounds_toArray, List.set_cons_zero, List.set_cons_succ, Nat.zero_add, Nat.reduceAdd, q0, q1, q2, q3, q4, q5, q6, q7, q8]
    clear q0 q1 q2 q3 q4 q5 q6 q7 q8
    generalize xs 9 = x9 at *
    obtain ⟨k6, rfl, hk6⟩ := q9
    have hown6 := owns_ext hown2 hx6
    have hgg6 := Ext.row hx6 hg2
    have HGR6 : Hid (w.grownBy w6 (some g)) := ext_grown HGR2.out hx6
    have hs6 := hx6.size
    clear hown2 y0 y1 y2 y3 y4 y5 y6 z4
    go_wp2_with (first
     | (at_builtin; go_must (refine app_re rfl _ _ rfl 0 _ F.length _ rfl hown6 k6 1 _ rfl rfl hk6 (by simp [Value.oneCell']) (by omega) (Nat.zero_le _) ?_; intro v7 w7 hown7 hgr7 hwh7; obtain ⟨va', vc', rfl⟩ := owns_some hown7 (by omega); have hg7 : w7.heap[g]? = _ := (hgr7.block g (Array.getElem?_eq_some_iff.1 hgg6).1 (fun heq => by have := HNEW.out g heq.symm; omega)).trans hgg6))
     | (refine store_field rfl 131 (.tmp 36) (.tmp 34) rfl g 4 rfl (.slice (some ⟨va', 0, none⟩) (F.length + 1) vc') rfl rfl _ _ hg7 (Nat.le_of_ble_eq_true rfl) size_revs (refCells m.room vn vs vp (.slice (some ⟨va', 0, none⟩) (F.length + 1) vc') m.calls m.time m.down vu) (by simp) ?_; intro w8 hg8 hgr8))
    refine NoP.intro ?_
    go_wp2
    go_roundw
    case rel =>
     have hu6 : ∀ j, Value.ownBlock (.slice pa F.length pc) = some j → ¬ IsU8 w6 j := fun j hj => by
      obtain ⟨xs9, fr9, hx9⟩ := (OwnL.stay (p := IsEvD) ⟨ds, owns_low (by assumption : w6.ownsRow 0 146 7 (.slice pa F.length pc) F.length ds.flatten) (Nat.le_refl _), HEA2.out⟩ (fun _ _ => rfl) : OwnL w6 146 7 IsEvD (.slice pa F.length pc) F).typed j hj
      exact cells_u8 hx9 (by kernel_rfl)
     have k28 : KeepR R w2 w8 := by
      have a := KeepR.of_keep (R := R) (KeepB.of_ext hx6)
      have b : KeepR R w6 w7 := grownR hgr7 hu6
      have c : KeepR R w7 w8 := grownR hgr8 (by rintro j hj; cases hj; exact cells_u8 hg7 (by kernel_rfl))
      exact KeepR.trans a (KeepR.trans b c)
     have hvg : va' ≠ g := fun e => by
      rcases hwh7 va' rfl with h1 | h1
      ·have := HNEW.out _ h1; omega
      ·omega
     refine ⟨k + 1, _, by omega, by go_num, hg8, ?_, fun j hj => ?_, ?_⟩
     ·rw [HT2.out]
      have hown8 : w8.ownsRow 0 146 7 (.slice (some ⟨va', 0, none⟩) (F.length + 1) vc') (F.length + 1) _ := hown7.kept hgr8 (.inr (by simpa [Value.ownBlock] using hvg))
      exact OwnL.app HEA2.out hown8 (fun c x hc => hc) HEV2.out
     ·rcases hwh7 j hj with h1 | h1
      ·exact HNEW.out j h1
      ·omega
     ·refine (HGR6.out.andThen hgr7 (fun j hj => ?_)).trans hgr8
      exact .inl (HNEW.out j hj)
    case measure => simp [intOf]; omega
  ·have hkk : k = L.length := by omega
   subst hkk
   have how := HOW.out
   rw [List.take_length] at how
   have HOF : Hid _ := how
   clear how
   go_wp2
   go_end0
   have hPw := (HP.out.own HG.out HGR.out).mono (O' := On O w.heap.size) (R' := On R w.heap.size) (fun k hk => .inl hk) (fun k hk => .inl hk)
   refine ⟨rfl, IsRef.fit ⟨g, vn, vs, vp, _, vu, rfl, HGK.out, .inl hO, ⟨hPw.now, hPw.on, hPw.sure, hPw.os, hPw.pend, hPw.op, HOF.out, fun j hj => .inr (HNEW.out j hj), hPw.users, hPw.ou, fun j hj hj2 => ?_⟩⟩, (Fr.refl O w).step HGR.out (fun k hk => by cases hk; exact .inl hO) (by rintro k hk; cases hk; exact cells_u8 HG.out (by kernel_rfl))⟩
   have h1 := HP.out.users.lt j hj
   have h2 := HNEW.out j hj2
   omega

end Go.Proofs.YtfimfbdlegookaaGreatDoor

/-! marref5.FS: User. Conditions: at most 1000000 events. -/
namespace Go.Proofs.YtfimfbdlegookaaGreatDoor
open Go Go.RowKit
variable [Inhabited BaseW]

/-- append of elements, of whatever slice. -/
theorem app_gen_run (T e : TypeId) (z : Value) (size bytes : Nat) (ht : Tryz.prog.underlying T = some (.slice e)) (hinfo : (Tryz.prog.info? e).map (fun i => (i.zero, i.size, i.bytes)) = some (some z, size, bytes)) (hzs : z.cells.size = size) (hsz : 0 < size)
  {w : World} (base : Nat) (v : Value) (n : Nat) (xs : List Value) (hown : w.ownsRow base e size v n xs) (x : Value) (m : Nat) (news : List Value) (hx : Row w x m news) (hl : news.length = m * size) (h1 : ∀ u ∈ news, u.oneCell' = true) (hb : (n + m) * bytes ≤ 140737488355328) (hb2 : n + m ≤ 1000000000) (hbase : base ≤ w.heap.size) :
  ∃ v' w', (Builtin.append_ #[T, T] T #[v, x]).run Tryz.prog w = .ok v' w' ∧ w'.ownsRow base e size v' (n + m) (xs ++ news) ∧ w.grownBy w' v.ownBlock ∧ (v'.ownBlock = v.ownBlock ∨ v'.ownBlock = some w.heap.size) := by
 obtain ⟨i0, hi, hz0, hz1, hz2⟩ := info_parts hinfo
 obtain ⟨a, cap, rfl, k1, k2, k3, k4⟩ := hx
 cases a with
 | none =>
  have hn : news = [] := by
   cases news with
   | nil => rfl
   | cons y l => obtain ⟨b, o, he, _⟩ := k4 (by simp); cases he
  subst hn
  have hm : m = 0 := by
   have h0 : m * size = 0 := by simpa using hl.symm
   rcases Nat.mul_eq_zero.1 h0 with h | h
   ·exact h
   ·omega
  subst hm
  obtain ⟨vb, vn, vc, rfl, hle⟩ : ∃ vb vn vc, v = .slice vb n vc ∧ n ≤ vc ∧ vn = n := by
   rcases hown.2 with ⟨rfl, h0⟩ | ⟨g, c, cur, rfl, _, _, hc, _⟩
   ·exact ⟨none, n, 0, by rw [h0], by omega, rfl⟩
   ·exact ⟨_, n, c, rfl, hc, rfl⟩
  refine ⟨_, w, run_append_nothing w _ _ _ _ i0 ht hi vb n vc hle.1 _ (by rw [hz1]; exact Src.ofNil w ht cap), by simpa using hown, ⟨rfl, rfl, rfl, Nat.le_refl _, fun _ _ _ => rfl⟩, .inl rfl⟩
 | some ad =>
  have hnews : ∀ j u, news[j]? = some u → w.cell? (ad.add j) = some u := fun j u hu => by
   obtain ⟨b, o, he, hc⟩ := k4 (by rintro rfl; simp at hu)
   cases he
   have hadd : (⟨b, o, none⟩ : Addr).add j = ⟨b, o + j, none⟩ := by unfold Addr.add; split <;> simp_all
   rw [hadd]
   exact hc j u hu
  obtain ⟨v', w', h2, h3, h4, _, h5⟩ := run_append_own_at (P := Tryz.prog) w base T T e i0 _ size bytes ht hi hz0 hz1 hz2 hzs hsz v n xs hown ad m cap news hl hnews h1 (by unfold maxLen; omega) hb hbase
  exact ⟨v', w', h2, h3, h4, h5⟩
section
variable {ops : Array Oper} {rest : List Oper} {o : Oper} {a : Act} {Q : Exit → Act → World → Prop} {w : World}
theorem app_gen_op (T e : TypeId) (z : Value) (size bytes : Nat) (ht : Tryz.prog.underlying T = some (.slice e)) (hinfo : (Tryz.prog.info? e).map (fun i => (i.zero, i.size, i.bytes)) = some (some z, size, bytes)) (hzs : z.cells.size = size) (hsz : 0 < size)
  (hgd : o.guard = none) (s x : Operand) (ho : o.op = .call { callee := .builtin .append, args := #[s, x], argTypes := #[T, T] }) (hty : o.type = T)
  (base : Nat) (v : Value) (n : Nat) (xs : List Value) (hs : a.eval s = v) (hown : w.ownsRow base e size v n xs)
  (xv : Value) (m : Nat) (news : List Value) (hx : a.eval x = xv) (hrow : Row w xv m news) (hl : news.length = m * size) (h1 : ∀ u ∈ news, u.oneCell' = true) (hb : (n + m) * bytes ≤ 140737488355328) (hb2 : n + m ≤ 1000000000) (hbase : base ≤ w.heap.size)
  (h : ∀ v' w', w'.ownsRow base e size v' (n + m) (xs ++ news) → w.grownBy w' v.ownBlock → wpList Tryz.prog ops Q rest (a.put o.dst v') w') : wpList Tryz.prog ops Q (o :: rest) a w := by
 refine wpList_plain hgd fun K hK => ?_
 obtain ⟨v', w', hr, h2, h3, h4⟩ := app_gen_run T e z size bytes ht hinfo hzs hsz base v n xs hown xv m news hrow hl h1 hb hb2 hbase
 unfold Oper.wp execOp
 simp only [ho, hty, resolve, invoke, builtin, Sem.run_bind, Sem.run_pure, Result.andThen_ok, List.map_toArray, List.map_cons, List.map_nil, hs, hx, hr]
 exact hK _ _ (h v' w' h2 h3)
end

set_option maxRecDepth 100000 in
set_option maxHeartbeats 2000000 in
theorem userR_any {O R : Nat → Prop} {w : World} {p : Value} {m : Fs} (h : IsRef O R w p m) (hl : m.users.length ≤ 1000000) :
  Calls Tryz.prog 112 #[p] w fun e w' => (∃ v', e = .returned v' ∧ ReadB w' v' m.users) ∧ Ext w w' := by
 obtain ⟨g, vn, vs, vp, vl, vu, rfl, hg, hO, hP⟩ := h
 obtain ⟨css, hrow, -, heach⟩ := OwnL.readL hP.users hl
 obtain ⟨ua, uc, rfl, -⟩ := id hrow
 have hx1 : Ext w (w.alloc (.cells #[] 146)) := (Ext.refl _).alloc _
 have hown1 : (w.alloc (.cells #[] 146)).ownsRow w.heap.size 146 7 (.slice (some ⟨w.heap.size, 0, none⟩) 0 0) 0 [] := ⟨rfl, .inr ⟨w.heap.size, 0, #[], rfl, Nat.le_refl _, alloc_at _ _, Nat.le_refl _, by unfold maxLen; omega, rfl, rfl⟩⟩
 obtain ⟨d0, d1, d2, d3, d4, d5, d6, d7, d8⟩ := cellsAt9 (Ext.row hx1 hg)
 have hfl : css.flatten.length = m.users.length * 7 := by rw [flat_len (Each.len heach (fun c x hx => hx.length.1)), heach.1]
 have hone : ∀ u ∈ css.flatten, u.oneCell' = true := Each.one heach (fun c x hx => hx.length.2)
 have HX1 : Hid _ := hx1
 have HROW : Hid _ := hrow.ext hx1
 have HEA : Hid _ := heach
 have HFL : Hid _ := hfl
 have HONE : Hid _ := hone
 have HOWN1 : Hid _ := hown1
 clear hg hP hrow heach hfl hone hown1 hx1
 go_enter Tryz.func112, Tryz.ntmps112
 go_wp2_with (at_builtin; go_must (refine app_gen_op _ _ _ 7 80 Tryz.underlying131 info_re rfl (by omega) rfl _ _ rfl rfl w.heap.size _ 0 [] rfl HOWN1.out _ m.users.length css.flatten rfl HROW.out HFL.out HONE.out (by omega) (by omega) (by simp) ?_; intro v2 w2 hown2 hgr2; rw [Nat.zero_add, List.nil_append] at hown2; have hx2 : Ext w w2 := owns_ext_app HX1.out HOWN1.out hgr2))
 go_ret
 exact ⟨⟨_, rfl, css, Row.of_owns hown2 (by omega), Each.imp HEA.out (fun c x hc => hc.read.ext hx2)⟩, hx2⟩

end Go.Proofs.YtfimfbdlegookaaGreatDoor

/-! marref: Bytes, Texts, Has; marlaw5: flag, file. Conditions: at most 1000000 texts. -/
namespace Go.Proofs.YtfimfbdlegookaaGreatDoor
open Go Go.RowKit

set_option maxRecDepth 100000 in
set_option maxHeartbeats 1000000 in
theorem bytesEq_any (a b : Value) (la lb : B8) (w : World) (ha : IsBytes w a la) (hb : IsBytes w b lb) :
  Calls Tryz.prog 100 #[a, b] w fun e w' => e = .returned (.bool (la == lb)) ∧ w' = w := by
 have h1 := conv_bytes ha
 have h2 := conv_bytes hb
 have t1 := tl la
 have t2 := tl lb
 obtain ⟨a1, c1, rfl, -⟩ := ha
 obtain ⟨a2, c2, rfl, -⟩ := hb
 obtain ⟨bq, hbq⟩ : ∃ bq, (la == lb) = bq := ⟨_, rfl⟩
 rw [hbq]
 go_enter Tryz.func100, Tryz.ntmps100
 go_wp2
 go_ret
 exact ⟨by first | rfl | exact ret_b (by assumption), rfl⟩

set_option maxRecDepth 100000 in
set_option maxHeartbeats 1000000 in
theorem texts_any (a b : Value) (la lb : List B8) (w : World) (ha : IsStrs w a la) (hb : IsStrs w b lb) :
  Calls Tryz.prog 35 #[a, b] w fun e w' => e = .returned (.bool (la == lb)) ∧ Ext w w' := by
 obtain ⟨a1, c1, rfl, l1, l2, l3, hg1⟩ := ha.get
 obtain ⟨a2, c2, rfl, k1, k2, k3, hg2⟩ := hb.get
 have H1 : Hid _ := hg1
 have H2 : Hid _ := hg2
 clear ha hb hg1 hg2
 by_cases hl : la.length = lb.length
 ·have hli : ((la.length : Int) == (lb.length : Int)) = true := by rw [beq_iff_eq]; omega
  have HL : Hid _ := hl
  rw [← hl] at k1 k2
  have HB : Hid (∀ k, k < la.length → ∃ b o, a2 = some ⟨b, o, none⟩ ∧ (∀ i, i < la.length → w.cell? ⟨b, o + i, none⟩ = some (S8 (lb.getD i [])))) := by
   unfold Hid; rw [hl]; exact H2.out
  obtain ⟨n2, hn2⟩ : ∃ n2, lb.length = n2 := ⟨_, rfl⟩
  have hn2l : n2 = la.length := by omega
  rw [hn2, hn2l]
  clear hn2 hli hl hn2l
  go_enter Tryz.func35, Tryz.ntmps35
  go_wp2
  go_loopw [5] (fun i wr => ∃ k : Nat, k ≤ la.length ∧ i = .int .i64 k ∧ la.take k = lb.take k ∧ Ext w wr) (fun i _ => la.length - (intOf i).toNat)
  case atStart => exact ⟨0, Nat.zero_le _, rfl, by simp, Ext.refl _⟩
  case round =>
   obtain ⟨k, hk, rfl, htk, hx⟩ := hrel
   have HT : Hid _ := htk
   clear htk
   by_cases hlt : k < la.length
   ·obtain ⟨b1, o1, rfl, hc1⟩ := H1.out k hlt
    obtain ⟨b2, o2, rfl, hc2⟩ := HB.out k hlt
    have y1 := hx.cell (hc1 k hlt)
    have y2 := hx.cell (hc2 k hlt)
    obtain ⟨p, hp⟩ : ∃ p, la.getD k [] = p := ⟨_, rfl⟩
    obtain ⟨q, hq⟩ : ∃ q, lb.getD k [] = q := ⟨_, rfl⟩
    rw [hp] at y1
    rw [hq] at y2
    have HP : Hid (la[k]? = some p) := by
     unfold Hid; rw [List.getElem?_eq_getElem hlt, ← hp]; simp [hlt]
    have hlt2 : k < lb.length := by rw [← HL.out]; exact hlt
    have HQ : Hid (lb[k]? = some q) := by
     unfold Hid; rw [List.getElem?_eq_getElem hlt2, ← hq]; simp [hlt2]
    have tp := tl p
    have tq := tl q
    obtain ⟨bq, hbq⟩ : ∃ bq, (p == q) = bq := ⟨_, rfl⟩
    have HBQ : Hid _ := hbq
    clear hc1 hc2 hp hq hlt2
    go_wp2_with fail
    apply wp_region_mix 9 [_, _, _, _, _, _, _, _, .bool (!bq)] [none, none, none, none, none, none, none, none, none] [[], [], [0, 1], [2], [], [], [4, 5], [6], [3, 7]] (by kernel_rfl) (by kernel_rfl) (by simp [mixV])
    ·trivial
    ·simp (maxSteps := 1000000) only [List.take_succ_cons, List.take_zero, oblFrom, stepObl, fillFrom, Act.put, List.setIfInBounds_toArray, List.set_cons_zero, List.set_cons_succ, knows, getV, mixV, List.getD_cons_zero, List.getD_cons_succ, and_true, true_and, forall_const]
     refine ⟨?_, ?_, ?_, ?_, ?_, ?_, ?_, ?_, ?_⟩
     ·intro xs wq hq R hR
      have f1 := hq.cell y1; have f2 := hq.cell y2
      go_simp
      exact hR _ _ (Ext.refl _) rfl
     ·intro xs wq hq R hR
      have f1 := hq.cell y1; have f2 := hq.cell y2
      go_simp
      exact hR _ _ (Ext.refl _) rfl
     ·intro xs wq hq hk R hR
      obtain ⟨hk0, hk1⟩ := hk
      have f1 := hq.cell y1; have f2 := hq.cell y2
      go_simp
      exact hR _ _ (Ext.refl _) rfl
     ·intro xs wq hq hk R hR
      have f1 := hq.cell y1; have f2 := hq.cell y2
      go_simp
      exact hR _ _ (Ext.refl _) rfl
     ·intro xs wq hq R hR
      have f1 := hq.cell y1; have f2 := hq.cell y2
      go_simp
      exact hR _ _ (Ext.refl _) rfl
     ·intro xs wq hq R hR
      have f1 := hq.cell y1; have f2 := hq.cell y2
      go_simp
      exact hR _ _ (Ext.refl _) rfl
     ·intro xs wq hq hk R hR
      obtain ⟨hk0, hk1⟩ := hk
      have f1 := hq.cell y1; have f2 := hq.cell y2
      go_simp
      exact hR _ _ (Ext.refl _) rfl
     ·intro xs wq hq hk R hR
      have f1 := hq.cell y1; have f2 := hq.cell y2
      go_simp
      exact hR _ _ (Ext.refl _) rfl
     ·intro xs wq hq hk R hR
      obtain ⟨hk0, hk1⟩ := hk
      have f1 := hq.cell y1; have f2 := hq.cell y2
      go_simp
      exact hR _ _ (Ext.refl _) rfl
    intro xs w2 hx2 hk
    simp only [heldV, Nat.zero_add, Nat.reduceAdd, and_true] at hk
    obtain ⟨q0, q1, q2, q3, q4, q5, q6, q7, q8⟩ := hk
    simp (maxSteps := 1000000) only [List.take_succ_cons, List.take_zero, List.drop_succ_cons, List.drop_zero, fillFrom, Act.put, List.setIfInBounds_toArray, List.set_cons_zero, List.set_cons_succ, Nat.zero_add, Nat.reduceAdd, q0, q1, q2, q3, q4, q5, q6, q7, q8]
    clear q0 q1 q2 q3 q4 q5 q6 q7 q8
    have hxr := hx.trans hx2
    clear hbq
    cases bq with
    | false =>
     have hne : p ≠ q := by simpa using HBQ.out
     have HF : Hid ((la == lb) = false) := by
      unfold Hid
      rw [beq_eq_false_iff_ne]
      intro e
      have h1 := HP.out
      rw [e, HQ.out] at h1
      exact hne (Option.some.inj h1).symm
     clear hne
     go_wp2
     go_ret
     exact ⟨ret_b HF.out.symm, hxr⟩
    | true =>
     have heq : p = q := by simpa using HBQ.out
     have HE : Hid _ := heq
     clear heq
     go_wp2
     go_roundw
     case rel => exact ⟨k + 1, by omega, by go_num, by rw [List.take_add_one, List.take_add_one, HP.out, HQ.out, HE.out, HT.out], hxr⟩
     case measure => simp [intOf]; omega
   ·have hkk : la.length ≤ k := by omega
    have HF : Hid ((la == lb) = true) := by
     have := HT.out
     rw [List.take_of_length_le hkk, List.take_of_length_le (by rw [← HL.out]; exact hkk)] at this
     unfold Hid; simpa using this
    go_wp2
    go_ret
    exact ⟨ret_b HF.out.symm, hx⟩
 ·have hli : ((la.length : Int) == (lb.length : Int)) = false := by rw [beq_eq_false_iff_ne]; omega
  have HF : Hid ((la == lb) = false) := by
   unfold Hid
   rw [beq_eq_false_iff_ne]
   intro e; exact hl (by rw [e])
  clear hl
  go_enter Tryz.func35, Tryz.ntmps35
  go_wp2
  go_ret
  exact ⟨ret_b HF.out.symm, Ext.refl _⟩

set_option maxRecDepth 100000 in
set_option maxHeartbeats 1000000 in
theorem file_same (f : Fi) (u v : Value) (w : World) (hu : IsBytes w u f.data) (hv : IsBytes w v f.data) :
  Calls Tryz.prog 92 #[fiV f u, fiV f v] w fun e w' => e = .returned (.bool true) ∧ Ext w w' := by
 obtain ⟨a1, c1, rfl, -⟩ := id hu
 obtain ⟨a2, c2, rfl, -⟩ := id hv
 have hx : Ext w ((w.alloc (.cells #[.int .i64 f.mode, .slice a1 f.data.length c1, .int .i64 f.time] 76)).alloc (.cells #[.int .i64 f.mode, .slice a2 f.data.length c2, .int .i64 f.time] 134)) := ((Ext.refl _).alloc _).alloc _
 have HU : Hid _ := IsBytes.ext hu hx
 have HV : Hid _ := IsBytes.ext hv hx
 have HX : Hid _ := hx
 clear hu hv hx
 go_enter Tryz.func92, Tryz.ntmps92
 go_wp2_with (go_at_call 100; go_must (refine (bytesEq_any _ _ _ _ _ HU.out HV.out).mono ?_; rw [beq_self_eq_true]; rintro e w3 ⟨rfl, rfl⟩))
 go_ret
 exact ⟨rfl, HX.out⟩

def FilePost (f g : Fi) (w : World) (e : Ending) (w' : World) : Prop := (∃ r : Bool, e = .returned (.bool r) ∧ (f = g → r = true)) ∧ Ext w w'
set_option maxRecDepth 100000 in
set_option maxHeartbeats 1000000 in
theorem file_any (f g : Fi) (u v : Value) (w : World) (hu : IsBytes w u f.data) (hv : IsBytes w v g.data) :
  Calls Tryz.prog 92 #[fiV f u, fiV g v] w fun e w' => FilePost f g w e w' := by
 obtain ⟨a1, c1, rfl, -⟩ := id hu
 obtain ⟨a2, c2, rfl, -⟩ := id hv
 have hx : Ext w ((w.alloc (.cells #[.int .i64 f.mode, .slice a1 f.data.length c1, .int .i64 f.time] 76)).alloc (.cells #[.int .i64 g.mode, .slice a2 g.data.length c2, .int .i64 g.time] 134)) := ((Ext.refl _).alloc _).alloc _
 have HU : Hid _ := IsBytes.ext hu hx
 have HV : Hid _ := IsBytes.ext hv hx
 have HX : Hid _ := hx
 clear hu hv hx
 obtain ⟨b1, hb1⟩ : ∃ b, (f.mode == g.mode) = b := ⟨_, rfl⟩
 obtain ⟨b2, hb2⟩ : ∃ b, (f.time == g.time) = b := ⟨_, rfl⟩
 obtain ⟨b3, hb3⟩ : ∃ b, (f.data == g.data) = b := ⟨_, rfl⟩
 have HB : Hid (f = g → b1 = true ∧ b2 = true ∧ b3 = true) := fun h => by rw [← hb1, ← hb2, ← hb3, h]; simp
 have HB3 : Hid _ := hb3
 clear hb3
 go_enter Tryz.func92, Tryz.ntmps92
 cases b1 with
 | false =>
  go_wp2
  go_ret
  exact ⟨⟨_, rfl, fun h => (HB.out h).1⟩, HX.out⟩
 | true =>
  cases b2 with
  | false =>
   go_wp2
   go_ret
   exact ⟨⟨_, rfl, fun h => (HB.out h).2.1⟩, HX.out⟩
  | true =>
   go_wp2_with (go_at_call 100; go_must (refine (bytesEq_any _ _ _ _ _ HU.out HV.out).mono ?_; rw [HB3.out]; rintro e w3 ⟨rfl, rfl⟩))
   go_ret
   exact ⟨⟨_, rfl, fun h => (HB.out h).2.2⟩, HX.out⟩

end Go.Proofs.YtfimfbdlegookaaGreatDoor

/-! marlaw5: two file systems side by side: one works while the other one stands. Conditions: as each theorem states. -/
namespace Go.Proofs.YtfimfbdlegookaaGreatDoor
open Go Go.RowKit
variable [Inhabited BaseW]

/-- What two calls find, one on each. -/
structure Pair (S O O' R : Nat → Prop) (w1 : World) (f x : Value) (m m2 : Fs) : Prop where
 fin : FsIn S O R w1 f m
 rin : RefIn O' R w1 x m2
 dis : ∀ k, O k → ¬ O' k
 disS : ∀ k, S k → ¬ O' k
 high : ∀ k, O k → baseW.heap.size ≤ k
/-- What both calls leave. -/
structure Both (S O O' R : Nat → Prop) (w1 : World) (f x : Value) (m' m2' : Fs) (w : World) : Prop where
 two : ∃ S1 O1 O1' : Nat → Prop, IsFs S1 O1 (Nw R w1 w) w f m' ∧ IsRef O1' (Nw R w1 w) w x m2' ∧ (∀ k, S1 k → (S k ∨ w1.heap.size ≤ k) ∧ k < w.heap.size ∧ ¬ O1 k ∧ ¬ O1' k) ∧ (∀ k, O1 k → (O k ∨ w1.heap.size ≤ k) ∧ k < w.heap.size) ∧ (∀ k, O1' k → (O' k ∨ w1.heap.size ≤ k) ∧ k < w.heap.size) ∧ (∀ k, O1 k → ¬ O1' k)
 fr : Fr (fun k => O k ∨ O' k) w1 w

def DJ (S O O' R : Nat → Prop) (w1 : World) (f x : Value) (m' m2' : Fs) (ef er : Value → Prop) : Option Value → Option Value → World → Prop
 | none, none, w => Ext w1 w
 | some u, none, w => ef u ∧ FsPost S O R w1 f m' w
 | none, some v, w => er v ∧ RefPost O' R w1 x m2' w
 | some u, some v, w => ef u ∧ er v ∧ Both S O O' R w1 f x m' m2' w

section
variable {S O O' R : Nat → Prop} {w1 w w' : World} {f x : Value} {m m2 m' m2' : Fs} {ef er : Value → Prop} {z1 z2 : Option Value} {u v : Value}
theorem DJ.fr (h : DJ S O O' R w1 f x m' m2' ef er z1 z2 w) : Fr (fun k => O k ∨ O' k) w1 w := by
 cases z1 <;> cases z2
 ·exact Fr.of_ext h
 ·exact h.2.fr.mono (fun k hk => .inr hk)
 ·exact h.2.fr.mono (fun k hk => .inl hk)
 ·exact h.2.2.fr
theorem DJ.row (h : DJ S O O' R w1 f x m' m2' ef er z1 z2 w) {k : Nat} {o : Obj} (hk : w1.heap[k]? = some o) (h1 : ¬ O k) (h2 : ¬ O' k) : w.heap[k]? = some o :=
 h.fr.row hk (fun hh => hh.elim h1 h2)
theorem DJ.bytes (h : DJ S O O' R w1 f x m' m2' ef er z1 z2 w) {b : Value} {l : B8} (hb : IsBytes w1 b l) (ht : TypB w1 b) : IsBytes w b l := Row.keepB hb ht h.fr.keep
theorem DJ.typed (h : DJ S O O' R w1 f x m' m2' ef er z1 z2 w) {b : Value} (ht : TypB w1 b) : TypB w b := ht.keep h.fr.keep
theorem typed_out {Q : Nat → Prop} {w : World} {b : Value} (ht : TypB w b) (_ : ∃ a n c, b = .slice a n c) : Out Q w b := fun a n c he _ => .inr (ht a n c he)
theorem FsIn.other {S O R : Nat → Prop} {w w' : World} {p : Value} {m : Fs} (h : FsIn S O R w p m) {Q : Nat → Prop} (hf : Fr Q w w') (hd : ∀ k, O k → ¬ Q k) (hs : ∀ k, S k → ¬ Q k) (hG : NoG Q) : FsIn S O R w' p m :=
 ⟨h.env.fr hf hG, h.fs.other hf hd hs, h.ok, h.plan, h.time, h.calls, h.noG, fun k hk => ⟨(h.apart k hk).1, Nat.lt_of_lt_of_le (h.apart k hk).2 hf.size⟩, fun k hk => Nat.lt_of_lt_of_le (h.low k hk) hf.size, h.room0, h.room1⟩
theorem RefIn.other {O R : Nat → Prop} {w w' : World} {p : Value} {m : Fs} (h : RefIn O R w p m) {Q : Nat → Prop} (hf : Fr Q w w') (hd : ∀ k, O k → ¬ Q k) (hq : ∀ k, Q k → baseW.heap.size ≤ k) : RefIn O R w' p m :=
 ⟨h.fs.other hf hd, h.ok, h.plan, h.time, h.calls, fun k hk => Nat.lt_of_lt_of_le (h.low k hk) hf.size, Ext.of_fr h.base hf hq, h.high, h.room0, h.room1⟩
theorem DJ.base (hp : Pair S O O' R w1 f x m m2) (hb : Ext baseW w1) (h : DJ S O O' R w1 f x m' m2' ef er z1 z2 w) : Ext baseW w := Ext.of_fr hb h.fr (fun k hk => hk.elim (hp.high k) (hp.rin.high k))
theorem DJ.fin (hp : Pair S O O' R w1 f x m m2) (hG : NoG O') (h : DJ S O O' R w1 f x m' m2' ef er none z2 w) : FsIn S O R w f m := by
 cases z2
 ·exact hp.fin.ext h
 ·exact hp.fin.other h.2.fr hp.dis hp.disS hG
theorem DJ.rin (hp : Pair S O O' R w1 f x m m2) (h : DJ S O O' R w1 f x m' m2' ef er z1 none w) : RefIn O' R w x m2 := by
 cases z1
 ·exact hp.rin.ext h
 ·exact hp.rin.other h.2.fr (fun k h1 h2 => hp.dis k h2 h1) hp.high
theorem DJ.setF (hp : Pair S O O' R w1 f x m m2) (h : DJ S O O' R w1 f x m' m2' ef er none z2 w) (hu : ef u) (k : FsPost S O R w f m' w') : DJ S O O' R w1 f x m' m2' ef er (some u) z2 w' := by
 cases z2
 ·exact ⟨hu, FsPost.pre h k⟩
 ·obtain ⟨hv, h⟩ := h
  have hs := h.fr.size
  have hs2 := k.fr.size
  refine ⟨hu, hv, ⟨S, Nw O w w', Nw O' w1 w, k.fs.mono (fun _ h => h) (fun j hj => ?_), (h.fs.other k.fr (fun j hj hO => ?_)).mono (fun _ h => h) (fun j hj => ?_), fun j hj => ⟨.inl hj, by have := hp.fin.apart j hj; omega, fun h9 => ?_, fun h9 => ?_⟩, fun j hj => ?_, fun j hj => ?_, fun j h1 h2 => ?_⟩, ?_⟩
  ·rcases hj with hj | hj
   ·exact .inl hj
   ·exact .inr ⟨by omega, hj.2⟩
  ·rcases hj with hj | hj
   ·exact hp.dis j hO hj
   ·have := hp.fin.low j hO; omega
  ·exact hj.imp id (fun h => ⟨h.1, by omega⟩)
  ·have h8 := hp.fin.apart j hj
   rcases h9 with h9 | h9
   ·exact h8.1 h9
   ·omega
  ·have h8 := hp.fin.apart j hj
   rcases h9 with h9 | h9
   ·exact hp.disS j hj h9
   ·omega
  ·rcases hj with hj | hj
   ·have := hp.fin.low j hj; exact ⟨.inl hj, by omega⟩
   ·exact ⟨.inr (by omega), hj.2⟩
  ·rcases hj with hj | hj
   ·have := hp.rin.low j hj; exact ⟨.inl hj, by omega⟩
   ·exact ⟨.inr (by omega), by omega⟩
  ·rcases h1 with h1 | h1
   ·rcases h2 with h2 | h2
    ·exact hp.dis j h1 h2
    ·have := hp.fin.low j h1; omega
   ·rcases h2 with h2 | h2
    ·have := hp.rin.low j h2; omega
    ·omega
  ·exact (h.fr.mono (fun j hj => .inr hj)).trans (k.fr.mono (fun j hj => .inl (.inl hj)))
theorem DJ.setR (hp : Pair S O O' R w1 f x m m2) (h : DJ S O O' R w1 f x m' m2' ef er z1 none w) (hv : er v) (k : RefPost O' R w x m2' w') : DJ S O O' R w1 f x m' m2' ef er z1 (some v) w' := by
 cases z1
 ·exact ⟨hv, RefPost.pre h k⟩
 ·obtain ⟨hu, h⟩ := h
  have hs := h.fr.size
  have hs2 := k.fr.size
  refine ⟨hu, hv, ⟨S, Nw O w1 w, Nw O' w w', (h.fs.other k.fr (fun j hj hO => ?_) hp.disS).mono (fun _ h => h) (fun j hj => ?_), k.fs.mono (fun _ h => h) (fun j hj => ?_), fun j hj => ⟨.inl hj, by have := hp.fin.apart j hj; omega, fun h9 => ?_, fun h9 => ?_⟩, fun j hj => ?_, fun j hj => ?_, fun j h1 h2 => ?_⟩, ?_⟩
  ·rcases hj with hj | hj
   ·exact hp.dis j hj hO
   ·have := hp.rin.low j hO; omega
  ·exact hj.imp id (fun h => ⟨h.1, by omega⟩)
  ·rcases hj with hj | hj
   ·exact .inl hj
   ·exact .inr ⟨by omega, hj.2⟩
  ·have h8 := hp.fin.apart j hj
   rcases h9 with h9 | h9
   ·exact h8.1 h9
   ·omega
  ·have h8 := hp.fin.apart j hj
   rcases h9 with h9 | h9
   ·exact hp.disS j hj h9
   ·omega
  ·rcases hj with hj | hj
   ·have := hp.fin.low j hj; exact ⟨.inl hj, by omega⟩
   ·exact ⟨.inr (by omega), by omega⟩
  ·rcases hj with hj | hj
   ·have := hp.rin.low j hj; exact ⟨.inl hj, by omega⟩
   ·exact ⟨.inr (by omega), hj.2⟩
  ·rcases h1 with h1 | h1
   ·rcases h2 with h2 | h2
    ·exact hp.dis j h1 h2
    ·have := hp.fin.low j h1; omega
   ·rcases h2 with h2 | h2
    ·have := hp.rin.low j h2; omega
    ·omega
  ·exact (h.fr.mono (fun j hj => .inl hj)).trans (k.fr.mono (fun j hj => .inl (.inr hj)))
theorem Both.same (hp : Pair S O O' R w1 f x m m2) (hx : Ext w1 w) : Both S O O' R w1 f x m m2 w :=
 ⟨⟨S, O, O', (hp.fin.fs.ext hx).mono (fun _ h => h) (fun _ h => .inl h), (hp.rin.fs.ext hx).mono (fun _ h => h) (fun _ h => .inl h), fun j hj => ⟨.inl hj, by have := hp.fin.apart j hj; have := hx.size; omega, (hp.fin.apart j hj).1, hp.disS j hj⟩, fun j hj => ⟨.inl hj, by have := hp.fin.low j hj; have := hx.size; omega⟩, fun j hj => ⟨.inl hj, by have := hp.rin.low j hj; have := hx.size; omega⟩, hp.dis⟩, Fr.of_ext hx⟩
theorem Both.ext {w2 w3 : World} (h : Both S O O' R w1 f x m m2 w2) (hx : Ext w2 w3) : Both S O O' R w1 f x m m2 w3 := by
 obtain ⟨⟨S1, O1, O1', h1, h2, h3, h4, h5, h6⟩, hf⟩ := h
 have hs := hx.size
 exact ⟨⟨S1, O1, O1', (h1.ext hx).mono (fun _ h => h) (fun _ h => h.fst hs), (h2.ext hx).mono (fun _ h => h) (fun _ h => h.fst hs), fun j hj => by have := h3 j hj; exact ⟨this.1, by omega, this.2.2⟩, fun j hj => ⟨(h4 j hj).1, by have := (h4 j hj).2; omega⟩, fun j hj => ⟨(h5 j hj).1, by have := (h5 j hj).2; omega⟩, h6⟩, hf.ext hx⟩
theorem DJ.more {w2 w3 : World} (h : DJ S O O' R w1 f x m' m2' ef er z1 z2 w2) (hx : Ext w2 w3) : DJ S O O' R w1 f x m' m2' ef er z1 z2 w3 := by
 cases z1 <;> cases z2
 ·exact Ext.trans h hx
 ·exact ⟨h.1, RefPost.ext h.2 hx⟩
 ·exact ⟨h.1, FsPost.ext h.2 hx⟩
 ·exact ⟨h.1, h.2.1, Both.ext h.2.2 hx⟩
theorem DJ.start (h : Ext w1 w) : DJ S O O' R w1 f x m' m2' ef er none none w := h
end

end Go.Proofs.YtfimfbdlegookaaGreatDoor

/-! marlaw5.Does: what it finds and leaves. Conditions: as each theorem states. -/
namespace Go.Proofs.YtfimfbdlegookaaGreatDoor
open Go Go.RowKit

theorem env_lt {w0 : World} (hE : Env w0) : 2 < w0.heap.size := by
 obtain ⟨m, hm⟩ := hE.maxl
 exact World.block_lt_of_cell? _ _ hm
variable [Inhabited BaseW]
structure Two2 (w0 : World) (S O O' : Nat → Prop) (w : World) (f x : Value) (m m2 : Fs) : Prop where
 base : Ext baseW w0
 ext : Ext w0 w
 fs : IsFs S O (fun k => k < w.heap.size) w f m
 ref : IsRef O' (fun k => k < w.heap.size) w x m2
 lo : ∀ k, O k → w0.heap.size ≤ k ∧ k < w.heap.size
 lo' : ∀ k, O' k → w0.heap.size ≤ k ∧ k < w.heap.size
 loS : ∀ k, S k → w0.heap.size ≤ k ∧ k < w.heap.size
 dis : ∀ k, O k → ¬ O' k
 disS : ∀ k, S k → ¬ O k ∧ ¬ O' k
abbrev Two (w0 : World) (S O O' : Nat → Prop) (w : World) (f x : Value) (m : Fs) : Prop := Two2 w0 S O O' w f x m m
def TwoPost (w0 : World) (S O O' : Nat → Prop) (f x : Value) (m' m2' : Fs) (w w' : World) : Prop := ∃ S1 O1 O1' : Nat → Prop, Two2 w0 S1 O1 O1' w' f x m' m2' ∧ (∀ k, S1 k ∨ O1 k ∨ O1' k → (S k ∨ O k ∨ O' k) ∨ w.heap.size ≤ k) ∧ Fr (fun k => O k ∨ O' k) w w'
def DoesPost2 (w0 : World) (S O O' : Nat → Prop) (f x : Value) (m m2 m' m2' : Fs) (w : World) (e : Ending) (w' : World) : Prop := (∃ b : Bool, e = .returned (.bool b) ∧ (m = m2 → b = true)) ∧ TwoPost w0 S O O' f x m' m2' w w'
def DoesPost (w0 : World) (S O O' : Nat → Prop) (f x : Value) (m' : Fs) (w : World) (e : Ending) (w' : World) : Prop := e = .returned (.bool true) ∧ TwoPost w0 S O O' f x m' m' w w'

section
variable {w0 w w1 : World} {S O O' : Nat → Prop} {f x : Value} {m m2 : Fs} {n : Nat}
theorem Two2.noG (h : Two2 w0 S O O' w f x m m2) (hE : Env w0) : NoG O ∧ NoG O' := by
 have := env_lt hE
 exact ⟨fun k hk e => by have := h.lo k hk; omega, fun k hk e => by have := h.lo' k hk; omega⟩
theorem Two2.pair (h : Two2 w0 S O O' w f x m m2) (hE : Env w0) (hg : Good n m) (hg2 : Good n m2) (hn : n ≤ 1000) (hx : Ext w w1) : Pair S O O' (fun k => k < w.heap.size) w1 f x m m2 := by
 have ht := hg.time
 have hc := hg.calls
 have hG := h.noG hE
 exact ⟨⟨(hE.ext h.ext).ext hx, h.fs.ext hx, hg.ok, hg.plan, by omega, by omega, hG.1, fun k hk => ⟨(h.disS k hk).1, by have := h.loS k hk; have := hx.size; omega⟩, fun k hk => by have := h.lo k hk; have := hx.size; omega, hg.room0, hg.room1⟩,
  ⟨h.ref.ext hx, hg2.ok, hg2.plan, by have := hg2.time; omega, by have := hg2.calls; omega, fun k hk => by have := h.lo' k hk; have := hx.size; omega, (h.base.trans h.ext).trans hx, fun k hk => by have := h.lo' k hk; have := h.base.size; omega, hg2.room0, hg2.room1⟩, h.dis, fun k hk => (h.disS k hk).2, fun k hk => by have := h.lo k hk; have := h.base.size; omega⟩
/-- Behind both calls, and what is written into the bytes that were handed in. -/
theorem Two2.done {m' m2' : Fs} {w2 w3 : World} {vin : Value} (h : Two2 w0 S O O' w f x m m2) (hx : Ext w w1) (hb : Both S O O' (fun k => k < w.heap.size) w1 f x m' m2' w2) (hin : ∀ k, vin.ownBlock = some k → w.heap.size ≤ k ∧ k < w1.heap.size) (hg : w2.grownBy w3 vin.ownBlock) :
  TwoPost w0 S O O' f x m' m2' w w3 := by
 obtain ⟨⟨S1, O1, O1', hf, hr, hS, hlo, hlo', hdis⟩, hfr⟩ := hb
 have h01 := hx.size
 have h12 := hfr.size
 have h23 := hg.size
 have ne : ∀ k, k < w2.heap.size → ((k < w.heap.size) ∨ w1.heap.size ≤ k) → w3.heap[k]? = w2.heap[k]? := fun k hk hc => hg.block k hk (fun e => by
  have := hin k e.symm; omega)
 have kr : KeepR (Nw (fun k => k < w.heap.size) w1 w2) w2 w3 := ⟨h23, fun k hk hc => ne k hc.lt (hk.imp id (fun h => h.1))⟩
 have bo : ∀ k, O1 k → k < w.heap.size ∨ w1.heap.size ≤ k := fun k hk => (hlo k hk).1.imp (fun h1 => (h.lo k h1).2) id
 have bo' : ∀ k, O1' k → k < w.heap.size ∨ w1.heap.size ≤ k := fun k hk => (hlo' k hk).1.imp (fun h1 => (h.lo' k h1).2) id
 have bS : ∀ k, S1 k → k < w.heap.size ∨ w1.heap.size ≤ k := fun k hk => (hS k hk).1.imp (fun h1 => (h.loS k h1).2) id
 have hf3 := (hf.stay (fun k hk hl => ne k hl (bo k hk)) (fun k hk hl => ne k hl (bS k hk)) kr).mono (O' := O1) (R' := fun k => k < w3.heap.size) (fun k hk => hk) (fun k hk => by rcases hk with hk | hk <;> omega)
 have hr3 := (hr.stay (fun k hk hl => ne k hl (bo' k hk)) kr).mono (O' := O1') (R' := fun k => k < w3.heap.size) (fun k hk => hk) (fun k hk => by rcases hk with hk | hk <;> omega)
 have hfr3 : Fr (fun k => O k ∨ O' k) w w3 := by
  have a : Fr (fun k => O k ∨ O' k) w w2 := (Fr.of_ext hx).trans (hfr.mono (fun k hk => .inl hk))
  refine ⟨hg.os.trans a.os, hg.tape.trans a.tape, hg.output.trans a.output, Nat.le_trans a.size h23, fun k hk hn => ?_⟩
  exact (ne k (by omega) (.inl hk)).trans (a.block k hk hn)
 refine ⟨S1, O1, O1', ⟨h.base, ?_, hf3, hr3, fun k hk => ?_, fun k hk => ?_, fun k hk => ?_, hdis, fun k hk => ?_⟩, fun k hk => ?_, hfr3⟩
 ·exact Ext.of_fr h.ext hfr3 (fun k hk => hk.elim (fun h1 => (h.lo k h1).1) (fun h1 => (h.lo' k h1).1))
 ·have := hlo k hk
  have hs := h.ext.size
  exact ⟨by rcases this.1 with h1 | h1; exact (h.lo k h1).1; omega, by omega⟩
 ·have := hlo' k hk
  have hs := h.ext.size
  exact ⟨by rcases this.1 with h1 | h1; exact (h.lo' k h1).1; omega, by omega⟩
 ·have := hS k hk
  have hs := h.ext.size
  exact ⟨by rcases this.1 with h1 | h1; exact (h.loS k h1).1; omega, by omega⟩
 ·exact (hS k hk).2.2
 ·rcases hk with hk | hk | hk
  ·exact (hS k hk).1.imp (fun h => .inl h) (fun h => by omega)
  ·exact (hlo k hk).1.imp (fun h => .inr (.inl h)) (fun h => by omega)
  ·exact (hlo' k hk).1.imp (fun h => .inr (.inr h)) (fun h => by omega)
end

set_option maxRecDepth 100000 in
set_option maxHeartbeats 1000000 in
theorem copyB_own (v : Value) (l : B8) (w : World) (hv : IsBytes w v l) :
  Calls Tryz.prog 87 #[v] w fun e w' => (∃ v', e = .returned v' ∧ w'.ownsRow w.heap.size 5 1 v' l.length (l.map fun x => .int .u8 x.toNat)) ∧ Ext w w' := by
 have hl := hv.len
 obtain ⟨a, cap, rfl, h1, h2, h3, h4⟩ := id hv
 have hx : Ext w (w.alloc (.cells #[] 5)) := (Ext.refl w).alloc _
 have hown : (w.alloc (.cells #[] 5)).ownsRow w.heap.size 5 1 (.slice (some ⟨w.heap.size, 0, none⟩) 0 0) 0 [] := ⟨rfl, .inr ⟨w.heap.size, 0, #[], rfl, Nat.le_refl _, alloc_at _ _, Nat.le_refl _, by unfold maxLen; omega, rfl, rfl⟩⟩
 cases l with
 | nil =>
  have HRES : Hid ((w.alloc (.cells #[] 5)).ownsRow w.heap.size 5 1 (.slice (some ⟨w.heap.size, 0, none⟩) 0 0) ([] : B8).length (([] : B8).map fun x => Value.int .u8 x.toNat)) := hown
  clear hv h4 hown
  go_enter Tryz.func87, Tryz.ntmps87
  cases a with
  | none =>
   go_wp2
   go_ret
   exact ⟨⟨_, rfl, HRES.out⟩, (Ext.refl _).alloc _⟩
  | some ad =>
   go_wp2
   go_ret
   exact ⟨⟨_, rfl, HRES.out⟩, (Ext.refl _).alloc _⟩
 | cons x t =>
  obtain ⟨b, o, rfl, hc⟩ := h4 (by simp)
  generalize hL : x :: t = L at *
  have hnews : ∀ (j : Nat) u, (L.map fun x => Value.int .u8 x.toNat)[j]? = some u → (w.alloc (.cells #[] 5)).cell? ((⟨b, o, none⟩ : Addr).add j) = some u := by
   intro j u hu
   have hadd : (⟨b, o, none⟩ : Addr).add j = ⟨b, o + j, none⟩ := by unfold Addr.add; split <;> simp_all
   rw [hadd]
   exact hx.cell (hc j u hu)
  have HN : Hid _ := hnews
  clear hc hnews h4 hv hL
  go_enter Tryz.func87, Tryz.ntmps87
  go_wp2_with (at_builtin; (refine app_any _ _ _ 1 1 Tryz.underlying31 info_u8 rfl (by omega) rfl _ _ rfl w.heap.size _ 0 _ rfl hown ⟨b, o, none⟩ L.length cap (L.map fun x => Value.int .u8 x.toNat) rfl (by simp) HN.out (by intro u hu; obtain ⟨_, _, rfl⟩ := List.mem_map.1 hu; rfl) (by omega) (by omega) (by simp) ?_); intro v' w3 hown3 hg3 _; have hx3 : Ext w w3 := owns_ext_app hx hown hg3; rw [Nat.zero_add, List.nil_append] at hown3; obtain ⟨a3, c3, rfl, -⟩ := Row.of_owns hown3 (by omega); have HB : Hid _ := hown3; clear hown3)
  go_ret
  exact ⟨⟨_, rfl, HB.out⟩, hx3⟩

theorem cellsAt8 {w : World} {g : Nat} {v0 v1 v2 v3 v4 v5 v6 v7 : Value} {t : TypeId} {fr : Nat × Nat} (h : w.heap[g]? = some (.cells #[v0, v1, v2, v3, v4, v5, v6, v7] t fr)) :
  w.cell? ⟨g, 0, none⟩ = some v0 ∧ w.cell? ⟨g, 1, none⟩ = some v1 ∧ w.cell? ⟨g, 2, none⟩ = some v2 ∧ w.cell? ⟨g, 3, none⟩ = some v3 ∧ w.cell? ⟨g, 4, none⟩ = some v4 ∧ w.cell? ⟨g, 5, none⟩ = some v5 ∧ w.cell? ⟨g, 6, none⟩ = some v6 ∧ w.cell? ⟨g, 7, none⟩ = some v7 := by
 simp [World.cell?, h]

/-- Bytes of the call's own, each written anew. -/
def U8s (xs : List Value) : Prop := ∀ (i : Nat) u, xs[i]? = some u → ∃ b : Nat, b ≤ 255 ∧ u = .int .u8 b
theorem U8s.map (l : B8) : U8s (l.map fun x => Value.int .u8 x.toNat) := fun i u hu => by
 rw [List.getElem?_map] at hu
 obtain ⟨x, _, rfl⟩ := Option.map_eq_some_iff.1 hu
 exact ⟨x.toNat, by have := x.toNat_lt; omega, rfl⟩
theorem U8s.set {xs : List Value} (h : U8s xs) (k b : Nat) (hb : b ≤ 255) : U8s (xs.set k (.int .u8 b)) := fun i u hu => by
 rw [List.getElem?_set] at hu
 split at hu
 ·split at hu
  ·cases hu; exact ⟨b, hb, rfl⟩
  ·cases hu
 ·exact h i u hu


end Go.Proofs.YtfimfbdlegookaaGreatDoor

/-! marlaw5.Does: Create. Conditions: as each theorem states. -/
namespace Go.Proofs.YtfimfbdlegookaaGreatDoor
open Go Go.RowKit
variable [Inhabited BaseW]

set_option maxRecDepth 100000 in
set_option maxHeartbeats 8000000 in
theorem does_k0 {w0 w : World} {S O O' : Nat → Prop} {fv xv : Value} {m m2 : Fs} {n : Nat} {cs : List Value} {mode keep torn : Int} {path dest data : B8} {plan : List Ev} (hT : Two2 w0 S O O' w fv xv m m2) (hE : Env w0) (hg : Good n m) (hg2 : Good n m2) (hn : n ≤ 1000) (ho : IsOpn w0 cs ⟨0, mode, keep, torn, path, dest, data, plan⟩) (hok : OpOk ⟨0, mode, keep, torn, path, dest, data, plan⟩) :
  Calls Tryz.prog 37 #[fv, xv, .agg cs.toArray] w (DoesPost2 w0 S O O' fv xv m m2 (createM m path mode data).1 (createM m2 path mode data).1 w) := by
 obtain ⟨vd, vp, rfl, hd, hpl⟩ := ho
 obtain ⟨da, dc, rfl, -⟩ := id hd.bytes
 obtain ⟨_, ⟨pa, pc, rfl, -⟩, -⟩ := id hpl
 simp only at hd hpl
 have hp := hok.path
 have hq := hok.dest
 have hkp := hok.keep
 have htn := hok.torn
 have hfw := hok.few
 simp only at hp hq hkp htn hfw
 have hx0 := hT.ext
 have hba := hT.base
 obtain ⟨gf, hgf⟩ : ∃ g, fv = .pointer (some ⟨g, 0, none⟩) := by
  obtain ⟨g, gm, gd, vp, vl, vu, L, c0, hpe, -⟩ := hT.fs
  exact ⟨g, hpe⟩
 subst hgf
 obtain ⟨gx, rfl⟩ := hT.ref.ptr
 obtain ⟨wb, hwb⟩ : ∃ wb, wb = w.alloc (.cells #[.int .i64 0, .int .i64 mode, .int .i64 keep, .int .i64 torn, S8 path, S8 dest, .slice da data.length dc, .slice pa plan.length pc] 34) := ⟨_, rfl⟩
 have hxb : Ext w wb := by rw [hwb]; exact (Ext.refl _).alloc _
 have hbb : wb.heap[w.heap.size]? = some (.cells #[.int .i64 0, .int .i64 mode, .int .i64 keep, .int .i64 torn, S8 path, S8 dest, .slice da data.length dc, .slice pa plan.length pc] 34 (0, 0)) := by rw [hwb]; exact alloc_at _ _
 obtain ⟨b0, b1, b2, b3, b4, b5, b6, b7⟩ := cellsAt8 hbb
 have hsb : w.heap.size < wb.heap.size := by rw [hwb]; simp
 have HT : Hid _ := hT
 have HE : Hid _ := hE
 have HG : Hid _ := hg
 have HG2 : Hid _ := hg2
 have HWB : Hid _ := hwb
 have HXB : Hid _ := hxb
 have HBB : Hid _ := hbb
 have HD0 : Hid (OldB (.slice da data.length dc) data) := hd
 have HBA : Hid _ := hba
 have HX0 : Hid _ := hx0
 have HPL : Hid (ReadO w0 IsEvI (.slice pa plan.length pc) plan) := hpl
 have HDB : Hid _ := OldB.at hd ((hba.trans hx0).trans hxb)
 have HOKK : Hid _ := hok
 clear hT hE hg hg2 hwb hxb hbb hd hx0 hba hpl hok
 go_enter Tryz.func37, Tryz.ntmps37
 go_upto_region 1 with fail
 rw [show w.alloc (.cells #[.int .i64 0, .int .i64 mode, .int .i64 keep, .int .i64 torn, S8 path, S8 dest, .slice da data.length dc, .slice pa plan.length pc] 34) = wb from HWB.out.symm]
 go_wp2_with fail
 go_at_call 87
 refine (copyB_own _ data _ HDB.out).mono ?_
 rintro e w1 ⟨⟨vin, rfl, hin⟩, hx1⟩
 obtain ⟨ia, ic, hie, -⟩ := Row.of_owns hin HD0.out.bytes.len
 subst hie
 have HIN : Hid (IsBytes w1 (.slice ia data.length ic) data) := Row.of_owns hin HD0.out.bytes.len
 have HTI : Hid (TypB w1 (.slice ia data.length ic)) := TypB.of_owns hin
 have HOI : Hid _ := hin
 have hx01 : Ext w w1 := Ext.trans HXB.out hx1
 have HP : Hid (Pair S O O' (fun k => k < w.heap.size) w1 (.pointer (some ⟨gf, 0, none⟩)) (.pointer (some ⟨gx, 0, none⟩)) m m2) := Two2.pair HT.out HE.out HG.out HG2.out hn hx01
 have HNG : Hid _ := (Two2.noG HT.out HE.out).2
 have HB1 : Hid _ := hx1.row HBB.out
 have HNO : Hid (¬ O w.heap.size ∧ ¬ O' w.heap.size) := ⟨fun h => by have := HT.out.lo _ h; omega, fun h => by have := HT.out.lo' _ h; omega⟩
 have HB0 : Hid (Ext baseW w1) := Ext.trans (Ext.trans HBA.out HX0.out) hx01
 have HD1 : Hid (IsBytes w1 (.slice da data.length dc) data) := OldB.at HD0.out HB0.out
 have HX01 : Hid _ := hx01
 have htm := HG.out.time
 have hcl := HG.out.calls
 have htm2 := HG2.out.time
 have hcl2 := HG2.out.calls
 obtain ⟨er, her⟩ : ∃ er, (createM m path mode data).2 = er := ⟨_, rfl⟩
 have HER : Hid _ := her
 obtain ⟨er2, her2⟩ : ∃ er, (createM m2 path mode data).2 = er := ⟨_, rfl⟩
 have HER2 : Hid _ := her2
 obtain ⟨okb, hokb⟩ : ∃ okb, (er == er2) = okb := ⟨_, rfl⟩
 have HOKB : Hid (m = m2 → okb = true) := fun h => by rw [← hokb, ← her, ← her2, h]; simp
 clear her her2
 obtain ⟨m', hm'⟩ : ∃ m', (createM m path mode data).1 = m' := ⟨_, rfl⟩
 have HM : Hid _ := hm'
 obtain ⟨m2', hm2'⟩ : ∃ m', (createM m2 path mode data).1 = m' := ⟨_, rfl⟩
 have HM2 : Hid _ := hm2'
 replace b0 := hx1.cell b0
 have hsz1 := hx1.size
 clear hin hx1 hx01 hm' hm2' b1 b2 b3 b4 b5 b6 b7
 go_upto_region 5 with fail
 apply wp_region_inv 16 (fun z w' => DJ S O O' (fun k => k < w.heap.size) w1 (.pointer (some ⟨gf, 0, none⟩)) (.pointer (some ⟨gx, 0, none⟩)) m' m2' (fun u => u = .int .i64 er) (fun u => u = .int .i64 er2) (z 6) (z 14) w') [false, false, false, false, false, false, true, false, false, false, false, false, false, false, true, false] [_, _, _, _, _, _, undef, _, _, _, _, _, _, _, undef, .bool okb] [none, none, none, none, none, none, none, none, none, none, none, none, none, none, none, none] [[], [], [1], [], [3], [], [0, 2, 4, 5], [], [], [8], [], [10], [], [12], [7, 9, 11, 13], [6, 14]] (by kernel_rfl) (by kernel_rfl) rfl
 ·exact DJ.start ⟨rfl, rfl, rfl, Nat.le_refl _, fun _ _ => rfl⟩
 ·simp (maxSteps := 1000000) only [oblI, stepI, knowsI, getP, mixP, List.getD_cons_zero, List.getD_cons_succ, Bool.false_eq_true, if_false, if_true, and_true, true_and, forall_const, Nat.zero_add, Nat.reduceAdd, List.take_succ_cons, List.take_zero, fillFrom, Act.put, List.setIfInBounds_toArray, List.set_cons_zero, List.set_cons_succ]
  refine ⟨?_, ?_, ?_, ?_, ?_, ?_, ?_, ?_, ?_, ?_, ?_, ?_, ?_, ?_, ?_, ?_⟩
  ·intro xs z wq hj R hR
   obtain ⟨c0, c1, c2, c3, c4, c5, c6, c7⟩ := cellsAt8 (hj.row HB1.out HNO.out.1 HNO.out.2)
   go_simp
   exact hR _ _ hj rfl
  ·intro xs z wq hj R hR
   obtain ⟨c0, c1, c2, c3, c4, c5, c6, c7⟩ := cellsAt8 (hj.row HB1.out HNO.out.1 HNO.out.2)
   go_simp
   exact hR _ _ hj rfl
  ·intro xs z wq hj hk R hR
   obtain ⟨c0, c1, c2, c3, c4, c5, c6, c7⟩ := cellsAt8 (hj.row HB1.out HNO.out.1 HNO.out.2)
   go_simp
   exact hR _ _ hj rfl
  ·intro xs z wq hj R hR
   obtain ⟨c0, c1, c2, c3, c4, c5, c6, c7⟩ := cellsAt8 (hj.row HB1.out HNO.out.1 HNO.out.2)
   go_simp
   exact hR _ _ hj rfl
  ·intro xs z wq hj hk R hR
   obtain ⟨c0, c1, c2, c3, c4, c5, c6, c7⟩ := cellsAt8 (hj.row HB1.out HNO.out.1 HNO.out.2)
   go_simp
   exact hR _ _ hj rfl
  ·intro xs z wq hj R hR
   obtain ⟨c0, c1, c2, c3, c4, c5, c6, c7⟩ := cellsAt8 (hj.row HB1.out HNO.out.1 HNO.out.2)
   go_simp
   exact hR _ _ hj rfl
  ·intro xs z wq hj hz hk R hR
   obtain ⟨hk0, hk1, hk2, hk3⟩ := hk
   rw [hz] at hj
   go_simp
   exact (create_any path mode _ data (DJ.fin HP.out HNG.out hj) hp (hj.bytes HIN.out HTI.out) (typed_out (hj.typed HTI.out) ⟨_, _, _, rfl⟩)).mono (by rintro e' w4 ⟨rfl, h4⟩; rw [HM.out] at h4; exact ⟨_, rfl, hR _ _ (DJ.setF HP.out hj (by rw [HER.out]) h4)⟩)
  ·intro xs z wq hj R hR
   obtain ⟨c0, c1, c2, c3, c4, c5, c6, c7⟩ := cellsAt8 (hj.row HB1.out HNO.out.1 HNO.out.2)
   go_simp
   exact hR _ _ hj rfl
  ·intro xs z wq hj R hR
   obtain ⟨c0, c1, c2, c3, c4, c5, c6, c7⟩ := cellsAt8 (hj.row HB1.out HNO.out.1 HNO.out.2)
   go_simp
   exact hR _ _ hj rfl
  ·intro xs z wq hj hk R hR
   obtain ⟨c0, c1, c2, c3, c4, c5, c6, c7⟩ := cellsAt8 (hj.row HB1.out HNO.out.1 HNO.out.2)
   go_simp
   exact hR _ _ hj rfl
  ·intro xs z wq hj R hR
   obtain ⟨c0, c1, c2, c3, c4, c5, c6, c7⟩ := cellsAt8 (hj.row HB1.out HNO.out.1 HNO.out.2)
   go_simp
   exact hR _ _ hj rfl
  ·intro xs z wq hj hk R hR
   obtain ⟨c0, c1, c2, c3, c4, c5, c6, c7⟩ := cellsAt8 (hj.row HB1.out HNO.out.1 HNO.out.2)
   go_simp
   exact hR _ _ hj rfl
  ·intro xs z wq hj R hR
   obtain ⟨c0, c1, c2, c3, c4, c5, c6, c7⟩ := cellsAt8 (hj.row HB1.out HNO.out.1 HNO.out.2)
   go_simp
   exact hR _ _ hj rfl
  ·intro xs z wq hj hk R hR
   obtain ⟨c0, c1, c2, c3, c4, c5, c6, c7⟩ := cellsAt8 (hj.row HB1.out HNO.out.1 HNO.out.2)
   go_simp
   exact hR _ _ hj rfl
  ·intro xs z wq hj hz hk R hR
   obtain ⟨hk0, hk1, hk2, hk3⟩ := hk
   rw [hz] at hj
   go_simp
   exact (createR_any path mode _ data (DJ.rin HP.out hj) hp (OldB.at HD0.out (DJ.base HP.out HB0.out hj)) (OldB.out HD0.out HP.out.rin.high)).mono (by rintro e' w4 ⟨rfl, h4⟩; rw [HM2.out] at h4; exact ⟨_, rfl, hR _ _ (DJ.setR HP.out hj (by rw [HER2.out]) h4)⟩)
  ·intro xs z wq hj hk R hR
   obtain ⟨hk0, hk1⟩ := hk
   rw [hk0, hk1] at hj
   obtain ⟨e1, e2, -⟩ := id hj
   go_simp
   exact hR _ _ (by rw [hk0, hk1]; exact hj) rfl
 intro xs w2 hj2 hk
 simp only [zAll, List.getD_cons_zero, List.getD_cons_succ, Bool.false_eq_true, if_false, if_true] at hj2
 simp only [heldI, Nat.zero_add, Nat.reduceAdd, and_true] at hk
 obtain ⟨q0, q1, q2, q3, q4, q5, q7, q8, q9, q10, q11, q12, q13, q15⟩ := hk
 simp (maxSteps := 1000000) only [List.drop_succ_cons, List.drop_zero, Nat.zero_add, Nat.reduceAdd, List.take_succ_cons, List.take_zero, fillFrom, Act.put, List.setIfInBounds_toArray, List.set_cons_zero, List.set_cons_succ, q0, q1, q2, q3, q4, q5, q7, q8, q9, q10, q11, q12, q13, q15]
 clear q0 q1 q2 q3 q4 q5 q7 q8 q9 q10 q11 q12 q13 q15
 generalize xs 6 = x6 at *
 generalize xs 14 = x14 at *
 obtain ⟨rfl, rfl, hboth⟩ := hj2
 have HBO : Hid _ := hboth
 have hb2 := hboth.fr.row HB1.out (fun h => h.elim HNO.out.1 HNO.out.2)
 obtain ⟨-, -, -, -, -, -, c6, -⟩ := cellsAt8 hb2
 have HBI : Hid (IsBytes w2 (.slice ia data.length ic) data) := Row.keepB HIN.out HTI.out hboth.fr.keep
 have HBD : Hid (IsBytes w2 (.slice da data.length dc) data) := OldB.at HD0.out (Ext.of_fr HB0.out hboth.fr (fun k hk => hk.elim (HP.out.high k) (HP.out.rin.high k)))
 have HOW : Hid (w2.ownsRow wb.heap.size 5 1 (.slice ia data.length ic) data.length (data.map fun x => .int .u8 x.toNat)) := by
  refine ⟨HOI.out.1, HOI.out.2.imp id ?_⟩
  rintro ⟨g, cap, cur, h1, h2, h3, h4⟩
  exact ⟨g, cap, cur, h1, h2, (hboth.fr.keep.2 _ ⟨_, _, _, h3, byt_u8⟩).trans h3, h4⟩
 have hdl := HD1.out.len
 have HIB : Hid (∀ k, (Value.slice ia data.length ic).ownBlock = some k → w.heap.size ≤ k ∧ k < w1.heap.size) := fun k hk => by
  have := World.ownsRow.lt HOI.out k hk
  omega
 clear hb2 hboth
 go_upto_region 37 with fail
 go_wp2_with fail
 go_at_call 100
 refine (bytesEq_any _ _ _ _ _ HBI.out HBD.out).mono ?_
 rw [beq_self_eq_true]
 rintro e w3 ⟨rfl, rfl⟩
 clear c6
 go_wp2_with fail
 go_loopw [17] (fun i wr => ∃ (k : Nat) (xs : List Value), k ≤ data.length ∧ i = .int .i64 k ∧ wr.ownsRow wb.heap.size 5 1 (.slice ia data.length ic) data.length xs ∧ U8s xs ∧ w3.grownBy wr (Value.slice ia data.length ic).ownBlock) (fun i _ => data.length - (intOf i).toNat)
 case atStart => exact ⟨0, _, Nat.zero_le _, rfl, HOW.out, U8s.map _, ⟨rfl, rfl, rfl, Nat.le_refl _, fun _ _ _ => rfl⟩⟩
 case round =>
  obtain ⟨k, ys, hk, rfl, hown, hu8, hgr⟩ := hrel
  have HOW3 : Hid _ := hown
  have HU : Hid _ := hu8
  have HGR : Hid _ := hgr
  have hyl : ys.length = data.length := by have := hown.1; omega
  clear hown hu8 hgr
  by_cases hlt : k < data.length
  ·obtain ⟨g, cap', hge⟩ := owns_some HOW3.out (by omega)
   simp only [Value.slice.injEq, true_and] at hge
   obtain ⟨rfl, rfl⟩ := hge
   obtain ⟨u, hu⟩ : ∃ u, ys[k]? = some u := ⟨_, List.getElem?_eq_getElem (by omega)⟩
   obtain ⟨b, hb, rfl⟩ := HU.out k u hu
   have hcell : wr.cell? ⟨g, k, none⟩ = some (.int .u8 b) := by
    rw [World.ownsRow.cellAt HOW3.out k (by omega)]
    exact hu
   have hfz := World.ownsRow.frozenAt HOW3.out k
   clear hu
   go_wp2
   go_roundw
   case rel =>
    obtain ⟨ho3, hg3⟩ := World.ownsRow.stored HOW3.out k (.int .u8 (((b : Int) + 1) % 256))
    refine ⟨k + 1, ys.set k (.int .u8 (((b : Int) + 1) % 256)), by omega, by go_num, ho3, ?_, HGR.out.trans hg3⟩
    have he : ((b : Int) + 1) % 256 = (((b + 1) % 256 : Nat) : Int) := by omega
    rw [he]
    exact U8s.set HU.out k _ (by omega)
   case measure => simp [intOf]; omega
  ·have hkk : k = data.length := by omega
   subst hkk
   go_wp2
   go_ret
   rw [HM.out, HM2.out]
   exact ⟨⟨_, rfl, HOKB.out⟩, Two2.done HT.out HX01.out HBO.out HIB.out HGR.out⟩

end Go.Proofs.YtfimfbdlegookaaGreatDoor

/-! marlaw5.Does: Write. Conditions: as each theorem states. -/
namespace Go.Proofs.YtfimfbdlegookaaGreatDoor
open Go Go.RowKit
variable [Inhabited BaseW]

set_option maxRecDepth 100000 in
set_option maxHeartbeats 8000000 in
theorem does_k1 {w0 w : World} {S O O' : Nat → Prop} {fv xv : Value} {m m2 : Fs} {n : Nat} {cs : List Value} {mode keep torn : Int} {path dest data : B8} {plan : List Ev} (hT : Two2 w0 S O O' w fv xv m m2) (hE : Env w0) (hg : Good n m) (hg2 : Good n m2) (hn : n ≤ 1000) (ho : IsOpn w0 cs ⟨1, mode, keep, torn, path, dest, data, plan⟩) (hok : OpOk ⟨1, mode, keep, torn, path, dest, data, plan⟩) :
  Calls Tryz.prog 37 #[fv, xv, .agg cs.toArray] w (DoesPost2 w0 S O O' fv xv m m2 (writeM m path mode data).1 (writeM m2 path mode data).1 w) := by
 obtain ⟨vd, vp, rfl, hd, hpl⟩ := ho
 obtain ⟨da, dc, rfl, -⟩ := id hd.bytes
 obtain ⟨_, ⟨pa, pc, rfl, -⟩, -⟩ := id hpl
 simp only at hd hpl
 have hp := hok.path
 have hq := hok.dest
 have hkp := hok.keep
 have htn := hok.torn
 have hfw := hok.few
 simp only at hp hq hkp htn hfw
 have hx0 := hT.ext
 have hba := hT.base
 obtain ⟨gf, hgf⟩ : ∃ g, fv = .pointer (some ⟨g, 0, none⟩) := by
  obtain ⟨g, gm, gd, vp, vl, vu, L, c0, hpe, -⟩ := hT.fs
  exact ⟨g, hpe⟩
 subst hgf
 obtain ⟨gx, rfl⟩ := hT.ref.ptr
 obtain ⟨wb, hwb⟩ : ∃ wb, wb = w.alloc (.cells #[.int .i64 1, .int .i64 mode, .int .i64 keep, .int .i64 torn, S8 path, S8 dest, .slice da data.length dc, .slice pa plan.length pc] 34) := ⟨_, rfl⟩
 have hxb : Ext w wb := by rw [hwb]; exact (Ext.refl _).alloc _
 have hbb : wb.heap[w.heap.size]? = some (.cells #[.int .i64 1, .int .i64 mode, .int .i64 keep, .int .i64 torn, S8 path, S8 dest, .slice da data.length dc, .slice pa plan.length pc] 34 (0, 0)) := by rw [hwb]; exact alloc_at _ _
 obtain ⟨b0, b1, b2, b3, b4, b5, b6, b7⟩ := cellsAt8 hbb
 have hsb : w.heap.size < wb.heap.size := by rw [hwb]; simp
 have HT : Hid _ := hT
 have HE : Hid _ := hE
 have HG : Hid _ := hg
 have HG2 : Hid _ := hg2
 have HWB : Hid _ := hwb
 have HXB : Hid _ := hxb
 have HBB : Hid _ := hbb
 have HD0 : Hid (OldB (.slice da data.length dc) data) := hd
 have HBA : Hid _ := hba
 have HX0 : Hid _ := hx0
 have HPL : Hid (ReadO w0 IsEvI (.slice pa plan.length pc) plan) := hpl
 have HDB : Hid _ := OldB.at hd ((hba.trans hx0).trans hxb)
 have HOKK : Hid _ := hok
 clear hT hE hg hg2 hwb hxb hbb hd hx0 hba hpl hok
 go_enter Tryz.func37, Tryz.ntmps37
 go_upto_region 1 with fail
 rw [show w.alloc (.cells #[.int .i64 1, .int .i64 mode, .int .i64 keep, .int .i64 torn, S8 path, S8 dest, .slice da data.length dc, .slice pa plan.length pc] 34) = wb from HWB.out.symm]
 go_wp2_with fail
 go_at_call 87
 refine (copyB_own _ data _ HDB.out).mono ?_
 rintro e w1 ⟨⟨vin, rfl, hin⟩, hx1⟩
 obtain ⟨ia, ic, hie, -⟩ := Row.of_owns hin HD0.out.bytes.len
 subst hie
 have HIN : Hid (IsBytes w1 (.slice ia data.length ic) data) := Row.of_owns hin HD0.out.bytes.len
 have HTI : Hid (TypB w1 (.slice ia data.length ic)) := TypB.of_owns hin
 have HOI : Hid _ := hin
 have hx01 : Ext w w1 := Ext.trans HXB.out hx1
 have HP : Hid (Pair S O O' (fun k => k < w.heap.size) w1 (.pointer (some ⟨gf, 0, none⟩)) (.pointer (some ⟨gx, 0, none⟩)) m m2) := Two2.pair HT.out HE.out HG.out HG2.out hn hx01
 have HNG : Hid _ := (Two2.noG HT.out HE.out).2
 have HB1 : Hid _ := hx1.row HBB.out
 have HNO : Hid (¬ O w.heap.size ∧ ¬ O' w.heap.size) := ⟨fun h => by have := HT.out.lo _ h; omega, fun h => by have := HT.out.lo' _ h; omega⟩
 have HB0 : Hid (Ext baseW w1) := Ext.trans (Ext.trans HBA.out HX0.out) hx01
 have HD1 : Hid (IsBytes w1 (.slice da data.length dc) data) := OldB.at HD0.out HB0.out
 have HX01 : Hid _ := hx01
 have htm := HG.out.time
 have hcl := HG.out.calls
 have htm2 := HG2.out.time
 have hcl2 := HG2.out.calls
 obtain ⟨er, her⟩ : ∃ er, (writeM m path mode data).2 = er := ⟨_, rfl⟩
 have HER : Hid _ := her
 obtain ⟨er2, her2⟩ : ∃ er, (writeM m2 path mode data).2 = er := ⟨_, rfl⟩
 have HER2 : Hid _ := her2
 obtain ⟨okb, hokb⟩ : ∃ okb, (er == er2) = okb := ⟨_, rfl⟩
 have HOKB : Hid (m = m2 → okb = true) := fun h => by rw [← hokb, ← her, ← her2, h]; simp
 clear her her2
 obtain ⟨m', hm'⟩ : ∃ m', (writeM m path mode data).1 = m' := ⟨_, rfl⟩
 have HM : Hid _ := hm'
 obtain ⟨m2', hm2'⟩ : ∃ m', (writeM m2 path mode data).1 = m' := ⟨_, rfl⟩
 have HM2 : Hid _ := hm2'
 replace b0 := hx1.cell b0
 have hsz1 := hx1.size
 clear hin hx1 hx01 hm' hm2' b1 b2 b3 b4 b5 b6 b7
 go_upto_region 7 with fail
 apply wp_region_inv 16 (fun z w' => DJ S O O' (fun k => k < w.heap.size) w1 (.pointer (some ⟨gf, 0, none⟩)) (.pointer (some ⟨gx, 0, none⟩)) m' m2' (fun u => u = .int .i64 er) (fun u => u = .int .i64 er2) (z 6) (z 14) w') [false, false, false, false, false, false, true, false, false, false, false, false, false, false, true, false] [_, _, _, _, _, _, undef, _, _, _, _, _, _, _, undef, .bool okb] [none, none, none, none, none, none, none, none, none, none, none, none, none, none, none, none] [[], [], [1], [], [3], [], [0, 2, 4, 5], [], [], [8], [], [10], [], [12], [7, 9, 11, 13], [6, 14]] (by kernel_rfl) (by kernel_rfl) rfl
 ·exact DJ.start ⟨rfl, rfl, rfl, Nat.le_refl _, fun _ _ => rfl⟩
 ·simp (maxSteps := 1000000) only [oblI, stepI, knowsI, getP, mixP, List.getD_cons_zero, List.getD_cons_succ, Bool.false_eq_true, if_false, if_true, and_true, true_and, forall_const, Nat.zero_add, Nat.reduceAdd, List.take_succ_cons, List.take_zero, fillFrom, Act.put, List.setIfInBounds_toArray, List.set_cons_zero, List.set_cons_succ]
  refine ⟨?_, ?_, ?_, ?_, ?_, ?_, ?_, ?_, ?_, ?_, ?_, ?_, ?_, ?_, ?_, ?_⟩
  ·intro xs z wq hj R hR
   obtain ⟨c0, c1, c2, c3, c4, c5, c6, c7⟩ := cellsAt8 (hj.row HB1.out HNO.out.1 HNO.out.2)
   go_simp
   exact hR _ _ hj rfl
  ·intro xs z wq hj R hR
   obtain ⟨c0, c1, c2, c3, c4, c5, c6, c7⟩ := cellsAt8 (hj.row HB1.out HNO.out.1 HNO.out.2)
   go_simp
   exact hR _ _ hj rfl
  ·intro xs z wq hj hk R hR
   obtain ⟨c0, c1, c2, c3, c4, c5, c6, c7⟩ := cellsAt8 (hj.row HB1.out HNO.out.1 HNO.out.2)
   go_simp
   exact hR _ _ hj rfl
  ·intro xs z wq hj R hR
   obtain ⟨c0, c1, c2, c3, c4, c5, c6, c7⟩ := cellsAt8 (hj.row HB1.out HNO.out.1 HNO.out.2)
   go_simp
   exact hR _ _ hj rfl
  ·intro xs z wq hj hk R hR
   obtain ⟨c0, c1, c2, c3, c4, c5, c6, c7⟩ := cellsAt8 (hj.row HB1.out HNO.out.1 HNO.out.2)
   go_simp
   exact hR _ _ hj rfl
  ·intro xs z wq hj R hR
   obtain ⟨c0, c1, c2, c3, c4, c5, c6, c7⟩ := cellsAt8 (hj.row HB1.out HNO.out.1 HNO.out.2)
   go_simp
   exact hR _ _ hj rfl
  ·intro xs z wq hj hz hk R hR
   obtain ⟨hk0, hk1, hk2, hk3⟩ := hk
   rw [hz] at hj
   go_simp
   exact (write_any path mode _ data (DJ.fin HP.out HNG.out hj) hp (hj.bytes HIN.out HTI.out) (typed_out (hj.typed HTI.out) ⟨_, _, _, rfl⟩)).mono (by rintro e' w4 ⟨rfl, h4⟩; rw [HM.out] at h4; exact ⟨_, rfl, hR _ _ (DJ.setF HP.out hj (by rw [HER.out]) h4)⟩)
  ·intro xs z wq hj R hR
   obtain ⟨c0, c1, c2, c3, c4, c5, c6, c7⟩ := cellsAt8 (hj.row HB1.out HNO.out.1 HNO.out.2)
   go_simp
   exact hR _ _ hj rfl
  ·intro xs z wq hj R hR
   obtain ⟨c0, c1, c2, c3, c4, c5, c6, c7⟩ := cellsAt8 (hj.row HB1.out HNO.out.1 HNO.out.2)
   go_simp
   exact hR _ _ hj rfl
  ·intro xs z wq hj hk R hR
   obtain ⟨c0, c1, c2, c3, c4, c5, c6, c7⟩ := cellsAt8 (hj.row HB1.out HNO.out.1 HNO.out.2)
   go_simp
   exact hR _ _ hj rfl
  ·intro xs z wq hj R hR
   obtain ⟨c0, c1, c2, c3, c4, c5, c6, c7⟩ := cellsAt8 (hj.row HB1.out HNO.out.1 HNO.out.2)
   go_simp
   exact hR _ _ hj rfl
  ·intro xs z wq hj hk R hR
   obtain ⟨c0, c1, c2, c3, c4, c5, c6, c7⟩ := cellsAt8 (hj.row HB1.out HNO.out.1 HNO.out.2)
   go_simp
   exact hR _ _ hj rfl
  ·intro xs z wq hj R hR
   obtain ⟨c0, c1, c2, c3, c4, c5, c6, c7⟩ := cellsAt8 (hj.row HB1.out HNO.out.1 HNO.out.2)
   go_simp
   exact hR _ _ hj rfl
  ·intro xs z wq hj hk R hR
   obtain ⟨c0, c1, c2, c3, c4, c5, c6, c7⟩ := cellsAt8 (hj.row HB1.out HNO.out.1 HNO.out.2)
   go_simp
   exact hR _ _ hj rfl
  ·intro xs z wq hj hz hk R hR
   obtain ⟨hk0, hk1, hk2, hk3⟩ := hk
   rw [hz] at hj
   go_simp
   exact (writeR_any path mode _ data (DJ.rin HP.out hj) hp (OldB.at HD0.out (DJ.base HP.out HB0.out hj)) (OldB.out HD0.out HP.out.rin.high)).mono (by rintro e' w4 ⟨rfl, h4⟩; rw [HM2.out] at h4; exact ⟨_, rfl, hR _ _ (DJ.setR HP.out hj (by rw [HER2.out]) h4)⟩)
  ·intro xs z wq hj hk R hR
   obtain ⟨hk0, hk1⟩ := hk
   rw [hk0, hk1] at hj
   obtain ⟨e1, e2, -⟩ := id hj
   go_simp
   exact hR _ _ (by rw [hk0, hk1]; exact hj) rfl
 intro xs w2 hj2 hk
 simp only [zAll, List.getD_cons_zero, List.getD_cons_succ, Bool.false_eq_true, if_false, if_true] at hj2
 simp only [heldI, Nat.zero_add, Nat.reduceAdd, and_true] at hk
 obtain ⟨q0, q1, q2, q3, q4, q5, q7, q8, q9, q10, q11, q12, q13, q15⟩ := hk
 simp (maxSteps := 1000000) only [List.drop_succ_cons, List.drop_zero, Nat.zero_add, Nat.reduceAdd, List.take_succ_cons, List.take_zero, fillFrom, Act.put, List.setIfInBounds_toArray, List.set_cons_zero, List.set_cons_succ, q0, q1, q2, q3, q4, q5, q7, q8, q9, q10, q11, q12, q13, q15]
 clear q0 q1 q2 q3 q4 q5 q7 q8 q9 q10 q11 q12 q13 q15
 generalize xs 6 = x6 at *
 generalize xs 14 = x14 at *
 obtain ⟨rfl, rfl, hboth⟩ := hj2
 have HBO : Hid _ := hboth
 have hb2 := hboth.fr.row HB1.out (fun h => h.elim HNO.out.1 HNO.out.2)
 obtain ⟨-, -, -, -, -, -, c6, -⟩ := cellsAt8 hb2
 have HBI : Hid (IsBytes w2 (.slice ia data.length ic) data) := Row.keepB HIN.out HTI.out hboth.fr.keep
 have HBD : Hid (IsBytes w2 (.slice da data.length dc) data) := OldB.at HD0.out (Ext.of_fr HB0.out hboth.fr (fun k hk => hk.elim (HP.out.high k) (HP.out.rin.high k)))
 have HOW : Hid (w2.ownsRow wb.heap.size 5 1 (.slice ia data.length ic) data.length (data.map fun x => .int .u8 x.toNat)) := by
  refine ⟨HOI.out.1, HOI.out.2.imp id ?_⟩
  rintro ⟨g, cap, cur, h1, h2, h3, h4⟩
  exact ⟨g, cap, cur, h1, h2, (hboth.fr.keep.2 _ ⟨_, _, _, h3, byt_u8⟩).trans h3, h4⟩
 have hdl := HD1.out.len
 have HIB : Hid (∀ k, (Value.slice ia data.length ic).ownBlock = some k → w.heap.size ≤ k ∧ k < w1.heap.size) := fun k hk => by
  have := World.ownsRow.lt HOI.out k hk
  omega
 clear hb2 hboth
 go_upto_region 37 with fail
 go_wp2_with fail
 go_at_call 100
 refine (bytesEq_any _ _ _ _ _ HBI.out HBD.out).mono ?_
 rw [beq_self_eq_true]
 rintro e w3 ⟨rfl, rfl⟩
 clear c6
 go_wp2_with fail
 go_loopw [17] (fun i wr => ∃ (k : Nat) (xs : List Value), k ≤ data.length ∧ i = .int .i64 k ∧ wr.ownsRow wb.heap.size 5 1 (.slice ia data.length ic) data.length xs ∧ U8s xs ∧ w3.grownBy wr (Value.slice ia data.length ic).ownBlock) (fun i _ => data.length - (intOf i).toNat)
 case atStart => exact ⟨0, _, Nat.zero_le _, rfl, HOW.out, U8s.map _, ⟨rfl, rfl, rfl, Nat.le_refl _, fun _ _ _ => rfl⟩⟩
 case round =>
  obtain ⟨k, ys, hk, rfl, hown, hu8, hgr⟩ := hrel
  have HOW3 : Hid _ := hown
  have HU : Hid _ := hu8
  have HGR : Hid _ := hgr
  have hyl : ys.length = data.length := by have := hown.1; omega
  clear hown hu8 hgr
  by_cases hlt : k < data.length
  ·obtain ⟨g, cap', hge⟩ := owns_some HOW3.out (by omega)
   simp only [Value.slice.injEq, true_and] at hge
   obtain ⟨rfl, rfl⟩ := hge
   obtain ⟨u, hu⟩ : ∃ u, ys[k]? = some u := ⟨_, List.getElem?_eq_getElem (by omega)⟩
   obtain ⟨b, hb, rfl⟩ := HU.out k u hu
   have hcell : wr.cell? ⟨g, k, none⟩ = some (.int .u8 b) := by
    rw [World.ownsRow.cellAt HOW3.out k (by omega)]
    exact hu
   have hfz := World.ownsRow.frozenAt HOW3.out k
   clear hu
   go_wp2
   go_roundw
   case rel =>
    obtain ⟨ho3, hg3⟩ := World.ownsRow.stored HOW3.out k (.int .u8 (((b : Int) + 1) % 256))
    refine ⟨k + 1, ys.set k (.int .u8 (((b : Int) + 1) % 256)), by omega, by go_num, ho3, ?_, HGR.out.trans hg3⟩
    have he : ((b : Int) + 1) % 256 = (((b + 1) % 256 : Nat) : Int) := by omega
    rw [he]
    exact U8s.set HU.out k _ (by omega)
   case measure => simp [intOf]; omega
  ·have hkk : k = data.length := by omega
   subst hkk
   go_wp2
   go_ret
   rw [HM.out, HM2.out]
   exact ⟨⟨_, rfl, HOKB.out⟩, Two2.done HT.out HX01.out HBO.out HIB.out HGR.out⟩

end Go.Proofs.YtfimfbdlegookaaGreatDoor

/-! marlaw5.Does: Move. Conditions: as each theorem states. -/
namespace Go.Proofs.YtfimfbdlegookaaGreatDoor
open Go Go.RowKit
variable [Inhabited BaseW]

set_option maxRecDepth 100000 in
set_option maxHeartbeats 8000000 in
theorem does_k2 {w0 w : World} {S O O' : Nat → Prop} {fv xv : Value} {m m2 : Fs} {n : Nat} {cs : List Value} {mode keep torn : Int} {path dest data : B8} {plan : List Ev} (hT : Two2 w0 S O O' w fv xv m m2) (hE : Env w0) (hg : Good n m) (hg2 : Good n m2) (hn : n ≤ 1000) (ho : IsOpn w0 cs ⟨2, mode, keep, torn, path, dest, data, plan⟩) (hok : OpOk ⟨2, mode, keep, torn, path, dest, data, plan⟩) :
  Calls Tryz.prog 37 #[fv, xv, .agg cs.toArray] w (DoesPost2 w0 S O O' fv xv m m2 (moveM m path dest false).1 (moveM m2 path dest false).1 w) := by
 obtain ⟨vd, vp, rfl, hd, hpl⟩ := ho
 obtain ⟨da, dc, rfl, -⟩ := id hd.bytes
 obtain ⟨_, ⟨pa, pc, rfl, -⟩, -⟩ := id hpl
 simp only at hd hpl
 have hp := hok.path
 have hq := hok.dest
 have hkp := hok.keep
 have htn := hok.torn
 have hfw := hok.few
 simp only at hp hq hkp htn hfw
 have hx0 := hT.ext
 have hba := hT.base
 obtain ⟨gf, hgf⟩ : ∃ g, fv = .pointer (some ⟨g, 0, none⟩) := by
  obtain ⟨g, gm, gd, vp, vl, vu, L, c0, hpe, -⟩ := hT.fs
  exact ⟨g, hpe⟩
 subst hgf
 obtain ⟨gx, rfl⟩ := hT.ref.ptr
 obtain ⟨wb, hwb⟩ : ∃ wb, wb = w.alloc (.cells #[.int .i64 2, .int .i64 mode, .int .i64 keep, .int .i64 torn, S8 path, S8 dest, .slice da data.length dc, .slice pa plan.length pc] 34) := ⟨_, rfl⟩
 have hxb : Ext w wb := by rw [hwb]; exact (Ext.refl _).alloc _
 have hbb : wb.heap[w.heap.size]? = some (.cells #[.int .i64 2, .int .i64 mode, .int .i64 keep, .int .i64 torn, S8 path, S8 dest, .slice da data.length dc, .slice pa plan.length pc] 34 (0, 0)) := by rw [hwb]; exact alloc_at _ _
 obtain ⟨b0, b1, b2, b3, b4, b5, b6, b7⟩ := cellsAt8 hbb
 have hsb : w.heap.size < wb.heap.size := by rw [hwb]; simp
 have HT : Hid _ := hT
 have HE : Hid _ := hE
 have HG : Hid _ := hg
 have HG2 : Hid _ := hg2
 have HWB : Hid _ := hwb
 have HXB : Hid _ := hxb
 have HBB : Hid _ := hbb
 have HD0 : Hid (OldB (.slice da data.length dc) data) := hd
 have HBA : Hid _ := hba
 have HX0 : Hid _ := hx0
 have HPL : Hid (ReadO w0 IsEvI (.slice pa plan.length pc) plan) := hpl
 have HDB : Hid _ := OldB.at hd ((hba.trans hx0).trans hxb)
 have HOKK : Hid _ := hok
 clear hT hE hg hg2 hwb hxb hbb hd hx0 hba hpl hok
 go_enter Tryz.func37, Tryz.ntmps37
 go_upto_region 1 with fail
 rw [show w.alloc (.cells #[.int .i64 2, .int .i64 mode, .int .i64 keep, .int .i64 torn, S8 path, S8 dest, .slice da data.length dc, .slice pa plan.length pc] 34) = wb from HWB.out.symm]
 go_wp2_with fail
 go_at_call 87
 refine (copyB_own _ data _ HDB.out).mono ?_
 rintro e w1 ⟨⟨vin, rfl, hin⟩, hx1⟩
 obtain ⟨ia, ic, hie, -⟩ := Row.of_owns hin HD0.out.bytes.len
 subst hie
 have HIN : Hid (IsBytes w1 (.slice ia data.length ic) data) := Row.of_owns hin HD0.out.bytes.len
 have HTI : Hid (TypB w1 (.slice ia data.length ic)) := TypB.of_owns hin
 have HOI : Hid _ := hin
 have hx01 : Ext w w1 := Ext.trans HXB.out hx1
 have HP : Hid (Pair S O O' (fun k => k < w.heap.size) w1 (.pointer (some ⟨gf, 0, none⟩)) (.pointer (some ⟨gx, 0, none⟩)) m m2) := Two2.pair HT.out HE.out HG.out HG2.out hn hx01
 have HNG : Hid _ := (Two2.noG HT.out HE.out).2
 have HB1 : Hid _ := hx1.row HBB.out
 have HNO : Hid (¬ O w.heap.size ∧ ¬ O' w.heap.size) := ⟨fun h => by have := HT.out.lo _ h; omega, fun h => by have := HT.out.lo' _ h; omega⟩
 have HB0 : Hid (Ext baseW w1) := Ext.trans (Ext.trans HBA.out HX0.out) hx01
 have HD1 : Hid (IsBytes w1 (.slice da data.length dc) data) := OldB.at HD0.out HB0.out
 have HX01 : Hid _ := hx01
 have htm := HG.out.time
 have hcl := HG.out.calls
 have htm2 := HG2.out.time
 have hcl2 := HG2.out.calls
 obtain ⟨er, her⟩ : ∃ er, (moveM m path dest false).2 = er := ⟨_, rfl⟩
 have HER : Hid _ := her
 obtain ⟨er2, her2⟩ : ∃ er, (moveM m2 path dest false).2 = er := ⟨_, rfl⟩
 have HER2 : Hid _ := her2
 obtain ⟨okb, hokb⟩ : ∃ okb, (er == er2) = okb := ⟨_, rfl⟩
 have HOKB : Hid (m = m2 → okb = true) := fun h => by rw [← hokb, ← her, ← her2, h]; simp
 clear her her2
 obtain ⟨m', hm'⟩ : ∃ m', (moveM m path dest false).1 = m' := ⟨_, rfl⟩
 have HM : Hid _ := hm'
 obtain ⟨m2', hm2'⟩ : ∃ m', (moveM m2 path dest false).1 = m' := ⟨_, rfl⟩
 have HM2 : Hid _ := hm2'
 replace b0 := hx1.cell b0
 have hsz1 := hx1.size
 clear hin hx1 hx01 hm' hm2' b1 b2 b3 b4 b5 b6 b7
 go_upto_region 9 with fail
 apply wp_region_inv 13 (fun z w' => DJ S O O' (fun k => k < w.heap.size) w1 (.pointer (some ⟨gf, 0, none⟩)) (.pointer (some ⟨gx, 0, none⟩)) m' m2' (fun u => u = .int .i64 er) (fun u => u = .int .i64 er2) (z 5) (z 11) w') [false, false, false, false, false, true, false, false, false, false, false, true, false] [_, _, _, _, _, undef, _, _, _, _, _, undef, .bool okb] [none, none, none, none, none, none, none, none, none, none, none, none, none] [[], [], [1], [], [3], [0, 2, 4], [], [], [7], [], [9], [6, 8, 10], [5, 11]] (by kernel_rfl) (by kernel_rfl) rfl
 ·exact DJ.start ⟨rfl, rfl, rfl, Nat.le_refl _, fun _ _ => rfl⟩
 ·simp (maxSteps := 1000000) only [oblI, stepI, knowsI, getP, mixP, List.getD_cons_zero, List.getD_cons_succ, Bool.false_eq_true, if_false, if_true, and_true, true_and, forall_const, Nat.zero_add, Nat.reduceAdd, List.take_succ_cons, List.take_zero, fillFrom, Act.put, List.setIfInBounds_toArray, List.set_cons_zero, List.set_cons_succ]
  refine ⟨?_, ?_, ?_, ?_, ?_, ?_, ?_, ?_, ?_, ?_, ?_, ?_, ?_⟩
  ·intro xs z wq hj R hR
   obtain ⟨c0, c1, c2, c3, c4, c5, c6, c7⟩ := cellsAt8 (hj.row HB1.out HNO.out.1 HNO.out.2)
   go_simp
   exact hR _ _ hj rfl
  ·intro xs z wq hj R hR
   obtain ⟨c0, c1, c2, c3, c4, c5, c6, c7⟩ := cellsAt8 (hj.row HB1.out HNO.out.1 HNO.out.2)
   go_simp
   exact hR _ _ hj rfl
  ·intro xs z wq hj hk R hR
   obtain ⟨c0, c1, c2, c3, c4, c5, c6, c7⟩ := cellsAt8 (hj.row HB1.out HNO.out.1 HNO.out.2)
   go_simp
   exact hR _ _ hj rfl
  ·intro xs z wq hj R hR
   obtain ⟨c0, c1, c2, c3, c4, c5, c6, c7⟩ := cellsAt8 (hj.row HB1.out HNO.out.1 HNO.out.2)
   go_simp
   exact hR _ _ hj rfl
  ·intro xs z wq hj hk R hR
   obtain ⟨c0, c1, c2, c3, c4, c5, c6, c7⟩ := cellsAt8 (hj.row HB1.out HNO.out.1 HNO.out.2)
   go_simp
   exact hR _ _ hj rfl
  ·intro xs z wq hj hz hk R hR
   obtain ⟨hk0, hk1, hk2⟩ := hk
   rw [hz] at hj
   go_simp
   exact (move_any path dest (DJ.fin HP.out HNG.out hj) hp hq).mono (by rintro e' w4 ⟨rfl, h4⟩; rw [HM.out] at h4; exact ⟨_, rfl, hR _ _ (DJ.setF HP.out hj (by rw [HER.out]) h4)⟩)
  ·intro xs z wq hj R hR
   obtain ⟨c0, c1, c2, c3, c4, c5, c6, c7⟩ := cellsAt8 (hj.row HB1.out HNO.out.1 HNO.out.2)
   go_simp
   exact hR _ _ hj rfl
  ·intro xs z wq hj R hR
   obtain ⟨c0, c1, c2, c3, c4, c5, c6, c7⟩ := cellsAt8 (hj.row HB1.out HNO.out.1 HNO.out.2)
   go_simp
   exact hR _ _ hj rfl
  ·intro xs z wq hj hk R hR
   obtain ⟨c0, c1, c2, c3, c4, c5, c6, c7⟩ := cellsAt8 (hj.row HB1.out HNO.out.1 HNO.out.2)
   go_simp
   exact hR _ _ hj rfl
  ·intro xs z wq hj R hR
   obtain ⟨c0, c1, c2, c3, c4, c5, c6, c7⟩ := cellsAt8 (hj.row HB1.out HNO.out.1 HNO.out.2)
   go_simp
   exact hR _ _ hj rfl
  ·intro xs z wq hj hk R hR
   obtain ⟨c0, c1, c2, c3, c4, c5, c6, c7⟩ := cellsAt8 (hj.row HB1.out HNO.out.1 HNO.out.2)
   go_simp
   exact hR _ _ hj rfl
  ·intro xs z wq hj hz hk R hR
   obtain ⟨hk0, hk1, hk2⟩ := hk
   rw [hz] at hj
   go_simp
   exact (moveR_any path dest (DJ.rin HP.out hj) hp hq).mono (by rintro e' w4 ⟨rfl, h4⟩; rw [HM2.out] at h4; exact ⟨_, rfl, hR _ _ (DJ.setR HP.out hj (by rw [HER2.out]) h4)⟩)
  ·intro xs z wq hj hk R hR
   obtain ⟨hk0, hk1⟩ := hk
   rw [hk0, hk1] at hj
   obtain ⟨e1, e2, -⟩ := id hj
   go_simp
   exact hR _ _ (by rw [hk0, hk1]; exact hj) rfl
 intro xs w2 hj2 hk
 simp only [zAll, List.getD_cons_zero, List.getD_cons_succ, Bool.false_eq_true, if_false, if_true] at hj2
 simp only [heldI, Nat.zero_add, Nat.reduceAdd, and_true] at hk
 obtain ⟨q0, q1, q2, q3, q4, q6, q7, q8, q9, q10, q12⟩ := hk
 simp (maxSteps := 1000000) only [List.drop_succ_cons, List.drop_zero, Nat.zero_add, Nat.reduceAdd, List.take_succ_cons, List.take_zero, fillFrom, Act.put, List.setIfInBounds_toArray, List.set_cons_zero, List.set_cons_succ, q0, q1, q2, q3, q4, q6, q7, q8, q9, q10, q12]
 clear q0 q1 q2 q3 q4 q6 q7 q8 q9 q10 q12
 generalize xs 5 = x5 at *
 generalize xs 11 = x11 at *
 obtain ⟨rfl, rfl, hboth⟩ := hj2
 have HBO : Hid _ := hboth
 have hb2 := hboth.fr.row HB1.out (fun h => h.elim HNO.out.1 HNO.out.2)
 obtain ⟨-, -, -, -, -, -, c6, -⟩ := cellsAt8 hb2
 have HBI : Hid (IsBytes w2 (.slice ia data.length ic) data) := Row.keepB HIN.out HTI.out hboth.fr.keep
 have HBD : Hid (IsBytes w2 (.slice da data.length dc) data) := OldB.at HD0.out (Ext.of_fr HB0.out hboth.fr (fun k hk => hk.elim (HP.out.high k) (HP.out.rin.high k)))
 have HOW : Hid (w2.ownsRow wb.heap.size 5 1 (.slice ia data.length ic) data.length (data.map fun x => .int .u8 x.toNat)) := by
  refine ⟨HOI.out.1, HOI.out.2.imp id ?_⟩
  rintro ⟨g, cap, cur, h1, h2, h3, h4⟩
  exact ⟨g, cap, cur, h1, h2, (hboth.fr.keep.2 _ ⟨_, _, _, h3, byt_u8⟩).trans h3, h4⟩
 have hdl := HD1.out.len
 have HIB : Hid (∀ k, (Value.slice ia data.length ic).ownBlock = some k → w.heap.size ≤ k ∧ k < w1.heap.size) := fun k hk => by
  have := World.ownsRow.lt HOI.out k hk
  omega
 clear hb2 hboth
 go_upto_region 37 with fail
 go_wp2_with fail
 go_at_call 100
 refine (bytesEq_any _ _ _ _ _ HBI.out HBD.out).mono ?_
 rw [beq_self_eq_true]
 rintro e w3 ⟨rfl, rfl⟩
 clear c6
 go_wp2_with fail
 go_loopw [17] (fun i wr => ∃ (k : Nat) (xs : List Value), k ≤ data.length ∧ i = .int .i64 k ∧ wr.ownsRow wb.heap.size 5 1 (.slice ia data.length ic) data.length xs ∧ U8s xs ∧ w3.grownBy wr (Value.slice ia data.length ic).ownBlock) (fun i _ => data.length - (intOf i).toNat)
 case atStart => exact ⟨0, _, Nat.zero_le _, rfl, HOW.out, U8s.map _, ⟨rfl, rfl, rfl, Nat.le_refl _, fun _ _ _ => rfl⟩⟩
 case round =>
  obtain ⟨k, ys, hk, rfl, hown, hu8, hgr⟩ := hrel
  have HOW3 : Hid _ := hown
  have HU : Hid _ := hu8
  have HGR : Hid _ := hgr
  have hyl : ys.length = data.length := by have := hown.1; omega
  clear hown hu8 hgr
  by_cases hlt : k < data.length
  ·obtain ⟨g, cap', hge⟩ := owns_some HOW3.out (by omega)
   simp only [Value.slice.injEq, true_and] at hge
   obtain ⟨rfl, rfl⟩ := hge
   obtain ⟨u, hu⟩ : ∃ u, ys[k]? = some u := ⟨_, List.getElem?_eq_getElem (by omega)⟩
   obtain ⟨b, hb, rfl⟩ := HU.out k u hu
   have hcell : wr.cell? ⟨g, k, none⟩ = some (.int .u8 b) := by
    rw [World.ownsRow.cellAt HOW3.out k (by omega)]
    exact hu
   have hfz := World.ownsRow.frozenAt HOW3.out k
   clear hu
   go_wp2
   go_roundw
   case rel =>
    obtain ⟨ho3, hg3⟩ := World.ownsRow.stored HOW3.out k (.int .u8 (((b : Int) + 1) % 256))
    refine ⟨k + 1, ys.set k (.int .u8 (((b : Int) + 1) % 256)), by omega, by go_num, ho3, ?_, HGR.out.trans hg3⟩
    have he : ((b : Int) + 1) % 256 = (((b + 1) % 256 : Nat) : Int) := by omega
    rw [he]
    exact U8s.set HU.out k _ (by omega)
   case measure => simp [intOf]; omega
  ·have hkk : k = data.length := by omega
   subst hkk
   go_wp2
   go_ret
   rw [HM.out, HM2.out]
   exact ⟨⟨_, rfl, HOKB.out⟩, Two2.done HT.out HX01.out HBO.out HIB.out HGR.out⟩

end Go.Proofs.YtfimfbdlegookaaGreatDoor

/-! marlaw5.Does: MoveNew. Conditions: as each theorem states. -/
namespace Go.Proofs.YtfimfbdlegookaaGreatDoor
open Go Go.RowKit
variable [Inhabited BaseW]

set_option maxRecDepth 100000 in
set_option maxHeartbeats 8000000 in
theorem does_k3 {w0 w : World} {S O O' : Nat → Prop} {fv xv : Value} {m m2 : Fs} {n : Nat} {cs : List Value} {mode keep torn : Int} {path dest data : B8} {plan : List Ev} (hT : Two2 w0 S O O' w fv xv m m2) (hE : Env w0) (hg : Good n m) (hg2 : Good n m2) (hn : n ≤ 1000) (ho : IsOpn w0 cs ⟨3, mode, keep, torn, path, dest, data, plan⟩) (hok : OpOk ⟨3, mode, keep, torn, path, dest, data, plan⟩) :
  Calls Tryz.prog 37 #[fv, xv, .agg cs.toArray] w (DoesPost2 w0 S O O' fv xv m m2 (moveM m path dest true).1 (moveM m2 path dest true).1 w) := by
 obtain ⟨vd, vp, rfl, hd, hpl⟩ := ho
 obtain ⟨da, dc, rfl, -⟩ := id hd.bytes
 obtain ⟨_, ⟨pa, pc, rfl, -⟩, -⟩ := id hpl
 simp only at hd hpl
 have hp := hok.path
 have hq := hok.dest
 have hkp := hok.keep
 have htn := hok.torn
 have hfw := hok.few
 simp only at hp hq hkp htn hfw
 have hx0 := hT.ext
 have hba := hT.base
 obtain ⟨gf, hgf⟩ : ∃ g, fv = .pointer (some ⟨g, 0, none⟩) := by
  obtain ⟨g, gm, gd, vp, vl, vu, L, c0, hpe, -⟩ := hT.fs
  exact ⟨g, hpe⟩
 subst hgf
 obtain ⟨gx, rfl⟩ := hT.ref.ptr
 obtain ⟨wb, hwb⟩ : ∃ wb, wb = w.alloc (.cells #[.int .i64 3, .int .i64 mode, .int .i64 keep, .int .i64 torn, S8 path, S8 dest, .slice da data.length dc, .slice pa plan.length pc] 34) := ⟨_, rfl⟩
 have hxb : Ext w wb := by rw [hwb]; exact (Ext.refl _).alloc _
 have hbb : wb.heap[w.heap.size]? = some (.cells #[.int .i64 3, .int .i64 mode, .int .i64 keep, .int .i64 torn, S8 path, S8 dest, .slice da data.length dc, .slice pa plan.length pc] 34 (0, 0)) := by rw [hwb]; exact alloc_at _ _
 obtain ⟨b0, b1, b2, b3, b4, b5, b6, b7⟩ := cellsAt8 hbb
 have hsb : w.heap.size < wb.heap.size := by rw [hwb]; simp
 have HT : Hid _ := hT
 have HE : Hid _ := hE
 have HG : Hid _ := hg
 have HG2 : Hid _ := hg2
 have HWB : Hid _ := hwb
 have HXB : Hid _ := hxb
 have HBB : Hid _ := hbb
 have HD0 : Hid (OldB (.slice da data.length dc) data) := hd
 have HBA : Hid _ := hba
 have HX0 : Hid _ := hx0
 have HPL : Hid (ReadO w0 IsEvI (.slice pa plan.length pc) plan) := hpl
 have HDB : Hid _ := OldB.at hd ((hba.trans hx0).trans hxb)
 have HOKK : Hid _ := hok
 clear hT hE hg hg2 hwb hxb hbb hd hx0 hba hpl hok
 go_enter Tryz.func37, Tryz.ntmps37
 go_upto_region 1 with fail
 rw [show w.alloc (.cells #[.int .i64 3, .int .i64 mode, .int .i64 keep, .int .i64 torn, S8 path, S8 dest, .slice da data.length dc, .slice pa plan.length pc] 34) = wb from HWB.out.symm]
 go_wp2_with fail
 go_at_call 87
 refine (copyB_own _ data _ HDB.out).mono ?_
 rintro e w1 ⟨⟨vin, rfl, hin⟩, hx1⟩
 obtain ⟨ia, ic, hie, -⟩ := Row.of_owns hin HD0.out.bytes.len
 subst hie
 have HIN : Hid (IsBytes w1 (.slice ia data.length ic) data) := Row.of_owns hin HD0.out.bytes.len
 have HTI : Hid (TypB w1 (.slice ia data.length ic)) := TypB.of_owns hin
 have HOI : Hid _ := hin
 have hx01 : Ext w w1 := Ext.trans HXB.out hx1
 have HP : Hid (Pair S O O' (fun k => k < w.heap.size) w1 (.pointer (some ⟨gf, 0, none⟩)) (.pointer (some ⟨gx, 0, none⟩)) m m2) := Two2.pair HT.out HE.out HG.out HG2.out hn hx01
 have HNG : Hid _ := (Two2.noG HT.out HE.out).2
 have HB1 : Hid _ := hx1.row HBB.out
 have HNO : Hid (¬ O w.heap.size ∧ ¬ O' w.heap.size) := ⟨fun h => by have := HT.out.lo _ h; omega, fun h => by have := HT.out.lo' _ h; omega⟩
 have HB0 : Hid (Ext baseW w1) := Ext.trans (Ext.trans HBA.out HX0.out) hx01
 have HD1 : Hid (IsBytes w1 (.slice da data.length dc) data) := OldB.at HD0.out HB0.out
 have HX01 : Hid _ := hx01
 have htm := HG.out.time
 have hcl := HG.out.calls
 have htm2 := HG2.out.time
 have hcl2 := HG2.out.calls
 obtain ⟨er, her⟩ : ∃ er, (moveM m path dest true).2 = er := ⟨_, rfl⟩
 have HER : Hid _ := her
 obtain ⟨er2, her2⟩ : ∃ er, (moveM m2 path dest true).2 = er := ⟨_, rfl⟩
 have HER2 : Hid _ := her2
 obtain ⟨okb, hokb⟩ : ∃ okb, (er == er2) = okb := ⟨_, rfl⟩
 have HOKB : Hid (m = m2 → okb = true) := fun h => by rw [← hokb, ← her, ← her2, h]; simp
 clear her her2
 obtain ⟨m', hm'⟩ : ∃ m', (moveM m path dest true).1 = m' := ⟨_, rfl⟩
 have HM : Hid _ := hm'
 obtain ⟨m2', hm2'⟩ : ∃ m', (moveM m2 path dest true).1 = m' := ⟨_, rfl⟩
 have HM2 : Hid _ := hm2'
 replace b0 := hx1.cell b0
 have hsz1 := hx1.size
 clear hin hx1 hx01 hm' hm2' b1 b2 b3 b4 b5 b6 b7
 go_upto_region 11 with fail
 apply wp_region_inv 13 (fun z w' => DJ S O O' (fun k => k < w.heap.size) w1 (.pointer (some ⟨gf, 0, none⟩)) (.pointer (some ⟨gx, 0, none⟩)) m' m2' (fun u => u = .int .i64 er) (fun u => u = .int .i64 er2) (z 5) (z 11) w') [false, false, false, false, false, true, false, false, false, false, false, true, false] [_, _, _, _, _, undef, _, _, _, _, _, undef, .bool okb] [none, none, none, none, none, none, none, none, none, none, none, none, none] [[], [], [1], [], [3], [0, 2, 4], [], [], [7], [], [9], [6, 8, 10], [5, 11]] (by kernel_rfl) (by kernel_rfl) rfl
 ·exact DJ.start ⟨rfl, rfl, rfl, Nat.le_refl _, fun _ _ => rfl⟩
 ·simp (maxSteps := 1000000) only [oblI, stepI, knowsI, getP, mixP, List.getD_cons_zero, List.getD_cons_succ, Bool.false_eq_true, if_false, if_true, and_true, true_and, forall_const, Nat.zero_add, Nat.reduceAdd, List.take_succ_cons, List.take_zero, fillFrom, Act.put, List.setIfInBounds_toArray, List.set_cons_zero, List.set_cons_succ]
  refine ⟨?_, ?_, ?_, ?_, ?_, ?_, ?_, ?_, ?_, ?_, ?_, ?_, ?_⟩
  ·intro xs z wq hj R hR
   obtain ⟨c0, c1, c2, c3, c4, c5, c6, c7⟩ := cellsAt8 (hj.row HB1.out HNO.out.1 HNO.out.2)
   go_simp
   exact hR _ _ hj rfl
  ·intro xs z wq hj R hR
   obtain ⟨c0, c1, c2, c3, c4, c5, c6, c7⟩ := cellsAt8 (hj.row HB1.out HNO.out.1 HNO.out.2)
   go_simp
   exact hR _ _ hj rfl
  ·intro xs z wq hj hk R hR
   obtain ⟨c0, c1, c2, c3, c4, c5, c6, c7⟩ := cellsAt8 (hj.row HB1.out HNO.out.1 HNO.out.2)
   go_simp
   exact hR _ _ hj rfl
  ·intro xs z wq hj R hR
   obtain ⟨c0, c1, c2, c3, c4, c5, c6, c7⟩ := cellsAt8 (hj.row HB1.out HNO.out.1 HNO.out.2)
   go_simp
   exact hR _ _ hj rfl
  ·intro xs z wq hj hk R hR
   obtain ⟨c0, c1, c2, c3, c4, c5, c6, c7⟩ := cellsAt8 (hj.row HB1.out HNO.out.1 HNO.out.2)
   go_simp
   exact hR _ _ hj rfl
  ·intro xs z wq hj hz hk R hR
   obtain ⟨hk0, hk1, hk2⟩ := hk
   rw [hz] at hj
   go_simp
   exact (moveNew_any path dest (DJ.fin HP.out HNG.out hj) hp hq).mono (by rintro e' w4 ⟨rfl, h4⟩; rw [HM.out] at h4; exact ⟨_, rfl, hR _ _ (DJ.setF HP.out hj (by rw [HER.out]) h4)⟩)
  ·intro xs z wq hj R hR
   obtain ⟨c0, c1, c2, c3, c4, c5, c6, c7⟩ := cellsAt8 (hj.row HB1.out HNO.out.1 HNO.out.2)
   go_simp
   exact hR _ _ hj rfl
  ·intro xs z wq hj R hR
   obtain ⟨c0, c1, c2, c3, c4, c5, c6, c7⟩ := cellsAt8 (hj.row HB1.out HNO.out.1 HNO.out.2)
   go_simp
   exact hR _ _ hj rfl
  ·intro xs z wq hj hk R hR
   obtain ⟨c0, c1, c2, c3, c4, c5, c6, c7⟩ := cellsAt8 (hj.row HB1.out HNO.out.1 HNO.out.2)
   go_simp
   exact hR _ _ hj rfl
  ·intro xs z wq hj R hR
   obtain ⟨c0, c1, c2, c3, c4, c5, c6, c7⟩ := cellsAt8 (hj.row HB1.out HNO.out.1 HNO.out.2)
   go_simp
   exact hR _ _ hj rfl
  ·intro xs z wq hj hk R hR
   obtain ⟨c0, c1, c2, c3, c4, c5, c6, c7⟩ := cellsAt8 (hj.row HB1.out HNO.out.1 HNO.out.2)
   go_simp
   exact hR _ _ hj rfl
  ·intro xs z wq hj hz hk R hR
   obtain ⟨hk0, hk1, hk2⟩ := hk
   rw [hz] at hj
   go_simp
   exact (moveNewR_any path dest (DJ.rin HP.out hj) hp hq).mono (by rintro e' w4 ⟨rfl, h4⟩; rw [HM2.out] at h4; exact ⟨_, rfl, hR _ _ (DJ.setR HP.out hj (by rw [HER2.out]) h4)⟩)
  ·intro xs z wq hj hk R hR
   obtain ⟨hk0, hk1⟩ := hk
   rw [hk0, hk1] at hj
   obtain ⟨e1, e2, -⟩ := id hj
   go_simp
   exact hR _ _ (by rw [hk0, hk1]; exact hj) rfl
 intro xs w2 hj2 hk
 simp only [zAll, List.getD_cons_zero, List.getD_cons_succ, Bool.false_eq_true, if_false, if_true] at hj2
 simp only [heldI, Nat.zero_add, Nat.reduceAdd, and_true] at hk
 obtain ⟨q0, q1, q2, q3, q4, q6, q7, q8, q9, q10, q12⟩ := hk
 simp (maxSteps := 1000000) only [List.drop_succ_cons, List.drop_zero, Nat.zero_add, Nat.reduceAdd, List.take_succ_cons, List.take_zero, fillFrom, Act.put, List.setIfInBounds_toArray, List.set_cons_zero, List.set_cons_succ, q0, q1, q2, q3, q4, q6, q7, q8, q9, q10, q12]
 clear q0 q1 q2 q3 q4 q6 q7 q8 q9 q10 q12
 generalize xs 5 = x5 at *
 generalize xs 11 = x11 at *
 obtain ⟨rfl, rfl, hboth⟩ := hj2
 have HBO : Hid _ := hboth
 have hb2 := hboth.fr.row HB1.out (fun h => h.elim HNO.out.1 HNO.out.2)
 obtain ⟨-, -, -, -, -, -, c6, -⟩ := cellsAt8 hb2
 have HBI : Hid (IsBytes w2 (.slice ia data.length ic) data) := Row.keepB HIN.out HTI.out hboth.fr.keep
 have HBD : Hid (IsBytes w2 (.slice da data.length dc) data) := OldB.at HD0.out (Ext.of_fr HB0.out hboth.fr (fun k hk => hk.elim (HP.out.high k) (HP.out.rin.high k)))
 have HOW : Hid (w2.ownsRow wb.heap.size 5 1 (.slice ia data.length ic) data.length (data.map fun x => .int .u8 x.toNat)) := by
  refine ⟨HOI.out.1, HOI.out.2.imp id ?_⟩
  rintro ⟨g, cap, cur, h1, h2, h3, h4⟩
  exact ⟨g, cap, cur, h1, h2, (hboth.fr.keep.2 _ ⟨_, _, _, h3, byt_u8⟩).trans h3, h4⟩
 have hdl := HD1.out.len
 have HIB : Hid (∀ k, (Value.slice ia data.length ic).ownBlock = some k → w.heap.size ≤ k ∧ k < w1.heap.size) := fun k hk => by
  have := World.ownsRow.lt HOI.out k hk
  omega
 clear hb2 hboth
 go_upto_region 37 with fail
 go_wp2_with fail
 go_at_call 100
 refine (bytesEq_any _ _ _ _ _ HBI.out HBD.out).mono ?_
 rw [beq_self_eq_true]
 rintro e w3 ⟨rfl, rfl⟩
 clear c6
 go_wp2_with fail
 go_loopw [17] (fun i wr => ∃ (k : Nat) (xs : List Value), k ≤ data.length ∧ i = .int .i64 k ∧ wr.ownsRow wb.heap.size 5 1 (.slice ia data.length ic) data.length xs ∧ U8s xs ∧ w3.grownBy wr (Value.slice ia data.length ic).ownBlock) (fun i _ => data.length - (intOf i).toNat)
 case atStart => exact ⟨0, _, Nat.zero_le _, rfl, HOW.out, U8s.map _, ⟨rfl, rfl, rfl, Nat.le_refl _, fun _ _ _ => rfl⟩⟩
 case round =>
  obtain ⟨k, ys, hk, rfl, hown, hu8, hgr⟩ := hrel
  have HOW3 : Hid _ := hown
  have HU : Hid _ := hu8
  have HGR : Hid _ := hgr
  have hyl : ys.length = data.length := by have := hown.1; omega
  clear hown hu8 hgr
  by_cases hlt : k < data.length
  ·obtain ⟨g, cap', hge⟩ := owns_some HOW3.out (by omega)
   simp only [Value.slice.injEq, true_and] at hge
   obtain ⟨rfl, rfl⟩ := hge
   obtain ⟨u, hu⟩ : ∃ u, ys[k]? = some u := ⟨_, List.getElem?_eq_getElem (by omega)⟩
   obtain ⟨b, hb, rfl⟩ := HU.out k u hu
   have hcell : wr.cell? ⟨g, k, none⟩ = some (.int .u8 b) := by
    rw [World.ownsRow.cellAt HOW3.out k (by omega)]
    exact hu
   have hfz := World.ownsRow.frozenAt HOW3.out k
   clear hu
   go_wp2
   go_roundw
   case rel =>
    obtain ⟨ho3, hg3⟩ := World.ownsRow.stored HOW3.out k (.int .u8 (((b : Int) + 1) % 256))
    refine ⟨k + 1, ys.set k (.int .u8 (((b : Int) + 1) % 256)), by omega, by go_num, ho3, ?_, HGR.out.trans hg3⟩
    have he : ((b : Int) + 1) % 256 = (((b + 1) % 256 : Nat) : Int) := by omega
    rw [he]
    exact U8s.set HU.out k _ (by omega)
   case measure => simp [intOf]; omega
  ·have hkk : k = data.length := by omega
   subst hkk
   go_wp2
   go_ret
   rw [HM.out, HM2.out]
   exact ⟨⟨_, rfl, HOKB.out⟩, Two2.done HT.out HX01.out HBO.out HIB.out HGR.out⟩

end Go.Proofs.YtfimfbdlegookaaGreatDoor

/-! marlaw5.Does: Remove. Conditions: as each theorem states. -/
namespace Go.Proofs.YtfimfbdlegookaaGreatDoor
open Go Go.RowKit
variable [Inhabited BaseW]

set_option maxRecDepth 100000 in
set_option maxHeartbeats 8000000 in
theorem does_k4 {w0 w : World} {S O O' : Nat → Prop} {fv xv : Value} {m m2 : Fs} {n : Nat} {cs : List Value} {mode keep torn : Int} {path dest data : B8} {plan : List Ev} (hT : Two2 w0 S O O' w fv xv m m2) (hE : Env w0) (hg : Good n m) (hg2 : Good n m2) (hn : n ≤ 1000) (ho : IsOpn w0 cs ⟨4, mode, keep, torn, path, dest, data, plan⟩) (hok : OpOk ⟨4, mode, keep, torn, path, dest, data, plan⟩) :
  Calls Tryz.prog 37 #[fv, xv, .agg cs.toArray] w (DoesPost2 w0 S O O' fv xv m m2 (removeM m path).1 (removeM m2 path).1 w) := by
 obtain ⟨vd, vp, rfl, hd, hpl⟩ := ho
 obtain ⟨da, dc, rfl, -⟩ := id hd.bytes
 obtain ⟨_, ⟨pa, pc, rfl, -⟩, -⟩ := id hpl
 simp only at hd hpl
 have hp := hok.path
 have hq := hok.dest
 have hkp := hok.keep
 have htn := hok.torn
 have hfw := hok.few
 simp only at hp hq hkp htn hfw
 have hx0 := hT.ext
 have hba := hT.base
 obtain ⟨gf, hgf⟩ : ∃ g, fv = .pointer (some ⟨g, 0, none⟩) := by
  obtain ⟨g, gm, gd, vp, vl, vu, L, c0, hpe, -⟩ := hT.fs
  exact ⟨g, hpe⟩
 subst hgf
 obtain ⟨gx, rfl⟩ := hT.ref.ptr
 obtain ⟨wb, hwb⟩ : ∃ wb, wb = w.alloc (.cells #[.int .i64 4, .int .i64 mode, .int .i64 keep, .int .i64 torn, S8 path, S8 dest, .slice da data.length dc, .slice pa plan.length pc] 34) := ⟨_, rfl⟩
 have hxb : Ext w wb := by rw [hwb]; exact (Ext.refl _).alloc _
 have hbb : wb.heap[w.heap.size]? = some (.cells #[.int .i64 4, .int .i64 mode, .int .i64 keep, .int .i64 torn, S8 path, S8 dest, .slice da data.length dc, .slice pa plan.length pc] 34 (0, 0)) := by rw [hwb]; exact alloc_at _ _
 obtain ⟨b0, b1, b2, b3, b4, b5, b6, b7⟩ := cellsAt8 hbb
 have hsb : w.heap.size < wb.heap.size := by rw [hwb]; simp
 have HT : Hid _ := hT
 have HE : Hid _ := hE
 have HG : Hid _ := hg
 have HG2 : Hid _ := hg2
 have HWB : Hid _ := hwb
 have HXB : Hid _ := hxb
 have HBB : Hid _ := hbb
 have HD0 : Hid (OldB (.slice da data.length dc) data) := hd
 have HBA : Hid _ := hba
 have HX0 : Hid _ := hx0
 have HPL : Hid (ReadO w0 IsEvI (.slice pa plan.length pc) plan) := hpl
 have HDB : Hid _ := OldB.at hd ((hba.trans hx0).trans hxb)
 have HOKK : Hid _ := hok
 clear hT hE hg hg2 hwb hxb hbb hd hx0 hba hpl hok
 go_enter Tryz.func37, Tryz.ntmps37
 go_upto_region 1 with fail
 rw [show w.alloc (.cells #[.int .i64 4, .int .i64 mode, .int .i64 keep, .int .i64 torn, S8 path, S8 dest, .slice da data.length dc, .slice pa plan.length pc] 34) = wb from HWB.out.symm]
 go_wp2_with fail
 go_at_call 87
 refine (copyB_own _ data _ HDB.out).mono ?_
 rintro e w1 ⟨⟨vin, rfl, hin⟩, hx1⟩
 obtain ⟨ia, ic, hie, -⟩ := Row.of_owns hin HD0.out.bytes.len
 subst hie
 have HIN : Hid (IsBytes w1 (.slice ia data.length ic) data) := Row.of_owns hin HD0.out.bytes.len
 have HTI : Hid (TypB w1 (.slice ia data.length ic)) := TypB.of_owns hin
 have HOI : Hid _ := hin
 have hx01 : Ext w w1 := Ext.trans HXB.out hx1
 have HP : Hid (Pair S O O' (fun k => k < w.heap.size) w1 (.pointer (some ⟨gf, 0, none⟩)) (.pointer (some ⟨gx, 0, none⟩)) m m2) := Two2.pair HT.out HE.out HG.out HG2.out hn hx01
 have HNG : Hid _ := (Two2.noG HT.out HE.out).2
 have HB1 : Hid _ := hx1.row HBB.out
 have HNO : Hid (¬ O w.heap.size ∧ ¬ O' w.heap.size) := ⟨fun h => by have := HT.out.lo _ h; omega, fun h => by have := HT.out.lo' _ h; omega⟩
 have HB0 : Hid (Ext baseW w1) := Ext.trans (Ext.trans HBA.out HX0.out) hx01
 have HD1 : Hid (IsBytes w1 (.slice da data.length dc) data) := OldB.at HD0.out HB0.out
 have HX01 : Hid _ := hx01
 have htm := HG.out.time
 have hcl := HG.out.calls
 have htm2 := HG2.out.time
 have hcl2 := HG2.out.calls
 obtain ⟨er, her⟩ : ∃ er, (removeM m path).2 = er := ⟨_, rfl⟩
 have HER : Hid _ := her
 obtain ⟨er2, her2⟩ : ∃ er, (removeM m2 path).2 = er := ⟨_, rfl⟩
 have HER2 : Hid _ := her2
 obtain ⟨okb, hokb⟩ : ∃ okb, (er == er2) = okb := ⟨_, rfl⟩
 have HOKB : Hid (m = m2 → okb = true) := fun h => by rw [← hokb, ← her, ← her2, h]; simp
 clear her her2
 obtain ⟨m', hm'⟩ : ∃ m', (removeM m path).1 = m' := ⟨_, rfl⟩
 have HM : Hid _ := hm'
 obtain ⟨m2', hm2'⟩ : ∃ m', (removeM m2 path).1 = m' := ⟨_, rfl⟩
 have HM2 : Hid _ := hm2'
 replace b0 := hx1.cell b0
 have hsz1 := hx1.size
 clear hin hx1 hx01 hm' hm2' b1 b2 b3 b4 b5 b6 b7
 go_upto_region 13 with fail
 apply wp_region_inv 9 (fun z w' => DJ S O O' (fun k => k < w.heap.size) w1 (.pointer (some ⟨gf, 0, none⟩)) (.pointer (some ⟨gx, 0, none⟩)) m' m2' (fun u => u = .int .i64 er) (fun u => u = .int .i64 er2) (z 3) (z 7) w') [false, false, false, true, false, false, false, true, false] [_, _, _, undef, _, _, _, undef, .bool okb] [none, none, none, none, none, none, none, none, none] [[], [], [1], [0, 2], [], [], [5], [4, 6], [3, 7]] (by kernel_rfl) (by kernel_rfl) rfl
 ·exact DJ.start ⟨rfl, rfl, rfl, Nat.le_refl _, fun _ _ => rfl⟩
 ·simp (maxSteps := 1000000) only [oblI, stepI, knowsI, getP, mixP, List.getD_cons_zero, List.getD_cons_succ, Bool.false_eq_true, if_false, if_true, and_true, true_and, forall_const, Nat.zero_add, Nat.reduceAdd, List.take_succ_cons, List.take_zero, fillFrom, Act.put, List.setIfInBounds_toArray, List.set_cons_zero, List.set_cons_succ]
  refine ⟨?_, ?_, ?_, ?_, ?_, ?_, ?_, ?_, ?_⟩
  ·intro xs z wq hj R hR
   obtain ⟨c0, c1, c2, c3, c4, c5, c6, c7⟩ := cellsAt8 (hj.row HB1.out HNO.out.1 HNO.out.2)
   go_simp
   exact hR _ _ hj rfl
  ·intro xs z wq hj R hR
   obtain ⟨c0, c1, c2, c3, c4, c5, c6, c7⟩ := cellsAt8 (hj.row HB1.out HNO.out.1 HNO.out.2)
   go_simp
   exact hR _ _ hj rfl
  ·intro xs z wq hj hk R hR
   obtain ⟨c0, c1, c2, c3, c4, c5, c6, c7⟩ := cellsAt8 (hj.row HB1.out HNO.out.1 HNO.out.2)
   go_simp
   exact hR _ _ hj rfl
  ·intro xs z wq hj hz hk R hR
   obtain ⟨hk0, hk1⟩ := hk
   rw [hz] at hj
   go_simp
   exact (remove_any path (DJ.fin HP.out HNG.out hj) hp).mono (by rintro e' w4 ⟨rfl, h4⟩; rw [HM.out] at h4; exact ⟨_, rfl, hR _ _ (DJ.setF HP.out hj (by rw [HER.out]) h4)⟩)
  ·intro xs z wq hj R hR
   obtain ⟨c0, c1, c2, c3, c4, c5, c6, c7⟩ := cellsAt8 (hj.row HB1.out HNO.out.1 HNO.out.2)
   go_simp
   exact hR _ _ hj rfl
  ·intro xs z wq hj R hR
   obtain ⟨c0, c1, c2, c3, c4, c5, c6, c7⟩ := cellsAt8 (hj.row HB1.out HNO.out.1 HNO.out.2)
   go_simp
   exact hR _ _ hj rfl
  ·intro xs z wq hj hk R hR
   obtain ⟨c0, c1, c2, c3, c4, c5, c6, c7⟩ := cellsAt8 (hj.row HB1.out HNO.out.1 HNO.out.2)
   go_simp
   exact hR _ _ hj rfl
  ·intro xs z wq hj hz hk R hR
   obtain ⟨hk0, hk1⟩ := hk
   rw [hz] at hj
   go_simp
   exact (removeR_any path (DJ.rin HP.out hj) hp).mono (by rintro e' w4 ⟨rfl, h4⟩; rw [HM2.out] at h4; exact ⟨_, rfl, hR _ _ (DJ.setR HP.out hj (by rw [HER2.out]) h4)⟩)
  ·intro xs z wq hj hk R hR
   obtain ⟨hk0, hk1⟩ := hk
   rw [hk0, hk1] at hj
   obtain ⟨e1, e2, -⟩ := id hj
   go_simp
   exact hR _ _ (by rw [hk0, hk1]; exact hj) rfl
 intro xs w2 hj2 hk
 simp only [zAll, List.getD_cons_zero, List.getD_cons_succ, Bool.false_eq_true, if_false, if_true] at hj2
 simp only [heldI, Nat.zero_add, Nat.reduceAdd, and_true] at hk
 obtain ⟨q0, q1, q2, q4, q5, q6, q8⟩ := hk
 simp (maxSteps := 1000000) only [List.drop_succ_cons, List.drop_zero, Nat.zero_add, Nat.reduceAdd, List.take_succ_cons, List.take_zero, fillFrom, Act.put, List.setIfInBounds_toArray, List.set_cons_zero, List.set_cons_succ, q0, q1, q2, q4, q5, q6, q8]
 clear q0 q1 q2 q4 q5 q6 q8
 generalize xs 3 = x3 at *
 generalize xs 7 = x7 at *
 obtain ⟨rfl, rfl, hboth⟩ := hj2
 have HBO : Hid _ := hboth
 have hb2 := hboth.fr.row HB1.out (fun h => h.elim HNO.out.1 HNO.out.2)
 obtain ⟨-, -, -, -, -, -, c6, -⟩ := cellsAt8 hb2
 have HBI : Hid (IsBytes w2 (.slice ia data.length ic) data) := Row.keepB HIN.out HTI.out hboth.fr.keep
 have HBD : Hid (IsBytes w2 (.slice da data.length dc) data) := OldB.at HD0.out (Ext.of_fr HB0.out hboth.fr (fun k hk => hk.elim (HP.out.high k) (HP.out.rin.high k)))
 have HOW : Hid (w2.ownsRow wb.heap.size 5 1 (.slice ia data.length ic) data.length (data.map fun x => .int .u8 x.toNat)) := by
  refine ⟨HOI.out.1, HOI.out.2.imp id ?_⟩
  rintro ⟨g, cap, cur, h1, h2, h3, h4⟩
  exact ⟨g, cap, cur, h1, h2, (hboth.fr.keep.2 _ ⟨_, _, _, h3, byt_u8⟩).trans h3, h4⟩
 have hdl := HD1.out.len
 have HIB : Hid (∀ k, (Value.slice ia data.length ic).ownBlock = some k → w.heap.size ≤ k ∧ k < w1.heap.size) := fun k hk => by
  have := World.ownsRow.lt HOI.out k hk
  omega
 clear hb2 hboth
 go_upto_region 37 with fail
 go_wp2_with fail
 go_at_call 100
 refine (bytesEq_any _ _ _ _ _ HBI.out HBD.out).mono ?_
 rw [beq_self_eq_true]
 rintro e w3 ⟨rfl, rfl⟩
 clear c6
 go_wp2_with fail
 go_loopw [17] (fun i wr => ∃ (k : Nat) (xs : List Value), k ≤ data.length ∧ i = .int .i64 k ∧ wr.ownsRow wb.heap.size 5 1 (.slice ia data.length ic) data.length xs ∧ U8s xs ∧ w3.grownBy wr (Value.slice ia data.length ic).ownBlock) (fun i _ => data.length - (intOf i).toNat)
 case atStart => exact ⟨0, _, Nat.zero_le _, rfl, HOW.out, U8s.map _, ⟨rfl, rfl, rfl, Nat.le_refl _, fun _ _ _ => rfl⟩⟩
 case round =>
  obtain ⟨k, ys, hk, rfl, hown, hu8, hgr⟩ := hrel
  have HOW3 : Hid _ := hown
  have HU : Hid _ := hu8
  have HGR : Hid _ := hgr
  have hyl : ys.length = data.length := by have := hown.1; omega
  clear hown hu8 hgr
  by_cases hlt : k < data.length
  ·obtain ⟨g, cap', hge⟩ := owns_some HOW3.out (by omega)
   simp only [Value.slice.injEq, true_and] at hge
   obtain ⟨rfl, rfl⟩ := hge
   obtain ⟨u, hu⟩ : ∃ u, ys[k]? = some u := ⟨_, List.getElem?_eq_getElem (by omega)⟩
   obtain ⟨b, hb, rfl⟩ := HU.out k u hu
   have hcell : wr.cell? ⟨g, k, none⟩ = some (.int .u8 b) := by
    rw [World.ownsRow.cellAt HOW3.out k (by omega)]
    exact hu
   have hfz := World.ownsRow.frozenAt HOW3.out k
   clear hu
   go_wp2
   go_roundw
   case rel =>
    obtain ⟨ho3, hg3⟩ := World.ownsRow.stored HOW3.out k (.int .u8 (((b : Int) + 1) % 256))
    refine ⟨k + 1, ys.set k (.int .u8 (((b : Int) + 1) % 256)), by omega, by go_num, ho3, ?_, HGR.out.trans hg3⟩
    have he : ((b : Int) + 1) % 256 = (((b + 1) % 256 : Nat) : Int) := by omega
    rw [he]
    exact U8s.set HU.out k _ (by omega)
   case measure => simp [intOf]; omega
  ·have hkk : k = data.length := by omega
   subst hkk
   go_wp2
   go_ret
   rw [HM.out, HM2.out]
   exact ⟨⟨_, rfl, HOKB.out⟩, Two2.done HT.out HX01.out HBO.out HIB.out HGR.out⟩

end Go.Proofs.YtfimfbdlegookaaGreatDoor

/-! marlaw5.Does: Sync. Conditions: as each theorem states. -/
namespace Go.Proofs.YtfimfbdlegookaaGreatDoor
open Go Go.RowKit
variable [Inhabited BaseW]

set_option maxRecDepth 100000 in
set_option maxHeartbeats 8000000 in
theorem does_k5 {w0 w : World} {S O O' : Nat → Prop} {fv xv : Value} {m m2 : Fs} {n : Nat} {cs : List Value} {mode keep torn : Int} {path dest data : B8} {plan : List Ev} (hT : Two2 w0 S O O' w fv xv m m2) (hE : Env w0) (hg : Good n m) (hg2 : Good n m2) (hn : n ≤ 1000) (ho : IsOpn w0 cs ⟨5, mode, keep, torn, path, dest, data, plan⟩) (hok : OpOk ⟨5, mode, keep, torn, path, dest, data, plan⟩) :
  Calls Tryz.prog 37 #[fv, xv, .agg cs.toArray] w (DoesPost2 w0 S O O' fv xv m m2 (syncM m).1 (syncM m2).1 w) := by
 obtain ⟨vd, vp, rfl, hd, hpl⟩ := ho
 obtain ⟨da, dc, rfl, -⟩ := id hd.bytes
 obtain ⟨_, ⟨pa, pc, rfl, -⟩, -⟩ := id hpl
 simp only at hd hpl
 have hp := hok.path
 have hq := hok.dest
 have hkp := hok.keep
 have htn := hok.torn
 have hfw := hok.few
 simp only at hp hq hkp htn hfw
 have hx0 := hT.ext
 have hba := hT.base
 obtain ⟨gf, hgf⟩ : ∃ g, fv = .pointer (some ⟨g, 0, none⟩) := by
  obtain ⟨g, gm, gd, vp, vl, vu, L, c0, hpe, -⟩ := hT.fs
  exact ⟨g, hpe⟩
 subst hgf
 obtain ⟨gx, rfl⟩ := hT.ref.ptr
 obtain ⟨wb, hwb⟩ : ∃ wb, wb = w.alloc (.cells #[.int .i64 5, .int .i64 mode, .int .i64 keep, .int .i64 torn, S8 path, S8 dest, .slice da data.length dc, .slice pa plan.length pc] 34) := ⟨_, rfl⟩
 have hxb : Ext w wb := by rw [hwb]; exact (Ext.refl _).alloc _
 have hbb : wb.heap[w.heap.size]? = some (.cells #[.int .i64 5, .int .i64 mode, .int .i64 keep, .int .i64 torn, S8 path, S8 dest, .slice da data.length dc, .slice pa plan.length pc] 34 (0, 0)) := by rw [hwb]; exact alloc_at _ _
 obtain ⟨b0, b1, b2, b3, b4, b5, b6, b7⟩ := cellsAt8 hbb
 have hsb : w.heap.size < wb.heap.size := by rw [hwb]; simp
 have HT : Hid _ := hT
 have HE : Hid _ := hE
 have HG : Hid _ := hg
 have HG2 : Hid _ := hg2
 have HWB : Hid _ := hwb
 have HXB : Hid _ := hxb
 have HBB : Hid _ := hbb
 have HD0 : Hid (OldB (.slice da data.length dc) data) := hd
 have HBA : Hid _ := hba
 have HX0 : Hid _ := hx0
 have HPL : Hid (ReadO w0 IsEvI (.slice pa plan.length pc) plan) := hpl
 have HDB : Hid _ := OldB.at hd ((hba.trans hx0).trans hxb)
 have HOKK : Hid _ := hok
 clear hT hE hg hg2 hwb hxb hbb hd hx0 hba hpl hok
 go_enter Tryz.func37, Tryz.ntmps37
 go_upto_region 1 with fail
 rw [show w.alloc (.cells #[.int .i64 5, .int .i64 mode, .int .i64 keep, .int .i64 torn, S8 path, S8 dest, .slice da data.length dc, .slice pa plan.length pc] 34) = wb from HWB.out.symm]
 go_wp2_with fail
 go_at_call 87
 refine (copyB_own _ data _ HDB.out).mono ?_
 rintro e w1 ⟨⟨vin, rfl, hin⟩, hx1⟩
 obtain ⟨ia, ic, hie, -⟩ := Row.of_owns hin HD0.out.bytes.len
 subst hie
 have HIN : Hid (IsBytes w1 (.slice ia data.length ic) data) := Row.of_owns hin HD0.out.bytes.len
 have HTI : Hid (TypB w1 (.slice ia data.length ic)) := TypB.of_owns hin
 have HOI : Hid _ := hin
 have hx01 : Ext w w1 := Ext.trans HXB.out hx1
 have HP : Hid (Pair S O O' (fun k => k < w.heap.size) w1 (.pointer (some ⟨gf, 0, none⟩)) (.pointer (some ⟨gx, 0, none⟩)) m m2) := Two2.pair HT.out HE.out HG.out HG2.out hn hx01
 have HNG : Hid _ := (Two2.noG HT.out HE.out).2
 have HB1 : Hid _ := hx1.row HBB.out
 have HNO : Hid (¬ O w.heap.size ∧ ¬ O' w.heap.size) := ⟨fun h => by have := HT.out.lo _ h; omega, fun h => by have := HT.out.lo' _ h; omega⟩
 have HB0 : Hid (Ext baseW w1) := Ext.trans (Ext.trans HBA.out HX0.out) hx01
 have HD1 : Hid (IsBytes w1 (.slice da data.length dc) data) := OldB.at HD0.out HB0.out
 have HX01 : Hid _ := hx01
 have htm := HG.out.time
 have hcl := HG.out.calls
 have htm2 := HG2.out.time
 have hcl2 := HG2.out.calls
 obtain ⟨er, her⟩ : ∃ er, (syncM m).2 = er := ⟨_, rfl⟩
 have HER : Hid _ := her
 obtain ⟨er2, her2⟩ : ∃ er, (syncM m2).2 = er := ⟨_, rfl⟩
 have HER2 : Hid _ := her2
 obtain ⟨okb, hokb⟩ : ∃ okb, (er == er2) = okb := ⟨_, rfl⟩
 have HOKB : Hid (m = m2 → okb = true) := fun h => by rw [← hokb, ← her, ← her2, h]; simp
 clear her her2
 obtain ⟨m', hm'⟩ : ∃ m', (syncM m).1 = m' := ⟨_, rfl⟩
 have HM : Hid _ := hm'
 obtain ⟨m2', hm2'⟩ : ∃ m', (syncM m2).1 = m' := ⟨_, rfl⟩
 have HM2 : Hid _ := hm2'
 replace b0 := hx1.cell b0
 have hsz1 := hx1.size
 clear hin hx1 hx01 hm' hm2' b1 b2 b3 b4 b5 b6 b7
 go_upto_region 15 with fail
 have HJ0 : Hid (DJ S O O' (fun k => k < w.heap.size) w1 (.pointer (some ⟨gf, 0, none⟩)) (.pointer (some ⟨gx, 0, none⟩)) m' m2' (fun _ => True) (fun _ => True) none none w1) := DJ.start (Ext.refl _)
 obtain ⟨c0, c1, c2, c3, c4, c5, c6, c7⟩ := cellsAt8 HB1.out
 go_wp2_with fail
 go_at_call 62
 refine (sync_any (DJ.fin HP.out HNG.out HJ0.out)).mono ?_
 rw [HER.out]
 rintro e wf ⟨rfl, h4⟩
 rw [HM.out] at h4
 have HJF : Hid (DJ S O O' (fun k => k < w.heap.size) w1 (.pointer (some ⟨gf, 0, none⟩)) (.pointer (some ⟨gx, 0, none⟩)) m' m2' (fun _ => True) (fun _ => True) (some (.bool true)) none wf) := DJ.setF HP.out HJ0.out (by trivial) h4
 obtain ⟨c0, c1, c2, c3, c4, c5, c6, c7⟩ := cellsAt8 (DJ.row HJF.out HB1.out HNO.out.1 HNO.out.2)
 clear h4
 go_wp2_with fail
 go_at_call 81
 refine (syncR_any (DJ.rin HP.out HJF.out)).mono ?_
 rw [HER2.out]
 rintro e w2 ⟨rfl, h4⟩
 rw [HM2.out] at h4
 have hjx : DJ S O O' (fun k => k < w.heap.size) w1 (.pointer (some ⟨gf, 0, none⟩)) (.pointer (some ⟨gx, 0, none⟩)) m' m2' (fun _ => True) (fun _ => True) (some (.bool true)) (some (.bool true)) w2 := DJ.setR HP.out HJF.out (by trivial) h4
 obtain ⟨-, -, hboth⟩ := hjx
 clear h4 c0 c1 c2 c3 c4 c5 c6 c7
 have HBO : Hid _ := hboth
 have hb2 := hboth.fr.row HB1.out (fun h => h.elim HNO.out.1 HNO.out.2)
 obtain ⟨-, -, -, -, -, -, c6, -⟩ := cellsAt8 hb2
 have HBI : Hid (IsBytes w2 (.slice ia data.length ic) data) := Row.keepB HIN.out HTI.out hboth.fr.keep
 have HBD : Hid (IsBytes w2 (.slice da data.length dc) data) := OldB.at HD0.out (Ext.of_fr HB0.out hboth.fr (fun k hk => hk.elim (HP.out.high k) (HP.out.rin.high k)))
 have HOW : Hid (w2.ownsRow wb.heap.size 5 1 (.slice ia data.length ic) data.length (data.map fun x => .int .u8 x.toNat)) := by
  refine ⟨HOI.out.1, HOI.out.2.imp id ?_⟩
  rintro ⟨g, cap, cur, h1, h2, h3, h4⟩
  exact ⟨g, cap, cur, h1, h2, (hboth.fr.keep.2 _ ⟨_, _, _, h3, byt_u8⟩).trans h3, h4⟩
 have hdl := HD1.out.len
 have HIB : Hid (∀ k, (Value.slice ia data.length ic).ownBlock = some k → w.heap.size ≤ k ∧ k < w1.heap.size) := fun k hk => by
  have := World.ownsRow.lt HOI.out k hk
  omega
 clear hb2 hboth
 go_upto_region 37 with fail
 go_wp2_with fail
 go_at_call 100
 refine (bytesEq_any _ _ _ _ _ HBI.out HBD.out).mono ?_
 rw [beq_self_eq_true]
 rintro e w3 ⟨rfl, rfl⟩
 clear c6
 go_wp2_with fail
 go_loopw [17] (fun i wr => ∃ (k : Nat) (xs : List Value), k ≤ data.length ∧ i = .int .i64 k ∧ wr.ownsRow wb.heap.size 5 1 (.slice ia data.length ic) data.length xs ∧ U8s xs ∧ w3.grownBy wr (Value.slice ia data.length ic).ownBlock) (fun i _ => data.length - (intOf i).toNat)
 case atStart => exact ⟨0, _, Nat.zero_le _, rfl, HOW.out, U8s.map _, ⟨rfl, rfl, rfl, Nat.le_refl _, fun _ _ _ => rfl⟩⟩
 case round =>
  obtain ⟨k, ys, hk, rfl, hown, hu8, hgr⟩ := hrel
  have HOW3 : Hid _ := hown
  have HU : Hid _ := hu8
  have HGR : Hid _ := hgr
  have hyl : ys.length = data.length := by have := hown.1; omega
  clear hown hu8 hgr
  by_cases hlt : k < data.length
  ·obtain ⟨g, cap', hge⟩ := owns_some HOW3.out (by omega)
   simp only [Value.slice.injEq, true_and] at hge
   obtain ⟨rfl, rfl⟩ := hge
   obtain ⟨u, hu⟩ : ∃ u, ys[k]? = some u := ⟨_, List.getElem?_eq_getElem (by omega)⟩
   obtain ⟨b, hb, rfl⟩ := HU.out k u hu
   have hcell : wr.cell? ⟨g, k, none⟩ = some (.int .u8 b) := by
    rw [World.ownsRow.cellAt HOW3.out k (by omega)]
    exact hu
   have hfz := World.ownsRow.frozenAt HOW3.out k
   clear hu
   go_wp2
   go_roundw
   case rel =>
    obtain ⟨ho3, hg3⟩ := World.ownsRow.stored HOW3.out k (.int .u8 (((b : Int) + 1) % 256))
    refine ⟨k + 1, ys.set k (.int .u8 (((b : Int) + 1) % 256)), by omega, by go_num, ho3, ?_, HGR.out.trans hg3⟩
    have he : ((b : Int) + 1) % 256 = (((b + 1) % 256 : Nat) : Int) := by omega
    rw [he]
    exact U8s.set HU.out k _ (by omega)
   case measure => simp [intOf]; omega
  ·have hkk : k = data.length := by omega
   subst hkk
   go_wp2
   go_ret
   rw [HM.out, HM2.out]
   exact ⟨⟨_, rfl, HOKB.out⟩, Two2.done HT.out HX01.out HBO.out HIB.out HGR.out⟩

end Go.Proofs.YtfimfbdlegookaaGreatDoor
