/- marref6: expected, GetRef. Conditions: as each theorem states. -/
import Derived.Test.YtfimfbdlegookaaGreatDoorZah
import Derived.Test.YtfimfbdlegookaaGreatDoorZag
import Derived.Test.YtfimfbdlegookaaGreatDoorZaa

set_option linter.unusedVariables false
set_option linter.unusedSimpArgs false
set_option linter.unusedSectionVars false

/-! marref5.FS: Crash. Conditions: at most 800000 ticks. -/
namespace Go.Proofs.YtfimfbdlegookaaGreatDoor
open Go Go.RowKit
variable [Inhabited BaseW]

/-- A store into the own block, told. -/
theorem RefPost.store {O R : Nat → Prop} {w w1 w2 : World} {m' : Fs} {g : Nat} {vn vs vp vl vu : Value} {cur : Array Value} (hfr : Fr O w w1) (hO : Nw O w w1 g) (hg : w1.heap[g]? = some (.cells cur 133 (0, 0)))
  (hP : RParts (Nw O w w1) (Nw R w w1) w1 vn vs vp vl vu m'.now m'.sure m'.pend m'.plan m'.users) (hgr : w1.grownBy w2 (some g)) (hg2 : w2.heap[g]? = some (.cells (refCells m'.room vn vs vp vl m'.calls m'.time m'.down vu) 133 (0, 0))) :
  RefPost O R w (.pointer (some ⟨g, 0, none⟩)) m' w2 :=
 ⟨⟨g, vn, vs, vp, vl, vu, rfl, hg2, hO.fst hgr.size, (hP.own hg hgr).mono (fun k hk => hk.fst hgr.size) (fun k hk => hk.fst hgr.size)⟩,
  hfr.step hgr (fun k hk => by cases hk; exact hO.imp id (fun h => h.1)) (by rintro k hk; cases hk; exact cells_u8 hg (by kernel_rfl))⟩
theorem NewOr.inn {O : Nat → Prop} {w w' : World} {v v' : Value} (h : NewOr w v v') (hi : Inn O v) (hl : ∀ k, v'.ownBlock = some k → k < w'.heap.size) : Inn (Nw O w w') v' := fun k hk => (h k hk).imp (hi k) (fun h1 => ⟨h1, hl k hk⟩)
theorem OwnL.readL {α : Type} {w : World} {t : TypeId} {size : Nat} {p : List Value → α → Prop} {v : Value} {xs : List α} (h : OwnL w t size p v xs) (hl : xs.length ≤ 1000000) : ReadL w t p v xs := by
 obtain ⟨css, h1, h2⟩ := h
 exact ⟨css, Row.of_owns h1 (by omega), Typed.of_owns h1, h2⟩
/-- A change of a list, in its cells. -/
theorem ops_get {R : Nat → Prop} {w : World} {v : Value} {l : List Ch} (h : OwnL w 185 6 (IsOp R w) v l) (hl : l.length ≤ 1000000) : ∃ a cap, v = .slice a l.length cap ∧ l.length ≤ cap ∧ cap ≤ 9223372036854775807 ∧
  ∀ (k : Nat) c, l[k]? = some c → ∃ b o cs, a = some ⟨b, o, none⟩ ∧ IsOp R w cs c ∧ ∀ j u, cs[j]? = some u → w.cell? ⟨b, o + k * 6 + j, none⟩ = some u := by
 obtain ⟨a, cap, h1, h2, h3, h4, h5⟩ := readL_get 6 (fun c x hx => hx.length.1) (by omega) (OwnL.readL h hl)
 exact ⟨a, cap, h1, h2, h4, h5⟩
theorem fold_len {m : Fs} (hok : OkM m) (k : Nat) : ((m.pend.take k).foldl ap m.sure).length ≤ m.time := by
 have h1 := fold_length m.sure (m.pend.take k)
 have h2 := hok.lsp
 have h3 : (m.pend.take k).length ≤ m.pend.length := by simp; omega
 omega

set_option maxRecDepth 100000 in
set_option maxHeartbeats 8000000 in
theorem crashR_any {O R : Nat → Prop} {w : World} {p : Value} {m : Fs} (keep torn : Int) (h : IsRef O R w p m) (hok : OkM m) (ht : m.time ≤ 800000) (hk64 : I64 keep) (ht64 : I64 torn) :
  Calls Tryz.prog 96 #[p, .int .i64 keep, .int .i64 torn] w fun e w' => e = .returned (.tuple #[]) ∧ RefPost O R w p (crash m keep torn) w' := by
 have HH : Hid (IsRef O R w p m) := h
 obtain ⟨g, vn, vs, vp, vl, vu, rfl, hg, hO, hP⟩ := h
 have hlp := hok.lpend
 obtain ⟨sa, sc, rfl, -⟩ := rows_get hP.sure
 obtain ⟨pa, pc, rfl, hpc1, hpc2, hget⟩ := ops_get hP.pend (by omega)
 obtain ⟨d0, d1, d2, d3, d4, d5, d6, d7, d8⟩ := cellsAt9 hg
 have HG : Hid _ := hg
 have HP : Hid _ := hP
 have HGET : Hid _ := hget
 have HDP : Hid _ := hok.dpend
 have HFL : Hid _ := fold_len hok
 have hdef : crash m keep torn = if m.down then m else { m with now := fallen m keep torn, sure := fallen m keep torn, pend := [], down := true } := rfl
 unfold I64 at hk64 ht64
 cases hdn : m.down with
 | true =>
  have hdd : crash m keep torn = m := by rw [hdef, hdn]; rfl
  have HDD : Hid _ := hdd
  rw [hdn] at d7
  clear hg hP hget hok hdef hdn hdd
  go_enter Tryz.func96, Tryz.ntmps96
  go_wp2
  refine bodyPost_ret (results_none rfl _ _ _) rfl ?_
  rw [HDD.out]
  exact ⟨rfl, RefPost.same HH.out (Ext.refl _)⟩
 | false =>
  obtain ⟨N, hN⟩ : ∃ N, keepN m keep = N := ⟨_, rfl⟩
  have hN1 : N ≤ m.pend.length := by rw [← hN]; unfold keepN; omega
  have hmin : min (max keep 0) (m.pend.length : Int) = (N : Int) := by rw [← hN]; unfold keepN; omega
  have hdd : crash m keep torn = { m with now := fallen m keep torn, sure := fallen m keep torn, pend := [], down := true } := by rw [hdef, hdn]; rfl
  have HDD : Hid _ := hdd
  have hfa : fallen m keep torn = torn1 ((m.pend.take N).foldl ap m.sure) torn m.pend[N]? := by unfold fallen; rw [hN]
  have HFA : Hid _ := hfa
  rw [hdn] at d7
  have HDN : Hid _ := hdn
  clear hg hP hget hok hdef hdn hdd hfa hN
  go_enter Tryz.func96, Tryz.ntmps96
  go_wp2
  go_loopw [6, 8] (fun lv i wr => ∃ k : Nat, k ≤ N ∧ i = .int .i64 k ∧ IsRows R wr lv ((m.pend.take k).foldl ap m.sure) ∧ NewOr w (.slice sa m.sure.length sc) lv ∧ Ext w wr) (fun _ i _ => N - (intOf i).toNat)
  case atStart => exact ⟨0, Nat.zero_le _, rfl, HP.out.sure, fun k hk => .inl hk, Ext.refl _⟩
  case round =>
   obtain ⟨k, hk, rfl, hrows, hnew, hx⟩ := hrel
   have HR : Hid _ := hrows
   have HN : Hid _ := hnew
   have HX : Hid _ := hx
   have hfl := HFL.out k
   replace d3 := hx.cell d3
   clear hrows hnew
   by_cases hlt : k < N
   ·obtain ⟨c, hc⟩ : ∃ c, m.pend[k]? = some c := ⟨_, List.getElem?_eq_getElem (by omega)⟩
    obtain ⟨b, o, cs, rfl, hcc, hcell⟩ := HGET.out k c hc
    obtain ⟨kd, cp, cq, cm, ct, ca, cn, ccap, rfl, -⟩ := hcc.shape
    have x0 := hx.cell (hcell 0 _ rfl)
    have x1 := hx.cell (hcell 1 _ rfl)
    have x2 := hx.cell (hcell 2 _ rfl)
    have x3 := hx.cell (hcell 3 _ rfl)
    have x4 := hx.cell (hcell 4 _ rfl)
    have x5 := hx.cell (hcell 5 _ rfl)
    simp only [Nat.add_zero] at x0
    have HCC : Hid _ := hcc
    have HC : Hid _ := hc
    obtain ⟨ra, rc, rfl, -⟩ := rows_get HR.out
    clear hcell hcc hc d0 d1 d2 d4 d5 d6 d7 d8
    go_wp2_with (go_at_call 162; go_must (refine (apply_any HR.out (by omega) (IsOp.ext HCC.out HX.out)).mono ?_; rintro e w4 ⟨⟨v4, rfl, hr4, hn4⟩, hx4⟩))
    go_roundw
    case rel =>
     refine ⟨k + 1, by omega, by go_num, by rw [fold_snoc HC.out]; exact hr4, fun j hj => ?_, hx.trans hx4⟩
     rcases hn4 j hj with h1 | h1
     ·exact HN.out j h1
     ·exact .inr (Nat.le_trans hx.size h1)
    case measure => simp [intOf]; omega
   ·have hkk : k = N := by omega
    subst hkk
    obtain ⟨ra, rc, rfl, -⟩ := rows_get HR.out
    obtain ⟨L, hL⟩ : ∃ L, (m.pend.take k).foldl ap m.sure = L := ⟨_, rfl⟩
    rw [hL] at HR HN HFA hfl ⊢
    clear hL
    by_cases hNl : k < m.pend.length
    case' neg =>
     have hNi : ¬ (k : Int) < (m.pend.length : Int) := by omega
     have FA : Hid (torn1 L torn m.pend[k]? = L) := by
      have : m.pend[k]? = none := List.getElem?_eq_none (by omega)
      unfold Hid; rw [this]; rfl
     obtain ⟨F, rfl⟩ : ∃ F, F = L := ⟨_, rfl⟩
     obtain ⟨fa, rfl⟩ : ∃ fa, fa = ra := ⟨_, rfl⟩
     obtain ⟨fc, rfl⟩ : ∃ fc, fc = rc := ⟨_, rfl⟩
     have FR : Hid (IsRows (Nw R w wr) wr (.slice fa F.length fc) F) := ReadL.rowsMono HR.out (fun k hk => .inl hk)
     have FN : Hid (NewOr w (.slice sa m.sure.length sc) (.slice fa F.length fc)) := HN.out
     have FX : Hid (Ext w wr) := HX.out
     have FL : Hid (F.length ≤ 900000) := by unfold Hid; omega
     clear hx d0 d1 d2 d4 d5 d6 d7 d8
    case' pos =>
     have hNi : (k : Int) < (m.pend.length : Int) := by omega
     obtain ⟨c, hc⟩ : ∃ c, m.pend[k]? = some c := ⟨_, List.getElem?_eq_getElem hNl⟩
     obtain ⟨b, o, cs, hpa, hcc, hcell⟩ := HGET.out k c hc
     rw [hpa] at d3
     have HC : Hid _ := hc
     cases c
     case' mv s d =>
      obtain ⟨h1, h2, rfl⟩ := hcc
      have x0 := hx.cell (hcell 0 _ rfl)
      simp only [Nat.add_zero] at x0
      have FA : Hid (torn1 L torn m.pend[k]? = L) := by unfold Hid; rw [HC.out]; rfl
      obtain ⟨F, rfl⟩ : ∃ F, F = L := ⟨_, rfl⟩
      obtain ⟨fa, rfl⟩ : ∃ fa, fa = ra := ⟨_, rfl⟩
      obtain ⟨fc, rfl⟩ : ∃ fc, fc = rc := ⟨_, rfl⟩
      have FR : Hid (IsRows (Nw R w wr) wr (.slice fa F.length fc) F) := ReadL.rowsMono HR.out (fun k hk => .inl hk)
      have FN : Hid (NewOr w (.slice sa m.sure.length sc) (.slice fa F.length fc)) := HN.out
      have FX : Hid (Ext w wr) := HX.out
      have FL : Hid (F.length ≤ 900000) := by unfold Hid; omega
      clear hx hcell d0 d1 d2 d4 d5 d6 d7 d8
     case' del q =>
      obtain ⟨h1, rfl⟩ := hcc
      have x0 := hx.cell (hcell 0 _ rfl)
      simp only [Nat.add_zero] at x0
      have FA : Hid (torn1 L torn m.pend[k]? = L) := by unfold Hid; rw [HC.out]; rfl
      obtain ⟨F, rfl⟩ : ∃ F, F = L := ⟨_, rfl⟩
      obtain ⟨fa, rfl⟩ : ∃ fa, fa = ra := ⟨_, rfl⟩
      obtain ⟨fc, rfl⟩ : ∃ fc, fc = rc := ⟨_, rfl⟩
      have FR : Hid (IsRows (Nw R w wr) wr (.slice fa F.length fc) F) := ReadL.rowsMono HR.out (fun k hk => .inl hk)
      have FN : Hid (NewOr w (.slice sa m.sure.length sc) (.slice fa F.length fc)) := HN.out
      have FX : Hid (Ext w wr) := HX.out
      have FL : Hid (F.length ≤ 900000) := by unfold Hid; omega
      clear hx hcell d0 d1 d2 d4 d5 d6 d7 d8
     case' put q f =>
      obtain ⟨hql, v, rfl, hd⟩ := hcc
      obtain ⟨ca, cc, rfl, -⟩ := id hd.bytes
      have x0 := hx.cell (hcell 0 _ rfl)
      have x1 := hx.cell (hcell 1 _ rfl)
      have x2 := hx.cell (hcell 2 _ rfl)
      have x3 := hx.cell (hcell 3 _ rfl)
      have x4 := hx.cell (hcell 4 _ rfl)
      have x5 := hx.cell (hcell 5 _ rfl)
      simp only [Nat.add_zero] at x0
      have HD : Hid _ := IsData.ext hd hx
      have hdl2 : f.data.length ≤ 20000 := (HDP.out _ (List.mem_of_getElem? HC.out)).2
      clear hcell hd hc
      by_cases htt : 0 ≤ torn ∧ torn < (f.data.length : Int)
      case' pos =>
       obtain ⟨ht0, htl⟩ := htt
       obtain ⟨n, rfl⟩ : ∃ n : Nat, torn = n := ⟨torn.toNat, by omega⟩
       have hnl : n < f.data.length := by omega
       have hnt : ((n : Int)).toNat = n := by omega
       have hbt := HD.out.takeN (n := n) (by omega)
       obtain ⟨ca', cc', he9, hcap, -⟩ := id HD.out.bytes
       simp only [Value.slice.injEq, true_and] at he9
       obtain ⟨rfl, rfl⟩ := he9
       have hnc : (n : Int) ≤ (cc : Int) := by omega
       have htl9 : (f.data.take n).length = n := by rw [List.length_take]; omega
       have FA0 : torn1 L n m.pend[k]? = ap L (.put q { f with data := f.data.take n }) := by
        rw [HC.out]
        exact (if_pos ⟨ht0, htl⟩).trans (by rw [hnt])
       obtain ⟨td, htd⟩ : ∃ td, f.data.take n = td := ⟨_, rfl⟩
       rw [htd] at hbt htl9 FA0
       have HBT : Hid _ := hbt
       have FA : Hid _ := FA0
       have HTN : Hid _ := htl9
       have hap := ap_length L (.put q { f with data := td })
       clear hbt htl9 FA0 htd hx
       go_upto_region 9 with fail
       obtain ⟨wx, hwx⟩ : ∃ wx, wx = wr.alloc (.cells #[.int .i64 1, S8 [], S8 q, .int .i64 f.mode, .slice ca f.data.length cc, .int .i64 f.time] 185) := ⟨_, rfl⟩
       have HWX : Hid _ := hwx
       have hxx : Ext wr wx := by rw [hwx]; exact (Ext.refl _).alloc _
       have hbx : wx.heap[wr.heap.size]? = some (.cells #[.int .i64 1, S8 [], S8 q, .int .i64 f.mode, .slice ca f.data.length cc, .int .i64 f.time] 185 (0, 0)) := by rw [hwx]; exact alloc_at _ _
       have hbtx : IsBytes wx (.slice ca n cc) td := IsBytes.ext HBT.out hxx
       have HBX : Hid _ := hbtx
       obtain ⟨y0, y1, y2, y3, y4, y5⟩ := cellsAt6 hbx
       clear hwx hbtx x0 x1 x2 x3 x4 x5
       rw [show wr.alloc (.cells #[.int .i64 1, S8 [], S8 q, .int .i64 f.mode, .slice ca f.data.length cc, .int .i64 f.time] 185) = wx from HWX.out.symm]
       go_wp2_with fail
       go_at_call 87
       refine (copyB_any _ td _ HBX.out).mono ?_
       rintro e w2 ⟨⟨v2, rfl, hd2⟩, hx2⟩
       obtain ⟨ea, ec, rfl, -⟩ := id hd2.bytes
       have HD2 : Hid _ := hd2
       have hbx2 := hx2.row hbx
       have hxr2 := hxx.trans hx2
       clear hd2 y0 y1 y2 y3 y4 y5 hbx
       go_wp2_with (refine store_field rfl 31 (.tmp 90) (.tmp 88) rfl wr.heap.size 4 rfl (.slice ea td.length ec) rfl rfl _ _ hbx2 (Nat.le_of_ble_eq_true rfl) size_bytes #[.int .i64 1, S8 [], S8 q, .int .i64 f.mode, .slice ea td.length ec, .int .i64 f.time] (by simp) ?_; intro w3 hb3 hgr3; have hxr3 : Ext wr w3 := Ext.but hxr2 hgr3 (Nat.le_refl _); obtain ⟨y0, y1, y2, y3, y4, y5⟩ := cellsAt6 hb3)
       have hd3 : IsData (Nw R w w3) w3 (.slice ea td.length ec) td := by
        have hu : ¬ IsU8 w2 wr.heap.size := cells_u8 hbx2 (by kernel_rfl)
        have h9 : IsData (Nw R w w3) w2 (.slice ea td.length ec) td := HD2.out.mono (fun k hk => .inr ⟨by have := hk.1; have := hxx.size; have := Below.size HX.out; omega, by have := hk.2; have := hgr3.size; omega⟩)
        exact h9.keepR (grown_keepR hgr3 hu)
       have HD3 : Hid _ := hd3
       have HR3 : Hid (IsRows (Nw R w w3) w3 (.slice ra L.length rc) L) := ReadL.rowsMono (ReadL.rowsExt HR.out hxr3) (fun k hk => .inl hk)
       have HX3 : Hid _ := Ext.trans HX.out hxr3
       clear hd3 hbx2 hxx hx2 hxr2
       go_wp2_with fail
       go_at_call 162
       refine (apply_any (cs := [.int .i64 1, S8 [], S8 q, .int .i64 f.mode, .slice ea td.length ec, .int .i64 f.time]) (c := .put q { f with data := td }) HR3.out (by omega) ⟨hql, _, rfl, HD3.out⟩).mono ?_
       rintro e wf ⟨⟨v4, rfl, hr4, hn4⟩, hx4⟩
       obtain ⟨F, hF⟩ : ∃ F, ap L (.put q { f with data := td }) = F := ⟨_, rfl⟩
       rw [hF] at hr4 FA hap
       obtain ⟨fa, fc, rfl, -⟩ := rows_get hr4
       have FR : Hid (IsRows (Nw R w wf) wf (.slice fa F.length fc) F) := ReadL.rowsMono hr4 (fun k hk => hk.fst hx4.size)
       have FN : Hid (NewOr w (.slice sa m.sure.length sc) (.slice fa F.length fc)) := fun j hj => by
        rcases hn4 j hj with h1 | h1
        ·exact HN.out j h1
        ·exact .inr (by have := Below.size HX3.out; omega)
       have FX : Hid (Ext w wf) := Ext.trans HX3.out hx4
       have FL : Hid (F.length ≤ 900000) := by unfold Hid; omega
       clear hr4 hn4 hF hxr3 hb3 hgr3 y0 y1 y2 y3 y4 y5
      case' neg =>
       have FA : Hid (torn1 L torn m.pend[k]? = L) := by unfold Hid; rw [HC.out]; exact if_neg htt
       obtain ⟨F, rfl⟩ : ∃ F, F = L := ⟨_, rfl⟩
       obtain ⟨fa, rfl⟩ : ∃ fa, fa = ra := ⟨_, rfl⟩
       obtain ⟨fc, rfl⟩ : ∃ fc, fc = rc := ⟨_, rfl⟩
       have FR : Hid (IsRows (Nw R w wr) wr (.slice fa F.length fc) F) := ReadL.rowsMono HR.out (fun k hk => .inl hk)
       have FN : Hid (NewOr w (.slice sa m.sure.length sc) (.slice fa F.length fc)) := HN.out
       have FX : Hid (Ext w wr) := HX.out
       have FL : Hid (F.length ≤ 900000) := by unfold Hid; omega
       clear hx d0 d1 d2 d4 d5 d6 d7 d8
       by_cases ht0 : 0 ≤ torn
       case' pos =>
        have htl : ¬ torn < (f.data.length : Int) := fun h => htt ⟨ht0, h⟩
        clear htt
       case' neg => clear htt
    all_goals
     have hgf := Ext.row FX.out HG.out
     obtain ⟨z0, z1, z2, z3, z4, z5, z6, z7, z8⟩ := cellsAt9 hgf
     go_wp2_with (first
      | (refine store_field rfl 129 (.tmp 97) (.tmp 95) rfl g 1 rfl (.slice fa F.length fc) rfl rfl _ _ hgf (Nat.le_of_ble_eq_true rfl) size_rows (refCells m.room (.slice fa F.length fc) (.slice sa m.sure.length sc) (.slice pa m.pend.length pc) vl m.calls m.time m.down vu) (by simp) ?_; intro w5 hg5 hgr5; have P5 : RefPost O R w (.pointer (some ⟨g, 0, none⟩)) { m with now := F } w5 := RefPost.store (m' := { m with now := F }) (Fr.of_ext FX.out) (.inl hO) hgf (((HP.out.ext FX.out).mono (fun k hk => .inl hk) (fun k hk => .inl hk)).setNow FR.out (FN.out.inn HP.out.os FR.out.lt)) hgr5 hg5)
      | (go_at_call 158; go_must (refine (safe_any P5.fs (by have := FL.out; simp only; omega)).mono ?_; rintro e w6 ⟨rfl, h6⟩; have P6 := P5.trans h6; obtain ⟨g', vn', vs', vp', vl', vu', hpe, hg6, hO6, hP6⟩ := P6.fs; cases hpe))
      | (refine store_field rfl 4 (.tmp 102) _ rfl g 7 rfl (.bool true) rfl rfl _ _ hg6 (Nat.le_of_ble_eq_true rfl) size_bool (refCells m.room vn' vs' vp' vl' m.calls m.time true vu') (by simp [settle]) ?_; intro w7 hg7 hgr7))
     go_end0
     rw [HDD.out, HFA.out, FA.out]
     exact ⟨rfl, RefPost.store (m' := { m with now := F, sure := F, pend := [], down := true }) P6.fr hO6 hg6 hP6 hgr7 hg7⟩

end Go.Proofs.YtfimfbdlegookaaGreatDoor

/-! marref5.FS: UserWrite, UserRemove. Conditions: at most 700000 ticks; short paths. -/
namespace Go.Proofs.YtfimfbdlegookaaGreatDoor
open Go Go.RowKit
variable [Inhabited BaseW]

theorem info_re : (Tryz.prog.info? 146).map (fun i => (i.zero, i.size, i.bytes)) = some (some (.agg #[.int .i64 0, .int .i64 0, .int .i64 0, .int .i64 0, .int .i64 0, S8 [], .slice none 0 0]), 7, 80) := by kernel_rfl
section
variable {ops : Array Oper} {rest : List Oper} {o : Oper} {a : Act} {Q : Exit → Act → World → Prop} {w : World}
/-- append of one event of the document's. -/
theorem app_re (hgd : o.guard = none) (s x : Operand) (ho : o.op = .call { callee := .builtin .append, args := #[s, x], argTypes := #[131, 131] })
  (base : Nat) (v : Value) (n : Nat) (xs : List Value) (hs : a.eval s = v) (hown : w.ownsRow base 146 7 v n xs)
  (g c : Nat) (news : List Value) (hx : a.eval x = .slice (some ⟨g, 0, none⟩) 1 c) (hl : news.length = 7) {fr : Nat × Nat} (hg : w.heap[g]? = some (.cells news.toArray 146 fr)) (h1 : news.all (·.oneCell') = true)
  (hb : n ≤ 10000000) (hbase : base ≤ w.heap.size)
  (h : ∀ v' w', w'.ownsRow base 146 7 v' (n + 1) (xs ++ news) → w.grownBy w' v.ownBlock → (∀ k, v'.ownBlock = some k → v.ownBlock = some k ∨ w.heap.size ≤ k) → wpList Tryz.prog ops Q rest (a.put o.dst v') w') : wpList Tryz.prog ops Q (o :: rest) a w := by
 obtain ⟨i0, hi, hz0, hz1, hz2⟩ := info_parts info_re
 exact wpList_append_own_at w hgd s x _ ho base _ i0 _ 7 80 Tryz.underlying131 hi hz0 hz1 hz2 rfl (by omega) v n xs hs hown ⟨g, 0, none⟩ 1 c news hx (by simpa using hl) (by simpa using news_of_block hg) (fun u hu => List.all_eq_true.1 h1 u hu) (by unfold maxLen; omega) (by omega) hbase
  (fun v' w' h1 h2 _ h4 => h v' w' h1 h2 (fun k hk => by
   rcases h4 with h4 | h4
   ·exact .inl (h4.symm.trans hk)
   ·rw [h4] at hk; simp only [Option.some.injEq] at hk; exact .inr (by omega)))
end

/-- A user's event is written down. -/
theorem rusers_done {O R : Nat → Prop} {w w4 w6 w7 w8 : World} {m1 : Fs} {g : Nat} {vn vs vp vl vu vu' : Value} {cur7 : Array Value} {css : List (List Value)} {c : List Value} {e : Ev} (hfr : Fr O w w4) (hO4 : Nw O w w4 g)
  (hP4 : RParts (Nw O w w4) (Nw R w w4) w4 vn vs vp vl vu m1.now m1.sure m1.pend m1.plan m1.users) (hx6 : Ext w4 w6) (hown7 : w7.ownsRow 0 146 7 vu' (m1.users.length + 1) (css.flatten ++ c)) (heach : Each (IsEvR (Nw R w w4) w4) css m1.users)
  (hgr7 : w6.grownBy w7 vu.ownBlock) (hwh7 : ∀ k, vu'.ownBlock = some k → vu.ownBlock = some k ∨ w6.heap.size ≤ k) (hc : IsEvR (fun k => w4.heap.size ≤ k) w6 c e) (hg7 : w7.heap[g]? = some (.cells cur7 133 (0, 0))) (hgr8 : w7.grownBy w8 (some g))
  (hg8 : w8.heap[g]? = some (.cells (refCells m1.room vn vs vp vl m1.calls m1.time m1.down vu') 133 (0, 0))) : RefPost O R w (.pointer (some ⟨g, 0, none⟩)) { m1 with users := m1.users ++ [e] } w8 := by
 have hP6 := hP4.ext hx6
 have h46 := hx6.size
 have h67 := hgr7.size
 have hw4 := hfr.size
 have hu6 : ∀ k, vu.ownBlock = some k → ¬ IsU8 w6 k := fun k hk => by
  obtain ⟨cs9, fr9, hx9⟩ := hP6.users.typed k hk
  exact cells_u8 hx9 (by kernel_rfl)
 have k47 : ∀ (R : Nat → Prop), KeepR R w4 w7 := fun R => by
  have a := KeepR.of_keep (R := R) (KeepB.of_ext hx6)
  have b : KeepR R w6 w7 := grownR hgr7 hu6
  exact KeepR.trans a b
 have hvb : ∀ k, vu'.ownBlock = some k → k < w7.heap.size := fun k hk => (hown7.lt k hk).2
 have hc7 : IsEvR (Nw R w w7) w7 c e := ((hc.bound).mono (R' := Nw R w w7) (fun k hk => .inr ⟨by omega, by omega⟩)).keepR (grownR hgr7 hu6)
 have hn7 : OwnL w7 146 7 (IsEvR (Nw R w w7) w7) vu' (m1.users ++ [e]) :=
  OwnL.app heach hown7 (fun c x hx => (hx.keepR (k47 _)).mono (fun k hk => hk.fst (by omega))) hc7
 have hP7 := (hP6.mono (O' := Nw O w w7) (R' := Nw R w w7) (fun k hk => hk.fst (by omega)) (fun k hk => hk.fst (by omega))).appUsers hgr7 hn7 (fun k hk => by
  rcases hwh7 k hk with h1 | h1
  ·exact (hP6.ou k h1).fst (by omega)
  ·exact .inr ⟨by omega, hvb k hk⟩) (fun k hk hl => by
  rcases hwh7 k hk with h1 | h1
  ·exact hP6.off k h1 hl
  ·have := hP6.plan.lt k hl
   omega)
 refine RefPost.store (m' := { m1 with users := m1.users ++ [e] }) ((hfr.ext hx6).step hgr7 (fun k hk => by rcases hP6.ou k hk with h | h; exact .inl h; exact .inr h.1) hu6) (hO4.fst (by omega)) hg7 hP7 hgr8 hg8

theorem putRM_size {m : Fs} {path : B8} {mode : Int} {data : B8} {only full : Bool} {room : Int} : (putRM m path mode data only full room).1.now.length ≤ m.now.length + 1 ∧ (putRM m path mode data only full room).1.users = m.users ∧ (putRM m path mode data only full room).1.calls = m.calls := by
 unfold putRM putsM
 split
 ·exact ⟨Nat.le_succ _, rfl, rfl⟩
 ·split
  ·exact ⟨Nat.le_succ _, rfl, rfl⟩
  ·split
   ·exact ⟨Nat.le_succ _, rfl, rfl⟩
   ·split
    ·exact ⟨Nat.le_succ _, rfl, rfl⟩
    ·exact ⟨show (ap m.now ((Ch.put path ⟨mode, data, 0⟩).at (m.time + 1))).length ≤ m.now.length + 1 from ap_length _ _, rfl, rfl⟩
theorem userWrite_R {m : Fs} (hok : OkM m) (ht : m.time ≤ 900000) (path : B8) (mode : Int) (data : B8) : userWrite m path mode data = if m.down then (m, 12) else if (putRM m path mode data false false 1152921504606846976).2 ≠ 0 then putRM m path mode data false false 1152921504606846976
  else ({ settle (putRM m path mode data false false 1152921504606846976).1 with users := m.users ++ [⟨m.calls, 4, mode, 0, 0, path, data⟩] }, 0) := by
 have hu := used_bound hok ht
 unfold userWrite
 by_cases hd : m.down = true
 ·rw [if_pos hd, if_pos hd]
 ·rw [if_neg hd, if_neg hd]
  by_cases hw : wrongE path mode data ≠ 0
  ·have e : putRM m path mode data false false 1152921504606846976 = (m, wrongE path mode data) := by unfold putRM; rw [if_pos hw]
   rw [if_pos hw, e, if_pos hw]
  ·have hdl : data.length ≤ 20000 := by
    simp only [ne_eq, Decidable.not_not] at hw
    exact (wrong_zero hw).2.2.2
   have e : putRM m path mode data false false 1152921504606846976 = putsM m path mode data true := by
    unfold putRM
    rw [if_neg hw, if_neg (by simp), decide_eq_true (by omega)]
    rfl
   rw [if_neg hw, e]

set_option maxRecDepth 100000 in
set_option maxHeartbeats 4000000 in
theorem userWriteR_any {O R : Nat → Prop} {w : World} {p : Value} {m : Fs} (path : B8) (mode : Int) (v : Value) (data : B8) (h : IsRef O R w p m) (hok : OkM m) (ht : m.time ≤ 700000) (hp : path.length ≤ 400) (hv : IsBytes w v data) (hout : Out O w v) :
  Calls Tryz.prog 93 #[p, S8 path, .int .i64 mode, v] w fun e w' => e = .returned (.int .i64 (userWrite m path mode data).2) ∧ RefPost O R w p (userWrite m path mode data).1 w' := by
 have HH : Hid (IsRef O R w p m) := h
 have HV : Hid _ := hv
 have HOK : Hid _ := hok
 have hl := hok.lnow
 have hlu := hok.lusers
 have hdef := userWrite_R hok (by omega) path mode data
 have HDEF : Hid _ := hdef
 obtain ⟨a, c, rfl, -⟩ := hv.get
 obtain ⟨g, vn, vs, vp, vl, vu, rfl, hg, hO, hP⟩ := h
 obtain ⟨d0, d1, d2, d3, d4, d5, d6, d7, d8⟩ := cellsAt9 hg
 clear hg hP hdef hok hv
 cases hdn : m.down with
 | true =>
  have hdd : userWrite m path mode data = (m, 12) := by rw [HDEF.out, hdn]; rfl
  have HDD : Hid _ := hdd
  rw [hdn] at d7
  clear hdd hdn
  go_enter Tryz.func93, Tryz.ntmps93
  go_wp2
  go_ret
  rw [HDD.out]
  exact ⟨rfl, RefPost.same HH.out (Ext.refl _)⟩
 | false =>
  rw [hdn] at d7
  have HDN : Hid _ := hdn
  clear hdn
  obtain ⟨mp, e2, hmp⟩ : ∃ mp e2, putRM m path mode data false false 1152921504606846976 = (mp, e2) := ⟨_, _, rfl⟩
  have HMP : Hid _ := hmp
  have hps := @putRM_size _ m path mode data false false 1152921504606846976
  rw [hmp] at hps
  simp only at hps
  have HPU : Hid _ := hps.2.1
  have HPC : Hid _ := hps.2.2
  have hpl := hps.1
  by_cases hz2 : e2 = 0
  ·subst hz2
   have hdd : userWrite m path mode data = ({ settle mp with users := m.users ++ [⟨m.calls, 4, mode, 0, 0, path, data⟩] }, 0) := by rw [HDEF.out, HDN.out, hmp]; simp
   have HDD : Hid _ := hdd
   clear hdd hmp hps
   go_enter Tryz.func93, Tryz.ntmps93
   go_wp2_with (first
    | (go_at_call 157; go_must (refine (put_any path mode _ data false false 1152921504606846976 HH.out HOK.out (by omega) hp HV.out (by omega) (by omega)).mono ?_; rw [HMP.out]; rintro e w3 ⟨rfl, hf3⟩; have HF3 : Hid _ := hf3; clear hf3))
    | (go_at_call 158; go_must (refine (safe_any HF3.out.fs (by omega)).mono ?_; rintro e w4 ⟨rfl, hf4⟩; have HF4 : Hid _ := hf4; clear hf4)))
   have P4 := RefPost.trans HF3.out HF4.out
   have HP4 : Hid _ := P4
   have HV4 : Hid _ := IsBytes.fr HV.out hout P4.fr
   obtain ⟨g4, vn4, vs4, vp4, vl4, vu4, hpe, hg4, hO4, hQ4⟩ := P4.fs
   cases hpe
   obtain ⟨b0, b1, b2, b3, b4, b5, b6, b7, b8⟩ := cellsAt9 hg4
   have hus : (settle mp).users = m.users := HPU.out
   have hca : (settle mp).calls = m.calls := HPC.out
   rw [hca] at b5
   obtain ⟨css, hown4, heach4⟩ := hQ4.users
   obtain ⟨ua, uc, rfl, -⟩ := Row.of_owns hown4 (by rw [hus]; omega)
   have HQ4 : Hid _ := hQ4
   have HE4 : Hid _ := heach4
   have HG4 : Hid _ := hg4
   have hul : (settle mp).users.length ≤ 1000000 := by rw [hus]; omega
   have HUS : Hid _ := hus
   clear P4 hQ4 heach4 hg4 hus hca d0 d1 d2 d3 d4 d5 d6 d7 d8 b0 b1 b2 b3 b4 b6 b7
   apply wp_region_free 15 0 (.pointer (some ⟨g, 0, none⟩)) [.pointer (some ⟨g, 0, none⟩), _, _, _, _, _, _, _, _, _, _, _, undef, undef, undef] [none, none, none, none, none, none, none, none, none, none, none, none, some (fun u w' => IsData (fun k => w4.heap.size ≤ k) w' u data), some (fun u w' => ∃ va vc, u = .agg #[.int .i64 m.calls, .int .i64 4, .int .i64 mode, .int .i64 0, .int .i64 0, S8 path, .slice va data.length vc] ∧ IsData (fun k => w4.heap.size ≤ k) w' (.slice va data.length vc) data), some (fun u w' => ∃ k va vc, u = .slice (some ⟨k, 0, none⟩) 1 1 ∧ w'.heap[k]? = some (.cells #[.int .i64 m.calls, .int .i64 4, .int .i64 mode, .int .i64 0, .int .i64 0, S8 path, .slice va data.length vc] 146 (0, 0)) ∧ IsData (fun k => w4.heap.size ≤ k) w' (.slice va data.length vc) data)] [[], [], [1], [2], [3], [], [5], [6], [7], [], [], [], [11], [8, 9, 10, 12], [13]] (by kernel_rfl) (by kernel_rfl) (by simp [mixV])
   ·refine ⟨?_, ?_, ?_, trivial⟩
    ·exact fun _ _ _ he hu => hu.ext he
    ·exact fun _ _ _ he ⟨va, vc, h1, h2⟩ => ⟨va, vc, h1, h2.ext he⟩
    ·exact fun _ _ _ he ⟨k, va, vc, h1, h3, h4⟩ => ⟨k, va, vc, h1, he.row h3, h4.ext he⟩
   ·exact ⟨_, rfl, rfl, fun w => by go_simp⟩
   ·exact fun _ => rfl
   ·simp (maxSteps := 1000000) only [List.take_succ_cons, List.take_zero, oblFrom, stepObl, fillFrom, Act.put, List.setIfInBounds_toArray, List.set_cons_zero, List.set_cons_succ, knows, getV, mixV, List.getD_cons_zero, List.getD_cons_succ, and_true, true_and, forall_const]
    refine ⟨?_, ?_, ?_, ?_, ?_, ?_, ?_, ?_, ?_, ?_, ?_, ?_, ?_, ?_, ?_⟩
    ·intro xs wq hq R hR
     have f8 := hq.cell b8; have f5 := hq.cell b5
     go_simp
     exact hR _ _ (Ext.refl _) rfl
    ·intro xs wq hq R hR
     have f8 := hq.cell b8; have f5 := hq.cell b5
     go_simp
     exact hR _ _ (Ext.refl _) rfl
    ·intro xs wq hq hk R hR
     have f8 := hq.cell b8; have f5 := hq.cell b5
     go_simp
     exact hR _ _ (Ext.refl _) rfl
    ·intro xs wq hq hk R hR
     have f8 := hq.cell b8; have f5 := hq.cell b5
     go_simp
     exact hR _ _ (Ext.refl _) rfl
    ·intro xs wq hq hk R hR
     have f8 := hq.cell b8; have f5 := hq.cell b5
     go_simp
     exact hR _ _ (Ext.refl _) rfl
    ·intro xs wq hq R hR
     have f8 := hq.cell b8; have f5 := hq.cell b5
     go_simp
     exact hR _ _ (Ext.refl _) rfl
    ·intro xs wq hq hk R hR
     have f8 := hq.cell b8; have f5 := hq.cell b5
     go_simp
     exact hR _ _ (Ext.refl _) rfl
    ·intro xs wq hq hk R hR
     have f8 := hq.cell b8; have f5 := hq.cell b5
     go_simp
     exact hR _ _ (Ext.refl _) rfl
    ·intro xs wq hq hk R hR
     have f8 := hq.cell b8; have f5 := hq.cell b5
     go_simp
     exact hR _ _ (Ext.refl _) rfl
    ·intro xs wq hq R hR
     have f8 := hq.cell b8; have f5 := hq.cell b5
     go_simp
     exact hR _ _ (Ext.refl _) rfl
    ·intro xs wq hq R hR
     have f8 := hq.cell b8; have f5 := hq.cell b5
     go_simp
     exact hR _ _ (Ext.refl _) rfl
    ·intro xs wq hq R hR
     have f8 := hq.cell b8; have f5 := hq.cell b5
     go_simp
     exact hR _ _ (Ext.refl _) rfl
    ·intro xs wq hq hk R hR
     go_simp
     exact (copyB_any _ data _ (IsBytes.ext HV4.out hq)).mono (by rintro e' w7 ⟨⟨u, rfl, hu⟩, h2⟩; exact ⟨_, rfl, hR _ _ h2 (hu.mono (fun k hk => Nat.le_trans hq.size hk.1))⟩)
    ·intro xs wq hq hk R hR
     obtain ⟨hk0, hk1, hk2, hk3⟩ := hk
     obtain ⟨qa, qc, hqa, -⟩ := id hk3.bytes
     go_simp
     exact hR _ _ (Ext.refl _) ⟨_, _, rfl, hqa ▸ hk3⟩
    ·intro xs wq hq hk R hR
     obtain ⟨va, vc, hva, hdv⟩ := hk
     go_simp
     exact hR _ _ ((Ext.refl _).alloc _) ⟨_, _, _, rfl, alloc_at _ _, hdv.ext ((Ext.refl _).alloc _)⟩
   intro xs w6 hx6 hk
   simp only [heldV, Nat.zero_add, Nat.reduceAdd, and_true] at hk
   obtain ⟨q0, q1, q2, q3, q4, q5, q6, q7, q8, q9, q10, q11, q12, q13, q14⟩ := hk
   simp (maxSteps := 1000000) only [List.take_succ_cons, List.take_zero, List.drop_succ_cons, List.drop_zero, fillFrom, Act.put, List.setIfInBounds_toArray, List.set_cons_zero, List.set_cons_succ, Nat.zero_add, Nat.reduceAdd, q0, q1, q2, q3, q4, q5, q6, q7, q8, q9, q10, q11]
   clear q0 q1 q2 q3 q4 q5 q6 q7 q8 q9 q10 q11
   generalize xs 12 = x12 at *
   generalize xs 13 = x13 at *
   generalize xs 14 = x14 at *
   obtain ⟨k6, da, dc, rfl, hk6, hdk⟩ := q14
   have hown6 := owns_ext hown4 hx6
   have hg6 := Ext.row hx6 HG4.out
   have HQ6 : Hid _ := HQ4.out.ext hx6
   have HDK : Hid _ := hdk
   clear hown4 hdk b5 b8
   go_wp2_with (first
    | (at_builtin; go_must (refine app_re rfl _ _ rfl 0 _ (settle mp).users.length _ rfl hown6 k6 1 _ rfl rfl hk6 (by simp [Value.oneCell']) (by omega) (Nat.zero_le _) ?_; intro v7 w7 hown7 hgr7 hwh7; obtain ⟨va', vc', rfl⟩ := owns_some hown7 (by omega); have hg7 : w7.heap[g]? = _ := (hgr7.block g (Array.getElem?_eq_some_iff.1 hg6).1 (fun heq => by obtain ⟨cs9, fr9, hx9⟩ := HQ6.out.users.typed g heq.symm; rw [hg6] at hx9; simp at hx9)).trans hg6))
    | (refine store_field rfl 131 (.tmp 40) (.tmp 38) rfl g 8 rfl (.slice (some ⟨va', 0, none⟩) ((settle mp).users.length + 1) vc') rfl rfl _ _ hg7 (Nat.le_of_ble_eq_true rfl) size_revs (refCells (settle mp).room vn4 vs4 vp4 vl4 (settle mp).calls (settle mp).time (settle mp).down (.slice (some ⟨va', 0, none⟩) ((settle mp).users.length + 1) vc')) (by simp) ?_; intro w8 hg8 hgr8))
   refine NoP.intro ?_
   go_wp2
   go_ret
   rw [HDD.out]
   refine ⟨rfl, ?_⟩
   have hfin := rusers_done (m1 := settle mp) (e := ⟨m.calls, 4, mode, 0, 0, path, data⟩) HP4.out.fr hO4 HQ4.out hx6 hown7 HE4.out hgr7 hwh7 ⟨_, rfl, HDK.out, show path.length ≤ 1000000 by omega⟩ hg7 hgr8 hg8
   rw [HUS.out] at hfin
   exact hfin
  ·have hdd : userWrite m path mode data = (mp, e2) := by rw [HDEF.out, HDN.out, hmp]; simp [hz2]
   have HDD : Hid _ := hdd
   have hzz : (e2 == 0) = false := by simpa using hz2
   clear hdd hmp hps hz2
   go_enter Tryz.func93, Tryz.ntmps93
   go_wp2_with (go_at_call 157; go_must (refine (put_any path mode _ data false false 1152921504606846976 HH.out HOK.out (by omega) hp HV.out (by omega) (by omega)).mono ?_; rw [HMP.out]; rintro e w3 ⟨rfl, hf3⟩; have HF3 : Hid _ := hf3; clear hf3))
   go_ret
   rw [HDD.out]
   exact ⟨rfl, HF3.out⟩

set_option maxRecDepth 100000 in
set_option maxHeartbeats 4000000 in
theorem userRemoveR_any {O R : Nat → Prop} {w : World} {p : Value} {m : Fs} (path : B8) (h : IsRef O R w p m) (hok : OkM m) (ht : m.time ≤ 700000) (hp : path.length ≤ 400) :
  Calls Tryz.prog 95 #[p, S8 path] w fun e w' => e = .returned (.int .i64 (userRemove m path).2) ∧ RefPost O R w p (userRemove m path).1 w' := by
 have HH : Hid (IsRef O R w p m) := h
 have HOK : Hid _ := hok
 have hl := hok.lnow
 have hlu := hok.lusers
 have hdef : userRemove m path = if m.down then (m, 12) else if (removesM m path).2 ≠ 0 then removesM m path
  else ({ settle (removesM m path).1 with users := m.users ++ [⟨m.calls, 5, 0, 0, 0, path, []⟩] }, 0) := rfl
 have HDEF : Hid _ := hdef
 obtain ⟨g, vn, vs, vp, vl, vu, rfl, hg, hO, hP⟩ := h
 obtain ⟨d0, d1, d2, d3, d4, d5, d6, d7, d8⟩ := cellsAt9 hg
 clear hg hP hdef hok
 cases hdn : m.down with
 | true =>
  have hdd : userRemove m path = (m, 12) := by rw [HDEF.out, hdn]; rfl
  have HDD : Hid _ := hdd
  rw [hdn] at d7
  clear hdd hdn
  go_enter Tryz.func95, Tryz.ntmps95
  go_wp2
  go_ret
  rw [HDD.out]
  exact ⟨rfl, RefPost.same HH.out (Ext.refl _)⟩
 | false =>
  rw [hdn] at d7
  have HDN : Hid _ := hdn
  clear hdn
  obtain ⟨mp, e2, hmp⟩ : ∃ mp e2, removesM m path = (mp, e2) := ⟨_, _, rfl⟩
  have HMP : Hid _ := hmp
  have hps := @removes_size m path
  rw [hmp] at hps
  simp only at hps
  have HPU : Hid _ := hps.2.1
  have HPC : Hid _ := hps.2.2
  have hpl := hps.1
  by_cases hz2 : e2 = 0
  ·subst hz2
   have hdd : userRemove m path = ({ settle mp with users := m.users ++ [⟨m.calls, 5, 0, 0, 0, path, []⟩] }, 0) := by rw [HDEF.out, HDN.out, hmp]; simp
   have HDD : Hid _ := hdd
   clear hdd hmp hps
   go_enter Tryz.func95, Tryz.ntmps95
   go_wp2_with (first
    | (go_at_call 159; go_must (refine (drop_any path HH.out HOK.out (by omega) hp).mono ?_; rw [HMP.out]; rintro e w3 ⟨rfl, hf3⟩; have HF3 : Hid _ := hf3; clear hf3))
    | (go_at_call 158; go_must (refine (safe_any HF3.out.fs (by omega)).mono ?_; rintro e w4 ⟨rfl, hf4⟩; have HF4 : Hid _ := hf4; clear hf4)))
   have P4 := RefPost.trans HF3.out HF4.out
   have HP4 : Hid _ := P4
   obtain ⟨g4, vn4, vs4, vp4, vl4, vu4, hpe, hg4, hO4, hQ4⟩ := P4.fs
   cases hpe
   obtain ⟨b0, b1, b2, b3, b4, b5, b6, b7, b8⟩ := cellsAt9 hg4
   have hus : (settle mp).users = m.users := HPU.out
   have hca : (settle mp).calls = m.calls := HPC.out
   rw [hca] at b5
   obtain ⟨css, hown4, heach4⟩ := hQ4.users
   obtain ⟨ua, uc, rfl, -⟩ := Row.of_owns hown4 (by rw [hus]; omega)
   have HQ4 : Hid _ := hQ4
   have HE4 : Hid _ := heach4
   have HG4 : Hid _ := hg4
   have hul : (settle mp).users.length ≤ 1000000 := by rw [hus]; omega
   have HUS : Hid _ := hus
   clear P4 hQ4 heach4 hg4 hus hca d0 d1 d2 d3 d4 d5 d6 d7 d8 b0 b1 b2 b3 b4 b6 b7
   apply wp_region_free 12 0 (.pointer (some ⟨g, 0, none⟩)) [.pointer (some ⟨g, 0, none⟩), _, _, _, _, _, _, _, _, _, .agg #[.int .i64 m.calls, .int .i64 5, .int .i64 0, .int .i64 0, .int .i64 0, S8 path, .slice none 0 0], undef] [none, none, none, none, none, none, none, none, none, none, none, some (fun u w' => ∃ k, u = .slice (some ⟨k, 0, none⟩) 1 1 ∧ w'.heap[k]? = some (.cells #[.int .i64 m.calls, .int .i64 5, .int .i64 0, .int .i64 0, .int .i64 0, S8 path, .slice none 0 0] 146 (0, 0)))] [[], [], [1], [2], [3], [], [5], [6], [7], [], [8, 9], [10]] (by kernel_rfl) (by kernel_rfl) (by simp [mixV])
   ·refine ⟨?_, trivial⟩
    ·exact fun _ _ _ he ⟨k, h1, h3⟩ => ⟨k, h1, he.row h3⟩
   ·exact ⟨_, rfl, rfl, fun w => by go_simp⟩
   ·exact fun _ => rfl
   ·simp (maxSteps := 1000000) only [List.take_succ_cons, List.take_zero, oblFrom, stepObl, fillFrom, Act.put, List.setIfInBounds_toArray, List.set_cons_zero, List.set_cons_succ, knows, getV, mixV, List.getD_cons_zero, List.getD_cons_succ, and_true, true_and, forall_const]
    refine ⟨?_, ?_, ?_, ?_, ?_, ?_, ?_, ?_, ?_, ?_, ?_, ?_⟩
    ·intro xs wq hq R hR
     have f8 := hq.cell b8; have f5 := hq.cell b5
     go_simp
     exact hR _ _ (Ext.refl _) rfl
    ·intro xs wq hq R hR
     have f8 := hq.cell b8; have f5 := hq.cell b5
     go_simp
     exact hR _ _ (Ext.refl _) rfl
    ·intro xs wq hq hk R hR
     have f8 := hq.cell b8; have f5 := hq.cell b5
     go_simp
     exact hR _ _ (Ext.refl _) rfl
    ·intro xs wq hq hk R hR
     have f8 := hq.cell b8; have f5 := hq.cell b5
     go_simp
     exact hR _ _ (Ext.refl _) rfl
    ·intro xs wq hq hk R hR
     have f8 := hq.cell b8; have f5 := hq.cell b5
     go_simp
     exact hR _ _ (Ext.refl _) rfl
    ·intro xs wq hq R hR
     have f8 := hq.cell b8; have f5 := hq.cell b5
     go_simp
     exact hR _ _ (Ext.refl _) rfl
    ·intro xs wq hq hk R hR
     have f8 := hq.cell b8; have f5 := hq.cell b5
     go_simp
     exact hR _ _ (Ext.refl _) rfl
    ·intro xs wq hq hk R hR
     have f8 := hq.cell b8; have f5 := hq.cell b5
     go_simp
     exact hR _ _ (Ext.refl _) rfl
    ·intro xs wq hq hk R hR
     have f8 := hq.cell b8; have f5 := hq.cell b5
     go_simp
     exact hR _ _ (Ext.refl _) rfl
    ·intro xs wq hq R hR
     have f8 := hq.cell b8; have f5 := hq.cell b5
     go_simp
     exact hR _ _ (Ext.refl _) rfl
    ·intro xs wq hq hk R hR
     obtain ⟨hk0, hk1⟩ := hk
     have f8 := hq.cell b8; have f5 := hq.cell b5
     go_simp
     exact hR _ _ (Ext.refl _) rfl
    ·intro xs wq hq hk R hR
     go_simp
     exact hR _ _ ((Ext.refl _).alloc _) ⟨_, rfl, alloc_at _ _⟩
   intro xs w6 hx6 hk
   simp only [heldV, Nat.zero_add, Nat.reduceAdd, and_true] at hk
   obtain ⟨q0, q1, q2, q3, q4, q5, q6, q7, q8, q9, q10, q11⟩ := hk
   simp (maxSteps := 1000000) only [List.take_succ_cons, List.take_zero, List.drop_succ_cons, List.drop_zero, fillFrom, Act.put, List.setIfInBounds_toArray, List.set_cons_zero, List.set_cons_succ, Nat.zero_add, Nat.reduceAdd, q0, q1, q2, q3, q4, q5, q6, q7, q8, q9, q10]
   clear q0 q1 q2 q3 q4 q5 q6 q7 q8 q9 q10
   generalize xs 11 = x11 at *
   obtain ⟨k6, rfl, hk6⟩ := q11
   have hown6 := owns_ext hown4 hx6
   have hg6 := Ext.row hx6 HG4.out
   have HQ6 : Hid _ := HQ4.out.ext hx6
   clear hown4 b5 b8
   go_wp2_with (first
    | (at_builtin; go_must (refine app_re rfl _ _ rfl 0 _ (settle mp).users.length _ rfl hown6 k6 1 _ rfl rfl hk6 (by simp [Value.oneCell']) (by omega) (Nat.zero_le _) ?_; intro v7 w7 hown7 hgr7 hwh7; obtain ⟨va', vc', rfl⟩ := owns_some hown7 (by omega); have hg7 : w7.heap[g]? = _ := (hgr7.block g (Array.getElem?_eq_some_iff.1 hg6).1 (fun heq => by obtain ⟨cs9, fr9, hx9⟩ := HQ6.out.users.typed g heq.symm; rw [hg6] at hx9; simp at hx9)).trans hg6))
    | (refine store_field rfl 131 (.tmp 31) (.tmp 29) rfl g 8 rfl (.slice (some ⟨va', 0, none⟩) ((settle mp).users.length + 1) vc') rfl rfl _ _ hg7 (Nat.le_of_ble_eq_true rfl) size_revs (refCells (settle mp).room vn4 vs4 vp4 vl4 (settle mp).calls (settle mp).time (settle mp).down (.slice (some ⟨va', 0, none⟩) ((settle mp).users.length + 1) vc')) (by simp) ?_; intro w8 hg8 hgr8))
   refine NoP.intro ?_
   go_wp2
   go_ret
   rw [HDD.out]
   refine ⟨rfl, ?_⟩
   have hfin := rusers_done (m1 := settle mp) (e := ⟨m.calls, 5, 0, 0, 0, path, []⟩) HP4.out.fr hO4 HQ4.out hx6 hown7 HE4.out hgr7 hwh7 ⟨_, rfl, IsData.nil _ _, show path.length ≤ 1000000 by omega⟩ hg7 hgr8 hg8
   rw [HUS.out] at hfin
   exact hfin
  ·have hdd : userRemove m path = (mp, e2) := by rw [HDEF.out, HDN.out, hmp]; simp [hz2]
   have HDD : Hid _ := hdd
   have hzz : (e2 == 0) = false := by simpa using hz2
   clear hdd hmp hps hz2
   go_enter Tryz.func95, Tryz.ntmps95
   go_wp2_with (go_at_call 159; go_must (refine (drop_any path HH.out HOK.out (by omega) hp).mono ?_; rw [HMP.out]; rintro e w3 ⟨rfl, hf3⟩; have HF3 : Hid _ := hf3; clear hf3))
   go_ret
   rw [HDD.out]
   exact ⟨rfl, HF3.out⟩

end Go.Proofs.YtfimfbdlegookaaGreatDoor

/-! marref5.FS: begin: a call begins. Conditions: at most 600000 ticks; a plan that is few. -/
namespace Go.Proofs.YtfimfbdlegookaaGreatDoor
open Go Go.RowKit
variable [Inhabited BaseW]

theorem cellsAt7 {w : World} {g : Nat} {v0 v1 v2 v3 v4 v5 v6 : Value} {t : TypeId} {fr : Nat × Nat} (h : w.heap[g]? = some (.cells #[v0, v1, v2, v3, v4, v5, v6] t fr)) :
  w.cell? ⟨g, 0, none⟩ = some v0 ∧ w.cell? ⟨g, 1, none⟩ = some v1 ∧ w.cell? ⟨g, 2, none⟩ = some v2 ∧ w.cell? ⟨g, 3, none⟩ = some v3 ∧ w.cell? ⟨g, 4, none⟩ = some v4 ∧ w.cell? ⟨g, 5, none⟩ = some v5 ∧ w.cell? ⟨g, 6, none⟩ = some v6 := by
 simp [World.cell?, h]

set_option maxRecDepth 100000 in
set_option maxHeartbeats 8000000 in
theorem begin_any {O R : Nat → Prop} {w : World} {p : Value} {m : Fs} (h : IsRef O R w p m) (hbs : Ext baseW w) (hhi : ∀ k, O k → baseW.heap.size ≤ k) (hok : OkM m) (hpo : PlanOk m) (ht : m.time ≤ 600000) (hcl : m.calls ≤ 1000000) :
  Calls Tryz.prog 154 #[p] w fun e w' => e = .returned (.tuple #[.bool (callM m).2.1, .int .i64 (callM m).2.2]) ∧ RefPost O R w p (callM m).1 w' := by
 obtain ⟨g, vn, vs, vp, vl, vu, rfl, hg, hO, hP⟩ := h
 obtain ⟨d0, d1, d2, d3, d4, d5, d6, d7, d8⟩ := cellsAt9 hg
 have HG : Hid _ := hg
 have HP : Hid _ := hP
 have HPO : Hid _ := hpo
 have HOK : Hid _ := hok
 have hpn := hpo.len
 have HBS : Hid _ := hbs
 have HHI : Hid _ := hhi
 have HPE : Hid (callM m = ((m.plan.foldl (happen (m.calls + 1)) (calledM m, false, false)).1, (m.plan.foldl (happen (m.calls + 1)) (calledM m, false, false)).2.1, if (m.plan.foldl (happen (m.calls + 1)) (calledM m, false, false)).1.down then 12 else if (m.plan.foldl (happen (m.calls + 1)) (calledM m, false, false)).2.2 then 11 else 0)) := rfl
 clear hg hP hok hpo hbs hhi
 go_enter Tryz.func154, Tryz.ntmps154
 go_wp2_with (refine store_field rfl 3 (.tmp 14) (.tmp 12) rfl g 5 rfl (.int .i64 ((m.calls : Int) + 1)) rfl rfl _ _ HG.out (Nat.le_of_ble_eq_true rfl) size_int (refCells m.room vn vs vp vl (m.calls + 1) m.time m.down vu) (by simp) ?_; intro w1 hg1 hgr1; have HF1 : Hid (RefPost O R w (.pointer (some ⟨g, 0, none⟩)) (calledM m) w1) := RefPost.store (m' := calledM m) (Fr.refl O w) (.inl hO) HG.out (HP.out.mono (fun k hk => .inl hk) (fun k hk => .inl hk)) hgr1 hg1)
 clear hg1 hgr1 d0 d1 d2 d3 d4 d5 d6 d7 d8
 go_loopw [4, 5, 6] (fun fu br i wr => ∃ (k : Nat) (x : Fs × Bool × Bool), k ≤ m.plan.length ∧ i = .int .i64 k ∧ fu = .bool x.2.1 ∧ br = .bool x.2.2 ∧ x = (m.plan.take k).foldl (happen (m.calls + 1)) (calledM m, false, false) ∧ RefPost O R w (.pointer (some ⟨g, 0, none⟩)) x.1 wr ∧ Mid m k x) (fun _ _ i _ => m.plan.length - (intOf i).toNat)
 case atStart => exact ⟨0, (calledM m, false, false), Nat.zero_le _, rfl, rfl, rfl, rfl, HF1.out, Mid.start HOK.out⟩
 case round =>
  obtain ⟨k, ⟨mx, fx, bx⟩, hk, rfl, rfl, rfl, hx, hf, hmid⟩ := hrel
  have HXE : Hid _ := hx
  have HF : Hid (RefPost O R w (.pointer (some ⟨g, 0, none⟩)) mx wr) := hf
  have HMID : Hid _ := hmid
  have hpx : mx.plan = m.plan := hmid.plan
  have hcx : mx.calls = m.calls + 1 := hmid.calls
  have htx : mx.time ≤ m.time + k := hmid.time
  obtain ⟨g', vn', vs', vp', vl', vu', hpe, hg', hO', hP'⟩ := hf.fs
  cases hpe
  have hplan := hP'.plan
  rw [hpx] at hplan
  obtain ⟨a, cap, rfl, l1, l2, l3, hget⟩ := readL_get 7 (fun c x hx => hx.length.1) (by omega) (OwnL.readL hplan (by omega))
  have HGET : Hid _ := hget
  obtain ⟨z0, z1, z2, z3, z4, z5, z6, z7, z8⟩ := cellsAt9 hg'
  have HG' : Hid _ := hg'
  rw [hcx] at z5
  clear hx hf hmid hplan hget hP' z0 z1 z2 z3 z6 z8
  by_cases hlt : k < m.plan.length
  ·obtain ⟨e, hke⟩ : ∃ e, m.plan[k]? = some e := ⟨_, List.getElem?_eq_getElem hlt⟩
   obtain ⟨b, o, cs, rfl, hev, hcell⟩ := HGET.out k e hke
   obtain ⟨vd, rfl, hd, -⟩ := hev
   obtain ⟨q1, q2, rfl, -⟩ := id hd.bytes
   have y0 := hcell 0 _ rfl
   have y1 := hcell 1 _ rfl
   have y2 := hcell 2 _ rfl
   have y3 := hcell 3 _ rfl
   have y4 := hcell 4 _ rfl
   have y5 := hcell 5 _ rfl
   have y6 := hcell 6 _ rfl
   simp only [Nat.add_zero] at y0
   have HKE : Hid _ := hke
   have hstep : (m.plan.take (k + 1)).foldl (happen (m.calls + 1)) (calledM m, false, false) = happen (m.calls + 1) (mx, fx, bx) e := by
    rw [List.take_add_one, hke, Option.toList_some, List.foldl_append, ← HXE.out]
    rfl
   have HST : Hid _ := hstep
   have hpe := HPO.out.ev e (List.mem_of_getElem? hke)
   have HPEV : Hid _ := hpe
   have HMN : Hid (Mid m (k + 1) (happen (m.calls + 1) (mx, fx, bx) e)) := by
    have h1 := HMID.out.next (k := m.calls + 1) e
    refine ⟨h1.ok, ?_, h1.time0, h1.plan, h1.calls, h1.room⟩
    have := h1.time
    split at this <;> omega
   have HRES : Hid (happen (m.calls + 1) (mx, fx, bx) e = if e.t ≠ ((m.calls + 1 : Nat) : Int) then (mx, fx, bx) else (hapM mx e, fx || hapE e == 10, bx || hapE e == 11)) := happen_eq _ _ _
   obtain ⟨t, kind, mode, keep, torn, path, data⟩ := e
   simp only at hpe y0 y1 y2 y3 y4 y5 y6 hd
   have hxa : Ext wr (wr.alloc (.cells #[.int .i64 t, .int .i64 kind, .int .i64 mode, .int .i64 keep, .int .i64 torn, S8 path, .slice q1 data.length q2] 146)) := (Ext.refl _).alloc _
   have HXA : Hid _ := hxa
   have HD : Hid _ := hd
   obtain ⟨bt, hbt⟩ : ∃ bt, (t != (m.calls : Int) + 1) = bt := ⟨_, rfl⟩
   have HBT : Hid _ := hbt
   clear hcell hd hstep hxa hke hpe
   go_wp2_with fail
   obtain ⟨wx, hwx⟩ : ∃ wx, wx = wr.alloc (.cells #[.int .i64 t, .int .i64 kind, .int .i64 mode, .int .i64 keep, .int .i64 torn, S8 path, .slice q1 data.length q2] 146) := ⟨_, rfl⟩
   have hxx : Ext wr wx := by rw [hwx]; exact (Ext.refl _).alloc _
   have hbx : wx.heap[wr.heap.size]? = some (.cells #[.int .i64 t, .int .i64 kind, .int .i64 mode, .int .i64 keep, .int .i64 torn, S8 path, .slice q1 data.length q2] 146 (0, 0)) := by rw [hwx]; exact alloc_at _ _
   have z5x := hxx.cell z5
   rw [show ((m.calls + 1 : Nat) : Int) = (m.calls : Int) + 1 by omega] at z5x
   obtain ⟨e0, -⟩ := cellsAt7 hbx
   have HWX : Hid _ := hwx
   clear hwx y0 y1 y2 y3 y4 y5 y6 z4 z7
   rw [show wr.alloc (.cells #[.int .i64 t, .int .i64 kind, .int .i64 mode, .int .i64 keep, .int .i64 torn, S8 path, .slice q1 data.length q2] 146) = wx from HWX.out.symm]
   apply wp_region_mix 7 [_, _, _, _, _, _, .bool bt] [none, none, none, none, none, none, none] [[], [0], [], [2], [3], [4], [1, 5]] (by kernel_rfl) (by kernel_rfl) (by simp [mixV])
   ·trivial
   ·simp (maxSteps := 1000000) only [List.take_succ_cons, List.take_zero, oblFrom, stepObl, fillFrom, Act.put, List.setIfInBounds_toArray, List.set_cons_zero, List.set_cons_succ, knows, getV, mixV, List.getD_cons_zero, List.getD_cons_succ, and_true, true_and, forall_const]
    refine ⟨?_, ?_, ?_, ?_, ?_, ?_, ?_⟩
    ·intro xs wq hq R hR
     have f0 := hq.cell e0; have f5 := hq.cell z5x
     go_simp
     exact hR _ _ (Ext.refl _) rfl
    ·intro xs wq hq hk R hR
     have f0 := hq.cell e0; have f5 := hq.cell z5x
     go_simp
     exact hR _ _ (Ext.refl _) rfl
    ·intro xs wq hq R hR
     have f0 := hq.cell e0; have f5 := hq.cell z5x
     go_simp
     exact hR _ _ (Ext.refl _) rfl
    ·intro xs wq hq hk R hR
     have f0 := hq.cell e0; have f5 := hq.cell z5x
     go_simp
     exact hR _ _ (Ext.refl _) rfl
    ·intro xs wq hq hk R hR
     have f0 := hq.cell e0; have f5 := hq.cell z5x
     go_simp
     exact hR _ _ (Ext.refl _) rfl
    ·intro xs wq hq hk R hR
     have f0 := hq.cell e0; have f5 := hq.cell z5x
     go_simp
     exact hR _ _ (Ext.refl _) rfl
    ·intro xs wq hq hk R hR
     obtain ⟨hk0, hk1⟩ := hk
     have f0 := hq.cell e0; have f5 := hq.cell z5x
     go_simp
     exact hR _ _ (Ext.refl _) rfl
   intro xs w2 hx2 hk
   simp only [heldV, Nat.zero_add, Nat.reduceAdd, and_true] at hk
   obtain ⟨q0, q1, q2, q3, q4, q5, q6⟩ := hk
   simp (maxSteps := 1000000) only [List.take_succ_cons, List.take_zero, List.drop_succ_cons, List.drop_zero, fillFrom, Act.put, List.setIfInBounds_toArray, List.set_cons_zero, List.set_cons_succ, Nat.zero_add, Nat.reduceAdd, q0, q1, q2, q3, q4, q5, q6]
   clear q0 q1 q2 q3 q4 q5 q6
   have hb2 := hx2.row hbx
   obtain ⟨f0, f1, f2, f3, f4, f5, f6⟩ := cellsAt7 hb2
   have hxr : Ext wr w2 := hxx.trans hx2
   have HF2 : Hid (RefPost O R w (.pointer (some ⟨g, 0, none⟩)) mx w2) := RefPost.ext HF.out hxr
   have HB2 : Hid (IsBytes w2 (.slice q1 data.length q2) data) := OldB.at HD.out ((Ext.of_fr HBS.out HF.out.fr HHI.out).trans hxr)
   have HO2 : Hid (Out (Nw O w w2) w2 (.slice q1 data.length q2)) := OldB.out HD.out (fun k hk => by
    rcases hk with hk | hk
    ·exact HHI.out k hk
    ·have := Below.size HBS.out; omega)
   have hdl := HD.out.bytes.len
   clear hxx hbx z5x e0 hx2 hb2 hbt z5
   cases bt with
   | true =>
    have HTN : Hid (¬ t = ((m.calls + 1 : Nat) : Int)) := by
     have := HBT.out
     intro h9
     rw [h9] at this
     simp at this
    clear f0 f1 f2 f3 f4 f5 f6
    go_wp2
    go_roundw
    case rel =>
     have hr : happen (m.calls + 1) (mx, fx, bx) ⟨t, kind, mode, keep, torn, path, data⟩ = (mx, fx, bx) := by rw [HRES.out, if_pos HTN.out]
     exact ⟨k + 1, (mx, fx, bx), by omega, by go_num, rfl, rfl, (HST.out.trans hr).symm, HF2.out, by rw [← hr]; exact HMN.out⟩
    case measure => simp [intOf]; omega
   | false =>
    have HR2 : Hid (happen (m.calls + 1) (mx, fx, bx) ⟨t, kind, mode, keep, torn, path, data⟩ = (if kind = 1 then crash mx keep torn else if kind = 4 then (userWrite mx path mode data).1 else if kind = 5 then (userRemove mx path).1 else mx, fx || (if kind = 2 then 10 else if kind = 3 then 11 else (0 : Int)) == 10, bx || (if kind = 2 then 10 else if kind = 3 then 11 else (0 : Int)) == 11)) := by
     have h9 : t = ((m.calls + 1 : Nat) : Int) := by
      have := HBT.out
      simp at this
      omega
     unfold Hid
     rw [HRES.out, if_neg (by simp only [ne_eq, Decidable.not_not]; exact h9)]
     rfl
    obtain ⟨hk64, ht64, hpp⟩ := HPEV.out
    have hok2 : Hid (OkM mx) := HMID.out.ok
    clear f0
    by_cases k1 : kind = 1
    ·subst k1
     go_wp2_with (go_at_call 96; go_must (refine (crashR_any keep torn HF2.out.fs hok2.out (by omega) hk64 ht64).mono ?_; rintro e3 w3 ⟨rfl, h3⟩; have HP3 : Hid _ := RefPost.trans HF2.out h3; clear h3))
     go_roundw
     case rel =>
      have hr : happen (m.calls + 1) (mx, fx, bx) ⟨t, 1, mode, keep, torn, path, data⟩ = (crash mx keep torn, fx, bx) := by rw [HR2.out]; simp
      exact ⟨k + 1, (crash mx keep torn, fx, bx), by omega, by go_num, rfl, rfl, (HST.out.trans hr).symm, HP3.out, by rw [← hr]; exact HMN.out⟩
     case measure => simp [intOf]; omega
    have b1 : (kind == 1) = false := by simpa using k1
    by_cases k2 : kind = 2
    ·subst k2
     go_wp2
     go_roundw
     case rel =>
      have hr : happen (m.calls + 1) (mx, fx, bx) ⟨t, 2, mode, keep, torn, path, data⟩ = (mx, true, bx) := by rw [HR2.out]; simp
      exact ⟨k + 1, (mx, true, bx), by omega, by go_num, rfl, rfl, (HST.out.trans hr).symm, HF2.out, by rw [← hr]; exact HMN.out⟩
     case measure => simp [intOf]; omega
    have b2 : (kind == 2) = false := by simpa using k2
    by_cases k3 : kind = 3
    ·subst k3
     go_wp2
     go_roundw
     case rel =>
      have hr : happen (m.calls + 1) (mx, fx, bx) ⟨t, 3, mode, keep, torn, path, data⟩ = (mx, fx, true) := by rw [HR2.out]; simp
      exact ⟨k + 1, (mx, fx, true), by omega, by go_num, rfl, rfl, (HST.out.trans hr).symm, HF2.out, by rw [← hr]; exact HMN.out⟩
     case measure => simp [intOf]; omega
    have b3 : (kind == 3) = false := by simpa using k3
    by_cases k4 : kind = 4
    ·subst k4
     go_wp2_with (go_at_call 93; go_must (refine (userWriteR_any path mode (.slice q1 data.length q2) data HF2.out.fs hok2.out (by omega) hpp HB2.out HO2.out).mono ?_; rintro e3 w3 ⟨rfl, h3⟩; have HP3 : Hid _ := RefPost.trans HF2.out h3; clear h3))
     go_roundw
     case rel =>
      have hr : happen (m.calls + 1) (mx, fx, bx) ⟨t, 4, mode, keep, torn, path, data⟩ = ((userWrite mx path mode data).1, fx, bx) := by rw [HR2.out]; simp
      exact ⟨k + 1, ((userWrite mx path mode data).1, fx, bx), by omega, by go_num, rfl, rfl, (HST.out.trans hr).symm, HP3.out, by rw [← hr]; exact HMN.out⟩
     case measure => simp [intOf]; omega
    have b4 : (kind == 4) = false := by simpa using k4
    by_cases k5 : kind = 5
    ·subst k5
     go_wp2_with (go_at_call 95; go_must (refine (userRemoveR_any path HF2.out.fs hok2.out (by omega) hpp).mono ?_; rintro e3 w3 ⟨rfl, h3⟩; have HP3 : Hid _ := RefPost.trans HF2.out h3; clear h3))
     go_roundw
     case rel =>
      have hr : happen (m.calls + 1) (mx, fx, bx) ⟨t, 5, mode, keep, torn, path, data⟩ = ((userRemove mx path).1, fx, bx) := by rw [HR2.out]; simp
      exact ⟨k + 1, ((userRemove mx path).1, fx, bx), by omega, by go_num, rfl, rfl, (HST.out.trans hr).symm, HP3.out, by rw [← hr]; exact HMN.out⟩
     case measure => simp [intOf]; omega
    have b5 : (kind == 5) = false := by simpa using k5
    have HR3 : Hid (happen (m.calls + 1) (mx, fx, bx) ⟨t, kind, mode, keep, torn, path, data⟩ = (mx, fx, bx)) := by unfold Hid; rw [HR2.out, if_neg k1, if_neg k4, if_neg k5, if_neg k2, if_neg k3]; simp
    clear k1 k2 k3 k4 k5
    go_wp2
    go_roundw
    case rel => exact ⟨k + 1, (mx, fx, bx), by omega, by go_num, rfl, rfl, (HST.out.trans HR3.out).symm, HF2.out, by rw [← HR3.out]; exact HMN.out⟩
    case measure => simp [intOf]; omega
  ·have hkk : k = m.plan.length := by omega
   subst hkk
   have hxe := HXE.out
   rw [List.take_length] at hxe
   have HPF : Hid (callM m = (mx, fx, if mx.down then 12 else if bx then 11 else 0)) := by
    unfold Hid
    rw [HPE.out, ← hxe]
   have HFF : Hid (RefPost O R w (.pointer (some ⟨g, 0, none⟩)) mx wr) := HF.out
   obtain ⟨dn, hdn⟩ : ∃ dn, mx.down = dn := ⟨_, rfl⟩
   rw [hdn] at z7 HPF
   clear hxe hdn
   cases dn with
   | true =>
    go_wp2
    go_ret2
    rw [HPF.out]
    exact ⟨rfl, HFF.out⟩
   | false =>
    cases bx with
    | true =>
     go_wp2
     go_ret2
     rw [HPF.out]
     exact ⟨rfl, HFF.out⟩
    | false =>
     go_wp2
     go_ret2
     rw [HPF.out]
     exact ⟨rfl, HFF.out⟩

end Go.Proofs.YtfimfbdlegookaaGreatDoor

/-! marref5.FS: Create, Write, Remove, Sync. Conditions: what holds of a file system at all times; short paths. -/
namespace Go.Proofs.YtfimfbdlegookaaGreatDoor
open Go Go.RowKit
variable [Inhabited BaseW]

/-- What a call finds. -/
structure RefIn (O R : Nat → Prop) (w : World) (p : Value) (m : Fs) : Prop where
 fs : IsRef O R w p m
 ok : OkM m
 plan : PlanOk m
 time : m.time ≤ 500000
 calls : m.calls ≤ 900000
 low : ∀ k, O k → k < w.heap.size
 base : Ext baseW w
 high : ∀ k, O k → baseW.heap.size ≤ k
 room0 : 0 ≤ m.room
 room1 : m.room ≤ 1073741824
theorem RefIn.ext {O R : Nat → Prop} {w wx : World} {p : Value} {m : Fs} (h : RefIn O R w p m) (hx : Ext w wx) : RefIn O R wx p m :=
 ⟨h.fs.ext hx, h.ok, h.plan, h.time, h.calls, fun k hk => Nat.lt_of_lt_of_le (h.low k hk) hx.size, h.base.trans hx, h.high, h.room0, h.room1⟩
theorem IsRef.ptr {O R : Nat → Prop} {w : World} {p : Value} {m : Fs} (h : IsRef O R w p m) : ∃ g, p = .pointer (some ⟨g, 0, none⟩) := by
 obtain ⟨g, _, _, _, _, _, h1, _⟩ := h
 exact ⟨g, h1⟩
theorem IsRef.room {O R : Nat → Prop} {w : World} {g : Nat} {m : Fs} (h : IsRef O R w (.pointer (some ⟨g, 0, none⟩)) m) : w.cell? ⟨g, 0, none⟩ = some (.int .i64 m.room) := by
 obtain ⟨g', vn, vs, vp, vl, vu, hpe, hg, _⟩ := h
 cases hpe
 exact (cellsAt9 hg).1

set_option maxRecDepth 100000 in
set_option maxHeartbeats 4000000 in
theorem createR_any {O R : Nat → Prop} {w : World} {p : Value} {m : Fs} (path : B8) (mode : Int) (v : Value) (data : B8) (h : RefIn O R w p m) (hp : path.length ≤ 400) (hv : IsBytes w v data) (hout : Out O w v) :
  Calls Tryz.prog 79 #[p, S8 path, .int .i64 mode, v] w fun e w' => e = .returned (.int .i64 (createM m path mode data).2) ∧ RefPost O R w p (createM m path mode data).1 w' := by
 obtain ⟨m1, full, er, hcm⟩ : ∃ m1 full er, callM m = (m1, full, er) := ⟨_, _, _, rfl⟩
 have hcl := (call_left h.ok h.plan).1
 rw [hcm] at hcl
 have htm1 : m1.time ≤ m.time + 1000 := hcl.time
 have HROOM : Hid (m1.room = m.room) := hcl.room
 have HOK1 : Hid (OkM m1) := hcl.ok
 have HDEF : Hid (createM m path mode data = if er ≠ 0 then (m1, er) else putRM m1 path mode data true full m1.room) := by
  unfold Hid createM putM
  rw [hcm]
  rfl
 have HCM : Hid _ := hcm
 have HI : Hid _ := h
 have HV : Hid _ := hv
 have HO : Hid _ := hout
 have htm := h.time
 have hcs := h.calls
 have hr0 := h.room0
 have hr1 := h.room1
 obtain ⟨a, c, rfl, -⟩ := hv.get
 obtain ⟨g, rfl⟩ := h.fs.ptr
 clear hcm hcl h hv hout
 by_cases her : er = 0
 ·subst her
  go_enter Tryz.func79, Tryz.ntmps79
  go_wp2_with fail
  go_at_call 154
  refine (begin_any HI.out.fs HI.out.base HI.out.high HI.out.ok HI.out.plan (by omega) (by omega)).mono ?_
  rw [HCM.out]
  rintro e w1 ⟨rfl, h1⟩
  have H1 : Hid (RefPost O R w (.pointer (some ⟨g, 0, none⟩)) m1 w1) := h1
  have d0 := h1.fs.room
  obtain ⟨r, hr⟩ : ∃ r, m1.room = r := ⟨_, rfl⟩
  have HR : Hid _ := hr
  rw [hr] at d0
  have hrb : r = m.room := hr.symm.trans HROOM.out
  have hrb0 : 0 ≤ r := by omega
  have hrb1 : r ≤ 1073741824 := by omega
  clear h1 hr hrb
  have HDD : Hid (createM m path mode data = putRM m1 path mode data true full r) := by unfold Hid; rw [HDEF.out, HR.out]; rfl
  go_wp2_with (go_at_call 157; go_must (refine (put_any path mode _ data true full r H1.out.fs HOK1.out (by omega) hp (IsBytes.fr HV.out HO.out H1.out.fr) (by omega) (by omega)).mono ?_; rintro e w2 ⟨rfl, h2⟩))
  go_ret
  rw [HDD.out]
  exact ⟨rfl, RefPost.trans H1.out h2⟩
 ·have hb : (er == 0) = false := by simpa using her
  have hb' : (er != 0) = true := by simpa using her
  have HDD : Hid (createM m path mode data = (m1, er)) := by unfold Hid; rw [HDEF.out]; simp [her]
  clear her HDEF
  go_enter Tryz.func79, Tryz.ntmps79
  go_wp2_with (go_at_call 154; go_must (refine (begin_any HI.out.fs HI.out.base HI.out.high HI.out.ok HI.out.plan (by omega) (by omega)).mono ?_; rw [HCM.out]; rintro e w1 ⟨rfl, h1⟩))
  go_ret
  rw [HDD.out]
  exact ⟨rfl, h1⟩

set_option maxRecDepth 100000 in
set_option maxHeartbeats 4000000 in
theorem writeR_any {O R : Nat → Prop} {w : World} {p : Value} {m : Fs} (path : B8) (mode : Int) (v : Value) (data : B8) (h : RefIn O R w p m) (hp : path.length ≤ 400) (hv : IsBytes w v data) (hout : Out O w v) :
  Calls Tryz.prog 89 #[p, S8 path, .int .i64 mode, v] w fun e w' => e = .returned (.int .i64 (writeM m path mode data).2) ∧ RefPost O R w p (writeM m path mode data).1 w' := by
 obtain ⟨m1, full, er, hcm⟩ : ∃ m1 full er, callM m = (m1, full, er) := ⟨_, _, _, rfl⟩
 have hcl := (call_left h.ok h.plan).1
 rw [hcm] at hcl
 have htm1 : m1.time ≤ m.time + 1000 := hcl.time
 have HROOM : Hid (m1.room = m.room) := hcl.room
 have HOK1 : Hid (OkM m1) := hcl.ok
 have HDEF : Hid (writeM m path mode data = if er ≠ 0 then (m1, er) else putRM m1 path mode data false full m1.room) := by
  unfold Hid writeM putM
  rw [hcm]
  rfl
 have HCM : Hid _ := hcm
 have HI : Hid _ := h
 have HV : Hid _ := hv
 have HO : Hid _ := hout
 have htm := h.time
 have hcs := h.calls
 have hr0 := h.room0
 have hr1 := h.room1
 obtain ⟨a, c, rfl, -⟩ := hv.get
 obtain ⟨g, rfl⟩ := h.fs.ptr
 clear hcm hcl h hv hout
 by_cases her : er = 0
 ·subst her
  go_enter Tryz.func89, Tryz.ntmps89
  go_wp2_with fail
  go_at_call 154
  refine (begin_any HI.out.fs HI.out.base HI.out.high HI.out.ok HI.out.plan (by omega) (by omega)).mono ?_
  rw [HCM.out]
  rintro e w1 ⟨rfl, h1⟩
  have H1 : Hid (RefPost O R w (.pointer (some ⟨g, 0, none⟩)) m1 w1) := h1
  have d0 := h1.fs.room
  obtain ⟨r, hr⟩ : ∃ r, m1.room = r := ⟨_, rfl⟩
  have HR : Hid _ := hr
  rw [hr] at d0
  have hrb : r = m.room := hr.symm.trans HROOM.out
  have hrb0 : 0 ≤ r := by omega
  have hrb1 : r ≤ 1073741824 := by omega
  clear h1 hr hrb
  have HDD : Hid (writeM m path mode data = putRM m1 path mode data false full r) := by unfold Hid; rw [HDEF.out, HR.out]; rfl
  go_wp2_with (go_at_call 157; go_must (refine (put_any path mode _ data false full r H1.out.fs HOK1.out (by omega) hp (IsBytes.fr HV.out HO.out H1.out.fr) (by omega) (by omega)).mono ?_; rintro e w2 ⟨rfl, h2⟩))
  go_ret
  rw [HDD.out]
  exact ⟨rfl, RefPost.trans H1.out h2⟩
 ·have hb : (er == 0) = false := by simpa using her
  have hb' : (er != 0) = true := by simpa using her
  have HDD : Hid (writeM m path mode data = (m1, er)) := by unfold Hid; rw [HDEF.out]; simp [her]
  clear her HDEF
  go_enter Tryz.func89, Tryz.ntmps89
  go_wp2_with (go_at_call 154; go_must (refine (begin_any HI.out.fs HI.out.base HI.out.high HI.out.ok HI.out.plan (by omega) (by omega)).mono ?_; rw [HCM.out]; rintro e w1 ⟨rfl, h1⟩))
  go_ret
  rw [HDD.out]
  exact ⟨rfl, h1⟩

set_option maxRecDepth 100000 in
set_option maxHeartbeats 4000000 in
theorem removeR_any {O R : Nat → Prop} {w : World} {p : Value} {m : Fs} (path : B8) (h : RefIn O R w p m) (hp : path.length ≤ 400) :
  Calls Tryz.prog 82 #[p, S8 path] w fun e w' => e = .returned (.int .i64 (removeM m path).2) ∧ RefPost O R w p (removeM m path).1 w' := by
 obtain ⟨m1, full, er, hcm⟩ : ∃ m1 full er, callM m = (m1, full, er) := ⟨_, _, _, rfl⟩
 have hcl := (call_left h.ok h.plan).1
 rw [hcm] at hcl
 have htm1 : m1.time ≤ m.time + 1000 := hcl.time
 have HOK1 : Hid (OkM m1) := hcl.ok
 have HDEF : Hid (removeM m path = if er ≠ 0 then (m1, er) else removesM m1 path) := by
  unfold Hid removeM
  rw [hcm]
 have HCM : Hid _ := hcm
 have HI : Hid _ := h
 have htm := h.time
 have hcs := h.calls
 clear hcm hcl h
 by_cases her : er = 0
 ·subst her
  have HDD : Hid (removeM m path = removesM m1 path) := by unfold Hid; rw [HDEF.out]; rfl
  go_enter Tryz.func82, Tryz.ntmps82
  go_wp2_with (first
   | (go_at_call 154; go_must (refine (begin_any HI.out.fs HI.out.base HI.out.high HI.out.ok HI.out.plan (by omega) (by omega)).mono ?_; rw [HCM.out]; rintro e w1 ⟨rfl, h1⟩; have H1 : Hid (RefPost O R w p m1 w1) := h1; clear h1))
   | (go_at_call 159; go_must (refine (drop_any path H1.out.fs HOK1.out (by omega) hp).mono ?_; rintro e w2 ⟨rfl, h2⟩)))
  go_ret
  rw [HDD.out]
  exact ⟨rfl, RefPost.trans H1.out h2⟩
 ·have hb : (er == 0) = false := by simpa using her
  have hb' : (er != 0) = true := by simpa using her
  have HDD : Hid (removeM m path = (m1, er)) := by unfold Hid; rw [HDEF.out]; simp [her]
  clear her HDEF
  go_enter Tryz.func82, Tryz.ntmps82
  go_wp2_with (go_at_call 154; go_must (refine (begin_any HI.out.fs HI.out.base HI.out.high HI.out.ok HI.out.plan (by omega) (by omega)).mono ?_; rw [HCM.out]; rintro e w1 ⟨rfl, h1⟩))
  go_ret
  rw [HDD.out]
  exact ⟨rfl, h1⟩

set_option maxRecDepth 100000 in
set_option maxHeartbeats 4000000 in
theorem syncR_any {O R : Nat → Prop} {w : World} {p : Value} {m : Fs} (h : RefIn O R w p m) :
  Calls Tryz.prog 81 #[p] w fun e w' => e = .returned (.int .i64 (syncM m).2) ∧ RefPost O R w p (syncM m).1 w' := by
 obtain ⟨m1, full, er, hcm⟩ : ∃ m1 full er, callM m = (m1, full, er) := ⟨_, _, _, rfl⟩
 have hcl := (call_left h.ok h.plan).1
 rw [hcm] at hcl
 have htm1 : m1.time ≤ m.time + 1000 := hcl.time
 have hln : m1.now.length ≤ m1.time := hcl.ok.lnow
 have HDEF : Hid (syncM m = if er = 0 then (settle m1, 0) else (m1, er)) := by
  unfold Hid syncM
  rw [hcm]
 have HCM : Hid _ := hcm
 have HI : Hid _ := h
 have htm := h.time
 have hcs := h.calls
 clear hcm hcl h
 by_cases her : er = 0
 ·subst her
  have HDD : Hid (syncM m = (settle m1, 0)) := by unfold Hid; rw [HDEF.out]; rfl
  go_enter Tryz.func81, Tryz.ntmps81
  go_wp2_with (first
   | (go_at_call 154; go_must (refine (begin_any HI.out.fs HI.out.base HI.out.high HI.out.ok HI.out.plan (by omega) (by omega)).mono ?_; rw [HCM.out]; rintro e w1 ⟨rfl, h1⟩; have H1 : Hid (RefPost O R w p m1 w1) := h1; clear h1))
   | (go_at_call 158; go_must (refine (safe_any H1.out.fs (by omega)).mono ?_; rintro e w2 ⟨rfl, h2⟩)))
  go_ret
  rw [HDD.out]
  exact ⟨rfl, RefPost.trans H1.out h2⟩
 ·have hb : (er == 0) = false := by simpa using her
  have hb' : (er != 0) = true := by simpa using her
  have HDD : Hid (syncM m = (m1, er)) := by unfold Hid; rw [HDEF.out, if_neg her]
  clear her HDEF
  go_enter Tryz.func81, Tryz.ntmps81
  go_wp2_with (go_at_call 154; go_must (refine (begin_any HI.out.fs HI.out.base HI.out.high HI.out.ok HI.out.plan (by omega) (by omega)).mono ?_; rw [HCM.out]; rintro e w1 ⟨rfl, h1⟩))
  go_ret
  rw [HDD.out]
  exact ⟨rfl, h1⟩

end Go.Proofs.YtfimfbdlegookaaGreatDoor

/-! marref5.FS: move, Move, MoveNew. Conditions: what holds of a file system at all times; short paths. -/
namespace Go.Proofs.YtfimfbdlegookaaGreatDoor
open Go Go.RowKit
variable [Inhabited BaseW]

set_option maxRecDepth 100000 in
set_option maxHeartbeats 4000000 in
theorem mvR_any {O R : Nat → Prop} {w : World} {p : Value} {m : Fs} (src dst : B8) (fresh : Bool) (h : RefIn O R w p m) (hs : src.length ≤ 400) (hd : dst.length ≤ 400) :
  Calls Tryz.prog 160 #[p, S8 src, S8 dst, .bool fresh] w fun e w' => e = .returned (.int .i64 (moveM m src dst fresh).2) ∧ RefPost O R w p (moveM m src dst fresh).1 w' := by
 obtain ⟨m1, full, er, hcm⟩ : ∃ m1 full er, callM m = (m1, full, er) := ⟨_, _, _, rfl⟩
 have hcl := (call_left h.ok h.plan).1
 rw [hcm] at hcl
 have htm1 : m1.time ≤ m.time + 1000 := hcl.time
 have hln : m1.now.length ≤ m1.time := hcl.ok.lnow
 have hlp : m1.pend.length ≤ m1.time := hcl.ok.lpend
 have HDN : Hid _ := hcl.ok.dnow
 have HDEF : Hid (moveM m src dst fresh = if er ≠ 0 then (m1, er) else if pathB src = false ∨ pathB dst = false then (m1, 6)
   else if (look m1.now src).isNone then (m1, 7) else if (look m1.now dst).isSome ∧ fresh = true then (m1, 8)
   else if src = dst then (m1, 0) else if (look m1.now dst).isNone ∧ mayF m1.now dst src = false then (m1, 9) else (does m1 (.mv src dst), 0)) := by unfold Hid moveM mvM; rw [hcm]
 have HCM : Hid _ := hcm
 have HI : Hid _ := h
 have htm := h.time
 have hcs := h.calls
 have hts := tl src
 have htd := tl dst
 obtain ⟨g, rfl⟩ := h.fs.ptr
 obtain ⟨ps, hps⟩ : ∃ ps, pathB src = ps := ⟨_, rfl⟩
 obtain ⟨pd, hpd⟩ : ∃ pd, pathB dst = pd := ⟨_, rfl⟩
 have HPS : Hid _ := hps
 have HPD : Hid _ := hpd
 rw [hps, hpd] at HDEF
 clear hcm hcl h hps hpd
 go_enter Tryz.func160, Tryz.ntmps160
 go_wp2_with fail
 go_at_call 154
 refine (begin_any HI.out.fs HI.out.base HI.out.high HI.out.ok HI.out.plan (by omega) (by omega)).mono ?_
 rw [HCM.out]
 rintro e w1 ⟨rfl, h1⟩
 have H1 : Hid (RefPost O R w (.pointer (some ⟨g, 0, none⟩)) m1 w1) := h1
 obtain ⟨g', vn, vs, vp, vl, vu, hpe, hg, hO, hP⟩ := h1.fs
 cases hpe
 obtain ⟨na, nc, rfl, -⟩ := rows_get hP.now
 have HP : Hid _ := hP.now
 have HG : Hid _ := hg
 obtain ⟨d0, d1, d2, d3, d4, d5, d6, d7, d8⟩ := cellsAt9 hg
 clear h1 hP hg d0 d2 d3 d4 d5 d6 d7 d8
 go_wp2_with fail
 apply wp_region_mix 12 [_, _, _, _, _, undef, _, _, _, _, _, undef] [none, none, none, none, none, some (fun u _ => ∃ i, u = .int .i64 i ∧ PlaceOf m1.now src i), none, none, none, none, none, some (fun u _ => ∃ i, u = .int .i64 i ∧ PlaceOf m1.now dst i)] [[], [0], [1], [2], [], [3, 4], [], [6], [7], [8], [], [9, 10]] (by kernel_rfl) (by kernel_rfl) (by simp [mixV])
 ·refine ⟨?_, ?_, trivial⟩
  ·exact fun _ _ _ _ h => h
  ·exact fun _ _ _ _ h => h
 ·simp (maxSteps := 1000000) only [List.take_succ_cons, List.take_zero, oblFrom, stepObl, fillFrom, Act.put, List.setIfInBounds_toArray, List.set_cons_zero, List.set_cons_succ, knows, getV, mixV, List.getD_cons_zero, List.getD_cons_succ, and_true, true_and, forall_const]
  refine ⟨?_, ?_, ?_, ?_, ?_, ?_, ?_, ?_, ?_, ?_, ?_, ?_⟩
  ·intro xs wq hq R hR
   have f1 := hq.cell d1
   go_simp
   exact hR _ _ (Ext.refl _) rfl
  ·intro xs wq hq hk R hR
   have f1 := hq.cell d1
   go_simp
   exact hR _ _ (Ext.refl _) rfl
  ·intro xs wq hq hk R hR
   have f1 := hq.cell d1
   go_simp
   exact hR _ _ (Ext.refl _) rfl
  ·intro xs wq hq hk R hR
   have f1 := hq.cell d1
   go_simp
   exact hR _ _ (Ext.refl _) rfl
  ·intro xs wq hq R hR
   have f1 := hq.cell d1
   go_simp
   exact hR _ _ (Ext.refl _) rfl
  ·intro xs wq hq hk R hR
   obtain ⟨hk0, hk1⟩ := hk
   go_simp
   exact (find_any src (ReadL.rowsExt HP.out hq)).mono (by rintro e' w4 ⟨⟨i, rfl, h1⟩, h3⟩; exact ⟨_, rfl, hR _ _ h3 ⟨i, rfl, h1⟩⟩)
  ·intro xs wq hq R hR
   have f1 := hq.cell d1
   go_simp
   exact hR _ _ (Ext.refl _) rfl
  ·intro xs wq hq hk R hR
   have f1 := hq.cell d1
   go_simp
   exact hR _ _ (Ext.refl _) rfl
  ·intro xs wq hq hk R hR
   have f1 := hq.cell d1
   go_simp
   exact hR _ _ (Ext.refl _) rfl
  ·intro xs wq hq hk R hR
   have f1 := hq.cell d1
   go_simp
   exact hR _ _ (Ext.refl _) rfl
  ·intro xs wq hq R hR
   have f1 := hq.cell d1
   go_simp
   exact hR _ _ (Ext.refl _) rfl
  ·intro xs wq hq hk R hR
   obtain ⟨hk0, hk1⟩ := hk
   go_simp
   exact (find_any dst (ReadL.rowsExt HP.out hq)).mono (by rintro e' w4 ⟨⟨i, rfl, h1⟩, h3⟩; exact ⟨_, rfl, hR _ _ h3 ⟨i, rfl, h1⟩⟩)
 intro xs w2 hx2 hk
 simp only [heldV, Nat.zero_add, Nat.reduceAdd, and_true] at hk
 obtain ⟨q0, q1, q2, q3, q4, q5, q6, q7, q8, q9, q10, q11⟩ := hk
 simp (maxSteps := 1000000) only [List.take_succ_cons, List.take_zero, List.drop_succ_cons, List.drop_zero, fillFrom, Act.put, List.setIfInBounds_toArray, List.set_cons_zero, List.set_cons_succ, Nat.zero_add, Nat.reduceAdd, q0, q1, q2, q3, q4, q6, q7, q8, q9, q10]
 clear q0 q1 q2 q3 q4 q6 q7 q8 q9 q10
 generalize xs 5 = x5 at *
 generalize xs 11 = x11 at *
 obtain ⟨i1, rfl, hpl1⟩ := q5
 obtain ⟨i2, rfl, hpl2⟩ := q11
 have H2 : Hid (RefPost O R w (.pointer (some ⟨g, 0, none⟩)) m1 w2) := RefPost.ext H1.out hx2
 have d1' := hx2.cell d1
 have HX2 : Hid _ := hx2
 clear hx2 d1
 by_cases her : er = 0
 ·subst her
  cases ps with
  | false =>
   have HW : Hid (moveM m src dst fresh = (m1, 6)) := by unfold Hid; rw [HDEF.out]; simp
   go_wp2_with (go_at_call 155; go_must (refine (rpath_any src _ (by omega)).mono ?_; rw [HPS.out]; rintro e w3 ⟨rfl, hx3⟩))
   go_ret
   rw [HW.out]
   exact ⟨rfl, RefPost.ext H2.out hx3⟩
  | true =>
   go_wp2_with fail
   go_at_call 155
   refine (rpath_any src _ (by omega)).mono ?_
   rw [HPS.out]
   rintro e w3 ⟨rfl, hx3⟩
   go_wp2_with fail
   go_at_call 155
   refine (rpath_any dst _ (by omega)).mono ?_
   rw [HPD.out]
   rintro e w4 ⟨rfl, hx4⟩
   have H4 : Hid (RefPost O R w (.pointer (some ⟨g, 0, none⟩)) m1 w4) := RefPost.ext H2.out (hx3.trans hx4)
   have z1 := (hx3.trans hx4).cell d1'
   have HX4 : Hid _ := Ext.trans HX2.out (hx3.trans hx4)
   clear hx3 hx4 d1'
   cases pd with
   | false =>
    have HW : Hid (moveM m src dst fresh = (m1, 6)) := by unfold Hid; rw [HDEF.out]; simp
    go_wp2
    go_ret
    rw [HW.out]
    exact ⟨rfl, H4.out⟩
   | true =>
    rcases hpl1 with ⟨hlk, rfl⟩ | ⟨k, f, rfl, hk, hlk⟩
    ·have HW : Hid (moveM m src dst fresh = (m1, 7)) := by unfold Hid; rw [HDEF.out, hlk]; simp
     clear hlk hpl2
     go_wp2
     go_ret
     rw [HW.out]
     exact ⟨rfl, H4.out⟩
    ·have hk0 : ¬ (k : Int) < 0 := by omega
     have HD2 : Hid (moveM m src dst fresh = if (look m1.now dst).isSome ∧ fresh = true then (m1, 8)
       else if src = dst then (m1, 0) else if (look m1.now dst).isNone ∧ mayF m1.now dst src = false then (m1, 9) else (does m1 (.mv src dst), 0)) := by unfold Hid; rw [HDEF.out, hlk]; simp
     have HLK : Hid _ := hlk
     clear hlk hk HDEF
     rcases hpl2 with ⟨hlk2, rfl⟩ | ⟨k2, f2, rfl, hk2, hlk2⟩
     ·have hne : (src == dst) = false := by
       rw [beq_eq_false_iff_ne]
       intro e
       have := HLK.out
       rw [e, hlk2] at this
       cases this
      have HNE : Hid (src ≠ dst) := beq_eq_false_iff_ne.1 hne
      rw [hlk2] at HD2
      obtain ⟨my, hmy⟩ : ∃ my, mayR (delF m1.now src) dst = my := ⟨_, rfl⟩
      have HMY : Hid _ := hmy
      have hdl := delF_length m1.now src
      have HDD : Hid (moveM m src dst fresh = if my = false then (m1, 9) else (does m1 (.mv src dst), 0)) := by
       unfold Hid
       rw [HD2.out, if_neg (by simp), if_neg HNE.out, mayR_del, hmy]
       simp
      clear hlk2 hmy HD2
      cases fresh
      all_goals
       go_wp2_with fail
       go_at_call 192
       refine (without_any src (ReadL.rowsExt HP.out HX4.out) (by omega)).mono ?_
       rintro e w5 ⟨⟨v5, rfl, ho5⟩, hx5⟩
       have HO5 : Hid _ := OwnRows.rows ho5 (by omega)
       obtain ⟨a5, c5, rfl, -⟩ := rows_get HO5.out
       clear ho5
       go_wp2_with fail
       go_at_call 190
       refine (mayR_any dst HO5.out HPD.out (fun e he => (HDN.out e (List.mem_filter.1 he).1).1)).mono ?_
       rw [HMY.out]
       rintro e w6 ⟨rfl, hx6⟩
       have H6 : Hid (RefPost O R w (.pointer (some ⟨g, 0, none⟩)) m1 w6) := RefPost.ext H4.out (hx5.trans hx6)
       clear hx5 hx6
       cases my with
       | false =>
        go_wp2
        go_ret
        rw [HDD.out]
        exact ⟨rfl, H6.out⟩
       | true =>
        go_wp2_with (go_at_call 191; go_must (refine (change_any (.mv src dst) (cs := [.int .i64 2, S8 src, S8 dst, .int .i64 0, .slice none 0 0, .int .i64 0]) H6.out.fs ⟨by omega, by omega, rfl⟩ (by omega) (by omega) (by omega)).mono ?_; rintro e w7 ⟨rfl, h7⟩))
        go_ret
        rw [HDD.out]
        exact ⟨rfl, RefPost.trans H6.out h7⟩
     ·have hk20 : ¬ (k2 : Int) < 0 := by omega
      have hk21 : (0 : Int) ≤ (k2 : Int) := by omega
      rw [hlk2] at HD2
      clear hlk2 hk2
      cases fresh with
      | true =>
       have HW : Hid (moveM m src dst true = (m1, 8)) := by unfold Hid; rw [HD2.out]; simp
       go_wp2
       go_ret
       rw [HW.out]
       exact ⟨rfl, H4.out⟩
      | false =>
       obtain ⟨bq, hbq⟩ : ∃ bq, (src == dst) = bq := ⟨_, rfl⟩
       cases bq with
       | true =>
        have HW : Hid (moveM m src dst false = (m1, 0)) := by unfold Hid; rw [HD2.out, if_neg (by simp), if_pos (by simpa using hbq)]
        clear HD2
        go_wp2
        go_ret
        rw [HW.out]
        exact ⟨rfl, H4.out⟩
       | false =>
        have HW : Hid (moveM m src dst false = (does m1 (.mv src dst), 0)) := by unfold Hid; rw [HD2.out, if_neg (by simp), if_neg (by simpa using hbq), if_neg (by simp)]
        clear HD2
        go_wp2_with (go_at_call 191; go_must (refine (change_any (.mv src dst) (cs := [.int .i64 2, S8 src, S8 dst, .int .i64 0, .slice none 0 0, .int .i64 0]) H4.out.fs ⟨by omega, by omega, rfl⟩ (by omega) (by omega) (by omega)).mono ?_; rintro e w7 ⟨rfl, h7⟩))
        go_ret
        rw [HW.out]
        exact ⟨rfl, RefPost.trans H4.out h7⟩
 ·have hb : (er == 0) = false := by simpa using her
  have hb' : (er != 0) = true := by simpa using her
  have HDD : Hid (moveM m src dst fresh = (m1, er)) := by unfold Hid; rw [HDEF.out]; simp [her]
  clear her HDEF hpl1 hpl2
  go_wp2
  go_ret
  rw [HDD.out]
  exact ⟨rfl, H2.out⟩

theorem moveR_any {O R : Nat → Prop} {w : World} {p : Value} {m : Fs} (src dst : B8) (h : RefIn O R w p m) (hs : src.length ≤ 400) (hd : dst.length ≤ 400) :
  Calls Tryz.prog 83 #[p, S8 src, S8 dst] w fun e w' => e = .returned (.int .i64 (moveM m src dst false).2) ∧ RefPost O R w p (moveM m src dst false).1 w' := by
 have HC : Hid _ := mvR_any src dst false h hs hd
 clear h
 go_enter Tryz.func83, Tryz.ntmps83
 go_wp2_with (go_at_call 160; go_must (refine Calls.mono HC.out ?_; rintro e w1 ⟨rfl, h1⟩))
 go_ret
 exact ⟨rfl, h1⟩
theorem moveNewR_any {O R : Nat → Prop} {w : World} {p : Value} {m : Fs} (src dst : B8) (h : RefIn O R w p m) (hs : src.length ≤ 400) (hd : dst.length ≤ 400) :
  Calls Tryz.prog 91 #[p, S8 src, S8 dst] w fun e w' => e = .returned (.int .i64 (moveM m src dst true).2) ∧ RefPost O R w p (moveM m src dst true).1 w' := by
 have HC : Hid _ := mvR_any src dst true h hs hd
 clear h
 go_enter Tryz.func91, Tryz.ntmps91
 go_wp2_with (go_at_call 160; go_must (refine Calls.mono HC.out ?_; rintro e w1 ⟨rfl, h1⟩))
 go_ret
 exact ⟨rfl, h1⟩

end Go.Proofs.YtfimfbdlegookaaGreatDoor

/-! marref5.FS: Peek, Paths, Read, List. Conditions: what holds of a file system at all times; short paths. -/
namespace Go.Proofs.YtfimfbdlegookaaGreatDoor
open Go Go.RowKit
variable [Inhabited BaseW]

theorem size_rfi : (Tryz.prog.info? 134).map (·.size) = some 3 := by kernel_rfl
theorem pathsL_take {l : Files} {k : Nat} {e : B8 × Fi} (h : l[k]? = some e) : pathsL (l.take (k + 1)) = pathsL (l.take k) ++ [e.1] := by
 unfold pathsL
 rw [List.take_add_one, h, Option.toList_some, List.map_append]
 rfl
theorem pathsL_len (l : Files) : (pathsL l).length = l.length := by simp [pathsL]

set_option maxRecDepth 100000 in
set_option maxHeartbeats 2000000 in
theorem pathsR_any {O R : Nat → Prop} {w : World} {p : Value} {m : Fs} (h : IsRef O R w p m) (hl : m.now.length ≤ 1000000) :
  Calls Tryz.prog 109 #[p] w fun e w' => (∃ v, e = .returned v ∧ IsStrs w' v (pathsL m.now)) ∧ Ext w w' := by
 obtain ⟨g, vn, vs, vp, vl, vu, rfl, hg, -, hP⟩ := h
 obtain ⟨a, cap, rfl, h1, h2, h3, h4⟩ := rows_get hP.now
 obtain ⟨d0, d1, d2, d3, d4, d5, d6, d7, d8⟩ := cellsAt9 hg
 have H4 : Hid _ := h4
 clear hg hP h4 d0 d2 d3 d4 d5 d6 d7 d8
 go_enter Tryz.func109, Tryz.ntmps109
 go_wp2
 go_loopw [3, 4] (fun out i wr => ∃ k : Nat, k ≤ m.now.length ∧ i = .int .i64 k ∧ wr.ownsRow w.heap.size 9 1 out k ((pathsL (m.now.take k)).map S8) ∧ Ext w wr) (fun _ i _ => m.now.length - (intOf i).toNat)
 case atStart => exact ⟨0, Nat.zero_le _, rfl, World.ownsRow_nil _ _ _ _, Ext.refl _⟩
 case round =>
  obtain ⟨k, hk, rfl, hown, hx⟩ := hrel
  replace d1 := hx.cell d1
  have hsz := hx.size
  by_cases hlt : k < m.now.length
  ·obtain ⟨⟨q, f⟩, hke⟩ : ∃ e, m.now[k]? = some e := ⟨_, List.getElem?_eq_getElem hlt⟩
   obtain ⟨b, o, s, c, rfl, hql, hd, c0, -, -, -⟩ := H4.out k q f hke
   replace c0 := hx.cell c0
   have HK : Hid _ := pathsL_take hke
   clear hd hke
   go_wp2_with (at_builtin; go_must (refine app_str rfl _ _ rfl w.heap.size _ k (pathsL (m.now.take k)) rfl (hown.alloc _) wr.heap.size 1 1 [q] rfl rfl (alloc_at _ _) (by omega) (by simp; omega) ?_); intro v' w3 hown3 hgr3)
   go_roundw
   case rel => exact ⟨k + 1, by omega, by go_num, by rw [HK.out]; exact hown3, owns_ext_app (hx.alloc _) (hown.alloc _) hgr3⟩
   case measure => simp [intOf]; omega
  ·have hkk : k = m.now.length := by omega
   subst hkk
   rw [List.take_length] at hown
   have HO : Hid _ := hown
   clear hown
   go_wp2
   go_ret
   exact ⟨⟨_, rfl, strs_owned HO.out (pathsL_len _).symm hl⟩, hx⟩

/-- A row of a file that is written into a block of the call's own: the file system stands. -/
theorem readBlockR {O R : Nat → Prop} {w w1 : World} {p : Value} {m1 : Fs} {cs cur : Array Value} (h : RefPost O R w p m1 w1) (hb : w1.heap[w.heap.size]? = some (.cells cur 134 (0, 0))) : RefPost O R w p m1 (w1.setRow w.heap.size cs) := by
 have hgr := setRow_grown w1 w.heap.size cs
 obtain ⟨g, vn, vs, vp, vl, vu, rfl, hg, hO, hP⟩ := h.fs
 have ne : ∀ k, (∃ x, w1.heap[k]? = some x ∧ ∀ cs fr, x ≠ Obj.cells cs 134 fr) → (w1.setRow w.heap.size cs).heap[k]? = w1.heap[k]? := fun k ⟨x, hx, hn⟩ => hgr.block k (Array.getElem?_eq_some_iff.1 hx).1 (fun heq => by
  simp only [Option.some.injEq] at heq
  subst heq
  rw [hb] at hx
  exact hn cur (0, 0) (Option.some.inj hx).symm)
 have hP2 := hP.stay (fun k hv => by obtain ⟨xs, f, hx⟩ := hP.now.typed k hv; exact ne k ⟨_, hx, by simp⟩) (fun k hv => by obtain ⟨xs, f, hx⟩ := hP.sure.typed k hv; exact ne k ⟨_, hx, by simp⟩) (fun k hv => by obtain ⟨xs, f, hx⟩ := hP.pend.typed k hv; exact ne k ⟨_, hx, by simp⟩) (fun k hv => by obtain ⟨xs, f, hx⟩ := hP.plan.typed k hv; exact ne k ⟨_, hx, by simp⟩) (fun k hv => by obtain ⟨xs, f, hx⟩ := hP.users.typed k hv; exact ne k ⟨_, hx, by simp⟩) (grownR hgr (by rintro k hk; cases hk; exact cells_u8 hb (by kernel_rfl)))
 have hsz : (w1.setRow w.heap.size cs).heap.size = w1.heap.size := by simp [World.setRow]
 have hmo : ∀ (Q : Nat → Prop) k, Nw Q w w1 k → Nw Q w (w1.setRow w.heap.size cs) k := fun Q k hk => hk.imp id (fun h => ⟨h.1, by rw [hsz]; exact h.2⟩)
 refine ⟨IsRef.mono ⟨g, vn, vs, vp, vl, vu, rfl, (ne g ⟨_, hg, by simp⟩).trans hg, hO, hP2⟩ (hmo O) (hmo R), h.fr.step hgr (fun k hk => by cases hk; exact .inr (Nat.le_refl _)) (by rintro k hk; cases hk; exact cells_u8 hb (by kernel_rfl))⟩

set_option maxRecDepth 100000 in
set_option maxHeartbeats 4000000 in
theorem peekR_any {O R : Nat → Prop} {w : World} {p : Value} {m : Fs} (path : B8) (h : IsRef O R w p m) :
  Calls Tryz.prog 110 #[p, S8 path] w fun e w' => (∃ v, e = .returned (.tuple #[fiV (peekM m path).1 v, .bool (peekM m path).2]) ∧ IsData (Nu w w') w' v (peekM m path).1.data) ∧ Ext w w' := by
 obtain ⟨g, vn, vs, vp, vl, vu, rfl, hg, -, hP⟩ := h
 obtain ⟨a, cap, rfl, h1, h2, h3, h4⟩ := rows_get hP.now
 have H4 : Hid _ := h4
 obtain ⟨wa, hwa⟩ : ∃ wa, wa = w.alloc (.cells #[.int .i64 0, .slice none 0 0, .int .i64 0] 134) := ⟨_, rfl⟩
 have hxa : Ext w wa := by rw [hwa]; exact (Ext.refl _).alloc _
 have hba : wa.heap[w.heap.size]? = some (.cells #[.int .i64 0, .slice none 0 0, .int .i64 0] 134 (0, 0)) := by rw [hwa]; exact alloc_at w _
 have hsa : w.heap.size < wa.heap.size := by rw [hwa]; simp
 obtain ⟨d0, d1, d2, d3, d4, d5, d6, d7, d8⟩ := cellsAt9 (Ext.row hxa hg)
 have HWA : Hid _ := hwa
 have HXA : Hid _ := hxa
 have HN : Hid _ := ReadL.rowsExt hP.now hxa
 have hlt := hP.now.lt
 clear hwa hg hP h4 hxa d0 d2 d3 d4 d5 d6 d7 d8
 go_enter Tryz.func110, Tryz.ntmps110
 go_upto_region 1 with fail
 rw [show w.alloc (.cells #[.int .i64 0, .slice none 0 0, .int .i64 0] 134) = wa from HWA.out.symm]
 go_wp2_with fail
 go_at_call 164
 refine (find_any path HN.out).mono ?_
 rintro e w2 ⟨⟨i, rfl, hpl⟩, hx2⟩
 have hb2 := hx2.row hba
 rcases hpl with ⟨hlk, rfl⟩ | ⟨k, f, rfl, hk, hlk⟩
 ·have HPK : Hid (peekM m path = (zeroFi, false)) := by unfold Hid peekM; rw [hlk]
  clear hlk
  go_wp2_with (refine wpList_store_row rfl 134 (.tmp 4) (.tmp 16) rfl w.heap.size #[.int .i64 0, .slice none 0 0, .int .i64 0] rfl rfl 134 _ hb2 size_rfi rfl (by simp [Value.oneCell']) ?_)
  refine bodyPost_ret (results_row_tmp rfl _ _ w.heap.size 134 #[.int .i64 0, .slice none 0 0, .int .i64 0] (0, 0) _ (.bool false) rfl rfl (setRow_heap _ _ _ _ _ _ hb2) Tryz.underlying134 size_rfi) rfl ?_
  rw [HPK.out]
  exact ⟨⟨_, rfl, IsData.nil _ _⟩, (Ext.trans HXA.out hx2).setRow _ _ (Nat.le_refl _)⟩
 ·have HPK : Hid (peekM m path = (f, true)) := by unfold Hid peekM; rw [hlk]
  obtain ⟨b, o, s1, s2, rfl, -, hd, c0, c1, c2, c3⟩ := H4.out k path f hk
  have hkl := (List.getElem?_eq_some_iff.1 hk).1
  have hxw := Ext.trans HXA.out hx2
  replace c1 := hxw.cell c1
  replace c2 := hxw.cell c2
  replace c3 := hxw.cell c3
  replace d1 := hx2.cell d1
  have hbl : b < w2.heap.size := Nat.lt_of_lt_of_le (hlt b rfl) hxw.size
  obtain ⟨wb, hwb⟩ : ∃ wb, wb = w2.alloc (.cells #[.int .i64 f.mode, .slice s1 f.data.length s2, .int .i64 f.time] 134) := ⟨_, rfl⟩
  have hxb : Ext w2 wb := by rw [hwb]; exact (Ext.refl _).alloc _
  have hgb : wb.heap[w2.heap.size]? = some (.cells #[.int .i64 f.mode, .slice s1 f.data.length s2, .int .i64 f.time] 134 (0, 0)) := by rw [hwb]; exact alloc_at _ _
  have HWB : Hid _ := hwb
  obtain ⟨y0, y1, y2⟩ := cellsAt3 hgb
  have hga := hxb.row hb2
  have HD : Hid _ := IsData.ext hd (Ext.trans hxw hxb)
  have hk0 : ¬ (k : Int) < 0 := by omega
  have HXW : Hid _ := Ext.trans hxw hxb
  have hne2 : w.heap.size ≠ w2.heap.size := by have := hx2.size; omega
  have hs2 : wa.heap.size ≤ w2.heap.size := hx2.size
  clear hd hwb hk hlk hxw hxb c0 hx2
  go_upto_region 5 with fail
  rw [show w2.alloc (.cells #[.int .i64 f.mode, .slice s1 f.data.length s2, .int .i64 f.time] 134) = wb from HWB.out.symm]
  go_wp2_with fail
  go_at_call 87
  refine (copyB_any _ f.data _ HD.out.bytes).mono ?_
  rintro e w3 ⟨⟨v3, rfl, hd3⟩, hx3⟩
  obtain ⟨e1, e2, rfl, -⟩ := id hd3.bytes
  have HD3 : Hid _ := hd3
  have hgb3 := hx3.row hgb
  have hga3 := hx3.row hga
  clear hd3 hgb hga y0 y1 y2
  go_wp2_with (first
   | (refine store_field rfl 31 (.tmp 28) (.tmp 27) rfl w2.heap.size 1 rfl (.slice e1 f.data.length e2) rfl rfl _ _ hgb3 (Nat.le_of_ble_eq_true rfl) size_bytes #[.int .i64 f.mode, .slice e1 f.data.length e2, .int .i64 f.time] (by simp) ?_; intro w4 hg4 hgr4; have hga4 := but_row hgr4 hga3 hne2)
   | (refine wpList_load_row rfl 134 (.tmp 7) rfl w2.heap.size rfl 134 _ (0, 0) _ hg4 Tryz.underlying134 rfl size_rfi ?_)
   | (refine wpList_store_row rfl 134 (.tmp 4) (.tmp 29) rfl w.heap.size #[.int .i64 f.mode, .slice e1 f.data.length e2, .int .i64 f.time] rfl rfl 134 _ hga4 size_rfi rfl (by simp [Value.oneCell']) ?_))
  refine bodyPost_ret (results_row_tmp rfl _ _ w.heap.size 134 #[.int .i64 f.mode, .slice e1 f.data.length e2, .int .i64 f.time] (0, 0) _ (.bool true) rfl rfl (setRow_heap _ _ _ _ _ _ hga4) Tryz.underlying134 size_rfi) rfl ?_
  have hk3 : KeepB w3 w4 := KeepB.of_grown hgr4 hgb3 (by kernel_rfl)
  have hk4 : KeepB w4 (w4.setRow w.heap.size #[.int .i64 f.mode, .slice e1 f.data.length e2, .int .i64 f.time]) := KeepB.of_grown (setRow_grown _ _ _) hga4 (by kernel_rfl)
  have hx4 : Ext w w4 := Ext.but (Ext.trans HXW.out hx3) hgr4 (by omega)
  rw [HPK.out]
  refine ⟨⟨_, rfl, (HD3.out.keep (hk3.trans hk4)).mono (fun k hk => Nu.mono (Below.size HXW.out) (Nat.le_trans hk3.1 hk4.1) hk)⟩, hx4.setRow _ _ (Nat.le_refl _)⟩

set_option maxRecDepth 100000 in
set_option maxHeartbeats 4000000 in
theorem readR_any {O R : Nat → Prop} {w : World} {p : Value} {m : Fs} (path : B8) (h : RefIn O R w p m) (hp : path.length ≤ 400) :
  Calls Tryz.prog 77 #[p, S8 path] w fun e w' => (∃ v, e = .returned (.tuple #[fiV (readM m path).2.1 v, .int .i64 (readM m path).2.2]) ∧ IsData (Nu w w') w' v (readM m path).2.1.data) ∧ RefPost O R w p (readM m path).1 w' := by
 obtain ⟨m1, full, er, hcm⟩ : ∃ m1 full er, callM m = (m1, full, er) := ⟨_, _, _, rfl⟩
 have hdef : readM m path = if er ≠ 0 then (m1, zeroFi, er) else if pathB path = false then (m1, zeroFi, 6) else match look m1.now path with | some f => (m1, f, 0) | none => (m1, zeroFi, 7) := by
  unfold readM
  rw [hcm]
  dsimp only
  cases look m1.now path <;> rfl
 have HDEF : Hid _ := hdef
 have HCM : Hid _ := hcm
 have htm := h.time
 have hcs := h.calls
 obtain ⟨wa, hwa⟩ : ∃ wa, wa = w.alloc (.cells #[.int .i64 0, .slice none 0 0, .int .i64 0] 134) := ⟨_, rfl⟩
 have hxa : Ext w wa := by rw [hwa]; exact (Ext.refl _).alloc _
 have hba : wa.heap[w.heap.size]? = some (.cells #[.int .i64 0, .slice none 0 0, .int .i64 0] 134 (0, 0)) := by rw [hwa]; exact alloc_at w _
 have hsa : w.heap.size < wa.heap.size := by rw [hwa]; simp
 have HNO : Hid (¬ O w.heap.size) := fun ho => by have := h.low _ ho; omega
 have HI : Hid _ := h.ext hxa
 have HWA : Hid _ := hwa
 have HXA : Hid _ := hxa
 clear hdef hcm h hwa hxa
 go_enter Tryz.func77, Tryz.ntmps77
 go_wp2_with fail
 rw [show w.alloc (.cells #[.int .i64 0, .slice none 0 0, .int .i64 0] 134) = wa from HWA.out.symm]
 go_at_call 154
 refine (begin_any HI.out.fs HI.out.base HI.out.high HI.out.ok HI.out.plan (by omega) (by omega)).mono ?_
 rw [HCM.out]
 rintro e w1 ⟨rfl, h1⟩
 have H1 : Hid (RefPost O R wa p m1 w1) := h1
 have H0 : Hid (RefPost O R w p m1 w1) := RefPost.pre HXA.out h1
 have hb1 := h1.fr.row hba HNO.out
 have hs1 : wa.heap.size ≤ w1.heap.size := h1.fr.size
 clear h1 hba
 by_cases her : er = 0
 ·subst her
  obtain ⟨pd, hpd⟩ : ∃ pd, pathB path = pd := ⟨_, rfl⟩
  have HPD : Hid _ := hpd
  rw [hpd, if_neg (by simp)] at HDEF
  clear hpd
  go_wp2_with fail
  go_at_call 155
  refine (rpath_any path _ (by omega)).mono ?_
  rw [HPD.out]
  rintro e w2 ⟨rfl, hx2⟩
  have hb2 := hx2.row hb1
  have H2 : Hid _ := RefPost.ext H1.out hx2
  have H02 : Hid _ := RefPost.ext H0.out hx2
  have hs2 := hx2.size
  cases pd with
  | false =>
   have HDD : Hid (readM m path = (m1, zeroFi, 6)) := HDEF.out
   clear HDEF hx2
   go_wp2_with (refine wpList_store_row rfl 134 (.tmp 4) (.tmp 22) rfl w.heap.size #[.int .i64 0, .slice none 0 0, .int .i64 0] rfl rfl 134 _ hb2 size_rfi rfl (by simp [Value.oneCell']) ?_)
   refine bodyPost_ret (results_row_tmp rfl _ _ w.heap.size 134 #[.int .i64 0, .slice none 0 0, .int .i64 0] (0, 0) _ (.int .i64 6) rfl rfl (setRow_heap _ _ _ _ _ _ hb2) Tryz.underlying134 size_rfi) rfl ?_
   rw [HDD.out]
   exact ⟨⟨_, rfl, IsData.nil _ _⟩, readBlockR H02.out hb2⟩
  | true =>
   have HDE : Hid (readM m path = (m1, (peekM m1 path).1, if (peekM m1 path).2 then 0 else 7)) := by
    unfold Hid peekM
    rw [HDEF.out, if_neg (by simp)]
    cases look m1.now path <;> rfl
   have HZ : Hid ((peekM m1 path).2 = false → (peekM m1 path).1 = zeroFi) := by
    unfold Hid peekM
    cases look m1.now path <;> simp
   obtain ⟨fi, ok, hpk⟩ : ∃ fi ok, peekM m1 path = (fi, ok) := ⟨_, _, rfl⟩
   have HPK : Hid _ := hpk
   rw [hpk] at HDE HZ
   clear HDEF hx2 hpk
   go_wp2_with fail
   go_at_call 110
   refine (peekR_any path H2.out.fs).mono ?_
   rw [HPK.out]
   rintro e w3 ⟨⟨v, rfl, hv⟩, hx3⟩
   obtain ⟨c1, c2, rfl, -⟩ := id hv.bytes
   have hb3 := hx3.row hb2
   have HV : Hid _ := hv
   have H03 : Hid _ := RefPost.ext H02.out hx3
   have hs3 := hx3.size
   have hx4 : Ext w3 (w3.alloc (.cells #[.int .i64 fi.mode, .slice c1 fi.data.length c2, .int .i64 fi.time] 134)) := (Ext.refl _).alloc _
   have hb4 := hx4.row hb3
   have hbv := alloc_at w3 (.cells #[.int .i64 fi.mode, .slice c1 fi.data.length c2, .int .i64 fi.time] 134)
   have H04 : Hid _ := RefPost.ext H03.out hx4
   have HX4 : Hid _ := hx4
   clear hv hx3 hx4
   cases ok with
   | false =>
    have hfz : fi = zeroFi := HZ.out rfl
    subst hfz
    have HDD : Hid (readM m path = (m1, zeroFi, 7)) := HDE.out
    clear HDE HZ
    go_wp2_with (refine wpList_store_row rfl 134 (.tmp 4) (.tmp 31) rfl w.heap.size #[.int .i64 0, .slice none 0 0, .int .i64 0] rfl rfl 134 _ hb4 size_rfi rfl (by simp [Value.oneCell']) ?_)
    refine bodyPost_ret (results_row_tmp rfl _ _ w.heap.size 134 #[.int .i64 0, .slice none 0 0, .int .i64 0] (0, 0) _ (.int .i64 7) rfl rfl (setRow_heap _ _ _ _ _ _ hb4) Tryz.underlying134 size_rfi) rfl ?_
    rw [HDD.out]
    exact ⟨⟨_, rfl, IsData.nil _ _⟩, readBlockR H04.out hb4⟩
   | true =>
    have HDD : Hid (readM m path = (m1, fi, 0)) := HDE.out
    clear HDE HZ
    go_wp2_with (first
     | (refine wpList_load_row rfl 134 (.tmp 8) rfl w3.heap.size rfl 134 _ (0, 0) _ hbv Tryz.underlying134 rfl size_rfi ?_)
     | (refine wpList_store_row rfl 134 (.tmp 4) (.tmp 32) rfl w.heap.size #[.int .i64 fi.mode, .slice c1 fi.data.length c2, .int .i64 fi.time] rfl rfl 134 _ hb4 size_rfi rfl (by simp [Value.oneCell']) ?_))
    refine bodyPost_ret (results_row_tmp rfl _ _ w.heap.size 134 #[.int .i64 fi.mode, .slice c1 fi.data.length c2, .int .i64 fi.time] (0, 0) _ (.int .i64 0) rfl rfl (setRow_heap _ _ _ _ _ _ hb4) Tryz.underlying134 size_rfi) rfl ?_
    rw [HDD.out]
    have hk4 : KeepB w3 _ := (KeepB.of_ext HX4.out).trans (KeepB.of_grown (setRow_grown _ w.heap.size #[.int .i64 fi.mode, .slice c1 fi.data.length c2, .int .i64 fi.time]) hb4 (by kernel_rfl))
    exact ⟨⟨_, rfl, (HV.out.keep hk4).mono (fun k hk => Nu.mono (by omega) hk4.1 hk)⟩, readBlockR H04.out hb4⟩
 ·have hb : (er == 0) = false := by simpa using her
  have hb' : (er != 0) = true := by simpa using her
  have HDD : Hid (readM m path = (m1, zeroFi, er)) := by unfold Hid; rw [HDEF.out]; simp [her]
  clear her HDEF
  go_wp2_with (refine wpList_store_row rfl 134 (.tmp 4) (.tmp 17) rfl w.heap.size #[.int .i64 0, .slice none 0 0, .int .i64 0] rfl rfl 134 _ hb1 size_rfi rfl (by simp [Value.oneCell']) ?_)
  refine bodyPost_ret (results_row_tmp rfl _ _ w.heap.size 134 #[.int .i64 0, .slice none 0 0, .int .i64 0] (0, 0) _ (.int .i64 er) rfl rfl (setRow_heap _ _ _ _ _ _ hb1) Tryz.underlying134 size_rfi) rfl ?_
  rw [HDD.out]
  exact ⟨⟨_, rfl, IsData.nil _ _⟩, readBlockR H0.out hb1⟩

end Go.Proofs.YtfimfbdlegookaaGreatDoor

/-! marref6: expected, GetRef. Conditions: as each theorem states. -/
namespace Go.Proofs.YtfimfbdlegookaaGreatDoor
open Go Go.RowKit
set_option linter.unusedVariables false
set_option linter.unusedSimpArgs false
set_option linter.unusedSectionVars false
variable [Inhabited BaseW]

/-- The document's file system behind some steps of a walk. -/
structure ThruR (O R : Nat → Prop) (w : World) (p : Value) (m : Fs) (O1 R1 : Nat → Prop) (w1 : World) : Prop where
 fin : RefIn O1 R1 w1 p m
 fr : Fr O w w1
 sub : ∀ k, O1 k → Nw O w w1 k
 subR : ∀ k, R1 k → Nw R w w1 k
section
variable {O R O1 R1 : Nat → Prop} {w w1 w2 : World} {p : Value} {m m' : Fs}
theorem ThruR.start (h : RefIn O R w p m) : ThruR O R w p m O R w := ⟨h, Fr.refl _ _, fun _ hk => .inl hk, fun _ hk => .inl hk⟩
theorem ThruR.more (h : ThruR O R w p m O1 R1 w1) (hx : Ext w1 w2) : ThruR O R w p m O1 R1 w2 := by
 have hs := hx.size
 exact ⟨h.fin.ext hx, h.fr.trans (Fr.of_ext hx), fun k hk => (h.sub k hk).fst hs, fun k hk => (h.subR k hk).fst hs⟩
theorem ThruR.post (h : ThruR O R w p m O1 R1 w1) (hp : RefPost O1 R1 w1 p m' w2) (hf : Fit m') : ThruR O R w p m' (Nw O1 w1 w2) (Nw R1 w1 w2) w2 := by
 have hs := hp.fr.size
 have hs0 := h.fr.size
 have hi := h.fin
 have hb := hi.base.size
 refine ⟨⟨hp.fs, hf.ok, hf.plan, hf.time, hf.calls, ?_, Ext.of_fr hi.base hp.fr hi.high, ?_, hf.room0, hf.room1⟩, h.fr.trans (hp.fr.mono h.sub), ?_, ?_⟩
 ·intro k hk
  rcases hk with hk | hk
  ·have := hi.low k hk; omega
  ·exact hk.2
 ·intro k hk
  rcases hk with hk | hk
  ·exact hi.high k hk
  ·omega
 ·intro k hk
  exact Nw.nw hs0 hs (hk.imp (h.sub k) id)
 ·intro k hk
  exact Nw.nw hs0 hs (hk.imp (h.subR k) id)
theorem ThruR.out (h : ThruR O R w p m O1 R1 w1) : RefPost O R w p m w1 := ⟨h.fin.fs.mono h.sub h.subR, h.fr⟩
end
theorem line_bytes (l : B8) : ((⟨l.toArray⟩ : ByteArray) ++ ⟨#[10]⟩) = ⟨(lineM l).toArray⟩ := by
 apply ByteArray.ext
 rw [ByteArray.data_append]
 simp [lineM]

set_option maxRecDepth 100000 in
set_option maxHeartbeats 2000000 in
theorem expectedR_any {O R : Nat → Prop} {w : World} {p : Value} {m : Fs} (name old : B8) (h : RefIn O R w p m) (hn : name.length ≤ 100) (hol : old.length ≤ 1000000) :
  Calls Tryz.prog 80 #[p, S8 name, S8 old] w fun e w' => e = .returned (.int .i64 (expectM m name old).2) ∧ RefPost O R w p (expectM m name old).1 w' := by
 have hpl : (placeP name).length ≤ 400 := by unfold placeP; simp; omega
 have HR : Hid _ := readR_any (placeP name) h hpl
 unfold expectM
 obtain ⟨⟨m1, fx, er⟩, hrd⟩ : ∃ q, readM m (placeP name) = q := ⟨_, rfl⟩
 rw [hrd] at HR ⊢
 clear hrd h
 go_enter Tryz.func80, Tryz.ntmps80
 go_wp2_with fail
 go_at_call 77
 refine Calls.mono HR.out ?_
 rintro e w1 ⟨⟨v, rfl, hd⟩, hp1⟩
 try dsimp only at hd hp1
 have hdb := hd.bytes
 obtain ⟨s1, t1, rfl, -⟩ := hdb
 try dsimp only
 go_upto_region 2 with fail
 obtain ⟨w2, hw2⟩ : ∃ wq, wq = w1.alloc (.cells #[.int .i64 fx.mode, .slice s1 fx.data.length t1, .int .i64 fx.time] 134) := ⟨_, rfl⟩
 rw [← hw2]
 have hx2 : Ext w1 w2 := by rw [hw2]; exact (Ext.refl _).alloc _
 have hb2 : w2.heap[w1.heap.size]? = some (.cells #[.int .i64 fx.mode, .slice s1 fx.data.length t1, .int .i64 fx.time] 134 (0, 0)) := by rw [hw2]; exact alloc_at _ _
 have HP : Hid _ := RefPost.ext hp1 hx2
 have hcv := conv_bytes (IsData.ext hd hx2).bytes
 obtain ⟨c0, c1, c2⟩ := cellsAt3 hb2
 clear hw2 hb2 hd hp1 HR hx2
 try dsimp only
 by_cases h7 : er = 7
 ·subst h7
  by_cases hoe : old = []
  ·subst hoe
   go_wp2
   go_ret
   exact ⟨rfl, HP.out⟩
  ·have hne : (old == ([] : B8)) = false := by simpa using hoe
   have HEE : Hid (expectE (fx, 7) old = 13) := by unfold Hid expectE; simp [hoe]
   clear hoe
   go_wp2
   go_ret
   rw [HEE.out]
   exact ⟨rfl, HP.out⟩
 ·have b7 : (er == 7) = false := by simpa using h7
  by_cases h0 : er = 0
  ·subst h0
   by_cases hoe : old = []
   ·subst hoe
    have he : expectE (fx, 0) [] = 13 := rfl
    have HEE : Hid _ := he
    clear he h7 b7
    go_wp2
    go_ret
    rw [HEE.out]
    exact ⟨rfl, HP.out⟩
   ·have hne : (old == ([] : B8)) = false := by simpa using hoe
    have hne2 : old ≠ [] := hoe
    clear hoe
    obtain ⟨bq, hbq⟩ : ∃ bq, (fx.data == lineM old) = bq := ⟨_, rfl⟩
    have he : expectE (fx, 0) old = if bq then 0 else 13 := by
     unfold expectE
     simp only [ne_eq]
     rw [if_neg (by decide), if_neg (by decide)]
     cases bq with
     | true =>
      have : fx.data = lineM old := by simpa using hbq
      rw [if_neg (fun hh => hh.elim (fun h => hne2 h) (fun h => h this))]
      rfl
     | false =>
      have : fx.data ≠ lineM old := by simpa using hbq
      rw [if_pos (.inr this)]
      rfl
    have HEE : Hid _ := he
    have hl1 : (fx.data == ((⟨old.toArray⟩ : ByteArray) ++ ⟨#[10]⟩).toList) = bq := by rw [line_bytes, ByteArray.toList_mk]; exact hbq
    have hl2 : (fx.data != ((⟨old.toArray⟩ : ByteArray) ++ ⟨#[10]⟩).toList) = !bq := by unfold bne; rw [hl1]
    clear he h7 b7 hbq hne2
    cases bq with
    | true =>
     go_wp2
     go_ret
     rw [HEE.out]
     exact ⟨rfl, HP.out⟩
    | false =>
     go_wp2
     go_ret
     rw [HEE.out]
     exact ⟨rfl, HP.out⟩
  ·have b0 : (er != 0) = true := by simpa using h0
   have he : expectE (fx, er) old = er := by
    unfold expectE
    simp only [ne_eq]
    rw [if_neg h7, if_pos h0]
   have HEE : Hid _ := he
   clear he h0 h7
   go_wp2
   go_ret
   rw [HEE.out]
   exact ⟨rfl, HP.out⟩

/-! ### What a ref's file says -/
theorem trim_64 {d : B8} (h1 : d.length = 65) (h2 : d.getD 64 0 = 10) : d = lineM (d.take 64) := by
 have h3 : d.drop 64 = [10] := by
  have hl : (d.drop 64).length = 1 := by rw [List.length_drop]; omega
  match hd : d.drop 64, hl with
  | [x], _ =>
   have h4 : d[64]? = some x := by
    have h5 := List.getElem?_drop (xs := d) (i := 64) (j := 0)
    rw [hd] at h5
    exact h5.symm
   rw [List.getD_eq_getElem?_getD, h4] at h2
   have : x = 10 := h2
   rw [this]
 unfold lineM
 rw [← h3, List.take_append_drop]
theorem getE_good {fx : Fi} (h1 : fx.data.length = 65) (h2 : fx.data.getD 64 0 = 10) (h3 : validB (fx.data.take 64) = true) : getE (fx, 0) = (fx.data.take 64, 0) := by
 have h4 := trim_64 h1 h2
 have h5 : Lib.trimSuffix fx.data [10] = fx.data.take 64 := by
  conv => lhs; rw [h4]
  exact trim_line
 unfold getE
 simp only [ne_eq, not_true_eq_false, if_false]
 rw [h5, if_neg ?_]
 rintro (h | h)
 ·rw [h3] at h; cases h
 ·exact h h4.symm
theorem getE_bad {fx : Fi} (h : ¬ (fx.data.length = 65 ∧ fx.data.getD 64 0 = 10 ∧ validB (fx.data.take 64) = true)) : getE (fx, 0) = ([], 4) := by
 unfold getE
 simp only [ne_eq, not_true_eq_false, if_false]
 by_cases hb : validB (Lib.trimSuffix fx.data [10]) = false ∨ ¬ lineM (Lib.trimSuffix fx.data [10]) = fx.data
 ·rw [if_pos hb]
 ·exfalso
  simp only [not_or, Bool.not_eq_false, Decidable.not_not] at hb
  obtain ⟨hv, hl⟩ := hb
  have h64 := (valid_len hv).1
  generalize Lib.trimSuffix fx.data [10] = t at *
  refine h ⟨by rw [← hl]; exact line_len hv, ?_, ?_⟩
  ·rw [← hl]
   unfold lineM
   rw [List.getD_eq_getElem?_getD, List.getElem?_append_right (by omega), h64]
   rfl
  ·rw [← hl]
   unfold lineM
   rw [List.take_left' h64]
   exact hv

set_option maxRecDepth 100000 in
set_option maxHeartbeats 2000000 in
theorem getR_any {O R : Nat → Prop} {w : World} {p : Value} {m : Fs} (name : B8) (h : RefIn O R w p m) (hn : name.length ≤ 1000000) :
  Calls Tryz.prog 31 #[p, S8 name] w fun e w' => e = .returned (.tuple #[S8 (getM m name).2.1, .int .i64 (getM m name).2.2]) ∧ RefPost O R w p (getM m name).1 w' := by
 have HI : Hid (RefIn O R w p m) := h
 clear h
 obtain ⟨nb, hnb⟩ : ∃ nb, nameB name = nb := ⟨_, rfl⟩
 have HNB : Hid _ := hnb
 clear hnb
 go_enter Tryz.func31, Tryz.ntmps31
 go_wp2_with fail
 go_at_call 76
 refine (rname_any name _ hn).mono ?_
 rw [HNB.out]
 rintro e w1 ⟨rfl, rfl⟩
 cases nb with
 | false =>
  have HM : Hid (getM m name = (m, [], 6)) := (by unfold Hid getM; rw [HNB.out]; rfl)
  go_wp2
  go_ret2
  rw [HM.out]
  exact ⟨rfl, RefPost.same HI.out.fs (Ext.refl _)⟩
 | true =>
  have hnl : name.length ≤ 64 := (lock_len HNB.out).2.2
  have hpl : (placeP name).length ≤ 400 := by unfold placeP; simp; omega
  have HR : Hid _ := readR_any (placeP name) HI.out hpl
  have HM : Hid (getM m name = ((readM m (placeP name)).1, getE (readM m (placeP name)).2)) := by unfold Hid getM; rw [HNB.out, if_neg (by simp)]
  obtain ⟨⟨m1, fx, er⟩, hrd⟩ : ∃ q, readM m (placeP name) = q := ⟨_, rfl⟩
  rw [hrd] at HR HM
  clear hrd
  go_wp2_with fail
  go_at_call 77
  refine Calls.mono HR.out ?_
  rintro e w1 ⟨⟨v, rfl, hd⟩, hp1⟩
  try dsimp only at hd hp1
  have hdb := hd.bytes
  obtain ⟨s1, t1, rfl, -⟩ := hdb
  try dsimp only
  go_upto_region 4 with fail
  obtain ⟨w2, hw2⟩ : ∃ wq, wq = w1.alloc (.cells #[.int .i64 fx.mode, .slice s1 fx.data.length t1, .int .i64 fx.time] 134) := ⟨_, rfl⟩
  rw [← hw2]
  have hx2 : Ext w1 w2 := by rw [hw2]; exact (Ext.refl _).alloc _
  have hb2 : w2.heap[w1.heap.size]? = some (.cells #[.int .i64 fx.mode, .slice s1 fx.data.length t1, .int .i64 fx.time] 134 (0, 0)) := by rw [hw2]; exact alloc_at _ _
  have HP : Hid _ := RefPost.ext hp1 hx2
  have HD : Hid (IsData _ w2 (.slice s1 fx.data.length t1) fx.data) := IsData.ext hd hx2
  obtain ⟨c0, c1, c2⟩ := cellsAt3 hb2
  clear hw2 hb2 hd hp1 HR hx2
  try dsimp only
  by_cases h0 : er = 0
  case neg =>
   have b0 : (er != 0) = true := by simpa using h0
   have HM2 : Hid (getM m name = (m1, [], er)) := by unfold Hid; rw [HM.out]; unfold getE; rw [if_pos h0]
   clear h0
   go_wp2
   go_ret2
   rw [HM2.out]
   exact ⟨rfl, HP.out⟩
  subst h0
  by_cases h65 : fx.data.length = 65
  case neg =>
   have b65 : ((fx.data.length : Int) != 65) = true := by simp; omega
   have b65' : ((fx.data.length : Int) == 65) = false := by simp; omega
   have HM2 : Hid (getM m name = (m1, [], 4)) := by unfold Hid; rw [HM.out, getE_bad (fun h => h65 h.1)]
   clear h65
   go_wp2
   go_ret2
   rw [HM2.out]
   exact ⟨rfl, HP.out⟩
  have HL : Hid _ := h65
  have hdl : (fx.data.length : Int) = 65 := by omega
  have hrow := HD.out.bytes
  obtain ⟨x, hx⟩ : ∃ x, fx.data.getD 64 0 = x := ⟨_, rfl⟩
  have HXD : Hid _ := hx
  obtain ⟨sb, so, rfl, hcx, hcap⟩ : ∃ sb so, s1 = some ⟨sb, so, none⟩ ∧ w2.cell? ⟨sb, so + 64, none⟩ = some (.int .u8 (x.toNat : Int)) ∧ fx.data.length ≤ t1 := by
   obtain ⟨a', c', he, l1, -, -, hg⟩ := hrow.get
   cases he
   obtain ⟨bb, oo, rfl, hc⟩ := hg 64 (by omega)
   have := hc 64 (by omega)
   rw [hx] at this
   exact ⟨bb, oo, rfl, this, l1⟩
  rw [HL.out] at hcap
  clear hx hrow h65
  by_cases hx10 : x = 10
  case neg =>
   have b10 : ((x.toNat : Int) != 10) = true := by
    simp only [bne_iff_ne, ne_eq]
    exact fun h => hx10 (UInt8.toNat_inj.1 (by show x.toNat = 10; omega))
   have b10' : ((x.toNat : Int) == 10) = false := by
    simp only [beq_eq_false_iff_ne, ne_eq]
    exact fun h => hx10 (UInt8.toNat_inj.1 (by show x.toNat = 10; omega))
   have HM2 : Hid (getM m name = (m1, [], 4)) := by unfold Hid; rw [HM.out, getE_bad (fun h => hx10 (HXD.out.symm.trans h.2.1))]
   clear hx10
   go_wp2
   go_ret2
   rw [HM2.out]
   exact ⟨rfl, HP.out⟩
  subst hx10
  have hcv := conv_bytes (IsData.takeN (n := 64) HD.out (by have := HL.out; omega))
  obtain ⟨t, ht⟩ : ∃ t, fx.data.take 64 = t := ⟨_, rfl⟩
  rw [ht] at hcv
  have htl : t.length ≤ 64 := by rw [← ht]; exact List.length_take_le _ _
  have HT : Hid _ := ht
  obtain ⟨vb, hvb⟩ : ∃ vb, validB t = vb := ⟨_, rfl⟩
  have HVB : Hid _ := hvb
  clear ht hvb
  go_wp2_with fail
  go_at_call 78
  refine (rvalid_any t w2 (by omega)).mono ?_
  rw [HVB.out]
  rintro e w3 ⟨rfl, hx3⟩
  have HP3 : Hid _ := RefPost.ext HP.out hx3
  have c13 := hx3.cell c1
  have hcv3 := conv_bytes (IsData.takeN (n := 64) (IsData.ext HD.out hx3) (by have := HL.out; omega))
  rw [HT.out] at hcv3
  clear hx3 hcv c0 c1 c2
  cases vb with
  | false =>
   have HM2 : Hid (getM m name = (m1, [], 4)) := by unfold Hid; rw [HM.out, getE_bad (fun h => by have h9 := h.2.2; rw [HT.out, HVB.out] at h9; cases h9)]
   go_wp2
   go_ret2
   rw [HM2.out]
   exact ⟨rfl, HP3.out⟩
  | true =>
   have HM2 : Hid (getM m name = (m1, t, 0)) := by unfold Hid; rw [HM.out, getE_good HL.out HXD.out (by rw [HT.out]; exact HVB.out), HT.out]
   go_wp2
   go_ret2
   rw [HM2.out]
   exact ⟨rfl, HP3.out⟩

end Go.Proofs.YtfimfbdlegookaaGreatDoor
