/- marlaw5.Same: both file systems stand alike where both read as the same. Conditions: what holds of a file system at all times. -/
import Derived.Test.YtfimfbdlegookaaGreatDoorZak
import Derived.Test.YtfimfbdlegookaaGreatDoorZah
import Derived.Deep.DeepCutAuto
import Derived.Test.YtfimfbdlegookaaGreatDoorZae
import Derived.Deep.QuietTactic
import Derived.BigQuiet

set_option linter.unusedVariables false
set_option linter.unusedSimpArgs false
set_option linter.unusedSectionVars false

/-! marlaw5.Does: Read. Conditions: as each theorem states. -/
namespace Go.Proofs.YtfimfbdlegookaaGreatDoor
open Go Go.RowKit
variable [Inhabited BaseW]

set_option maxRecDepth 100000 in
set_option maxHeartbeats 8000000 in
theorem does_k6 {w0 w : World} {S O O' : Nat → Prop} {fv xv : Value} {m m2 : Fs} {n : Nat} {cs : List Value} {mode keep torn : Int} {path dest data : B8} {plan : List Ev} (hT : Two2 w0 S O O' w fv xv m m2) (hE : Env w0) (hg : Good n m) (hg2 : Good n m2) (hn : n ≤ 1000) (ho : IsOpn w0 cs ⟨6, mode, keep, torn, path, dest, data, plan⟩) (hok : OpOk ⟨6, mode, keep, torn, path, dest, data, plan⟩) :
  Calls Tryz.prog 37 #[fv, xv, .agg cs.toArray] w (DoesPost2 w0 S O O' fv xv m m2 (readM m path).1 (readM m2 path).1 w) := by
 obtain ⟨vd, vp, rfl, hd, hpl⟩ := ho
 obtain ⟨da, dc, rfl, -⟩ := id hd.bytes
 obtain ⟨_, ⟨pa, pc, rfl, -⟩, -⟩ := id hpl
 simp only at hd hpl
 have hp := hok.path
 have hq := hok.dest
 have hkp := hok.keep
 have htn := hok.torn
 have hfw := hok.few
 simp only at hp hq hkp htn hfw
 have hx0 := hT.ext
 have hba := hT.base
 obtain ⟨gf, hgf⟩ : ∃ g, fv = .pointer (some ⟨g, 0, none⟩) := by
  obtain ⟨g, gm, gd, vp, vl, vu, L, c0, hpe, -⟩ := hT.fs
  exact ⟨g, hpe⟩
 subst hgf
 obtain ⟨gx, rfl⟩ := hT.ref.ptr
 obtain ⟨wb, hwb⟩ : ∃ wb, wb = w.alloc (.cells #[.int .i64 6, .int .i64 mode, .int .i64 keep, .int .i64 torn, S8 path, S8 dest, .slice da data.length dc, .slice pa plan.length pc] 34) := ⟨_, rfl⟩
 have hxb : Ext w wb := by rw [hwb]; exact (Ext.refl _).alloc _
 have hbb : wb.heap[w.heap.size]? = some (.cells #[.int .i64 6, .int .i64 mode, .int .i64 keep, .int .i64 torn, S8 path, S8 dest, .slice da data.length dc, .slice pa plan.length pc] 34 (0, 0)) := by rw [hwb]; exact alloc_at _ _
 obtain ⟨b0, b1, b2, b3, b4, b5, b6, b7⟩ := cellsAt8 hbb
 have hsb : w.heap.size < wb.heap.size := by rw [hwb]; simp
 have HT : Hid _ := hT
 have HE : Hid _ := hE
 have HG : Hid _ := hg
 have HG2 : Hid _ := hg2
 have HWB : Hid _ := hwb
 have HXB : Hid _ := hxb
 have HBB : Hid _ := hbb
 have HD0 : Hid (OldB (.slice da data.length dc) data) := hd
 have HBA : Hid _ := hba
 have HX0 : Hid _ := hx0
 have HPL : Hid (ReadO w0 IsEvI (.slice pa plan.length pc) plan) := hpl
 have HDB : Hid _ := OldB.at hd ((hba.trans hx0).trans hxb)
 have HOKK : Hid _ := hok
 clear hT hE hg hg2 hwb hxb hbb hd hx0 hba hpl hok
 go_enter Tryz.func37, Tryz.ntmps37
 go_upto_region 1 with fail
 rw [show w.alloc (.cells #[.int .i64 6, .int .i64 mode, .int .i64 keep, .int .i64 torn, S8 path, S8 dest, .slice da data.length dc, .slice pa plan.length pc] 34) = wb from HWB.out.symm]
 go_wp2_with fail
 go_at_call 87
 refine (copyB_own _ data _ HDB.out).mono ?_
 rintro e w1 ⟨⟨vin, rfl, hin⟩, hx1⟩
 obtain ⟨ia, ic, hie, -⟩ := Row.of_owns hin HD0.out.bytes.len
 subst hie
 have HIN : Hid (IsBytes w1 (.slice ia data.length ic) data) := Row.of_owns hin HD0.out.bytes.len
 have HTI : Hid (TypB w1 (.slice ia data.length ic)) := TypB.of_owns hin
 have HOI : Hid _ := hin
 have hx01 : Ext w w1 := Ext.trans HXB.out hx1
 have HP : Hid (Pair S O O' (fun k => k < w.heap.size) w1 (.pointer (some ⟨gf, 0, none⟩)) (.pointer (some ⟨gx, 0, none⟩)) m m2) := Two2.pair HT.out HE.out HG.out HG2.out hn hx01
 have HNG : Hid _ := (Two2.noG HT.out HE.out).2
 have HB1 : Hid _ := hx1.row HBB.out
 have HNO : Hid (¬ O w.heap.size ∧ ¬ O' w.heap.size) := ⟨fun h => by have := HT.out.lo _ h; omega, fun h => by have := HT.out.lo' _ h; omega⟩
 have HB0 : Hid (Ext baseW w1) := Ext.trans (Ext.trans HBA.out HX0.out) hx01
 have HD1 : Hid (IsBytes w1 (.slice da data.length dc) data) := OldB.at HD0.out HB0.out
 have HX01 : Hid _ := hx01
 have htm := HG.out.time
 have hcl := HG.out.calls
 have htm2 := HG2.out.time
 have hcl2 := HG2.out.calls
 obtain ⟨er, her⟩ : ∃ er, (readM m path).2.2 = er := ⟨_, rfl⟩
 have HER : Hid _ := her
 obtain ⟨er2, her2⟩ : ∃ er, (readM m2 path).2.2 = er := ⟨_, rfl⟩
 have HER2 : Hid _ := her2
 obtain ⟨okb, hokb⟩ : ∃ okb, (er == er2) = okb := ⟨_, rfl⟩
 have HOKB : Hid (m = m2 → okb = true) := fun h => by rw [← hokb, ← her, ← her2, h]; simp
 clear her her2
 obtain ⟨m', hm'⟩ : ∃ m', (readM m path).1 = m' := ⟨_, rfl⟩
 have HM : Hid _ := hm'
 obtain ⟨m2', hm2'⟩ : ∃ m', (readM m2 path).1 = m' := ⟨_, rfl⟩
 have HM2 : Hid _ := hm2'
 replace b0 := hx1.cell b0
 have hsz1 := hx1.size
 clear hin hx1 hx01 hm' hm2' b1 b2 b3 b4 b5 b6 b7
 obtain ⟨fi, hfi⟩ : ∃ fi, (readM m path).2.1 = fi := ⟨_, rfl⟩
 have HFI : Hid _ := hfi
 obtain ⟨fj, hfj⟩ : ∃ fi, (readM m2 path).2.1 = fi := ⟨_, rfl⟩
 have HFJ : Hid _ := hfj
 have HFE : Hid (m = m2 → fi = fj) := fun h => by rw [← hfi, ← hfj, h]
 clear hfi hfj
 go_upto_region 17 with fail
 have HJ0 : Hid (DJ S O O' (fun k => k < w.heap.size) w1 (.pointer (some ⟨gf, 0, none⟩)) (.pointer (some ⟨gx, 0, none⟩)) m' m2' (fun _ => True) (fun _ => True) none none w1) := DJ.start (Ext.refl _)
 obtain ⟨c0, c1, c2, c3, c4, c5, c6, c7⟩ := cellsAt8 HB1.out
 go_wp2_with fail
 go_at_call 68
 refine (read_any path (DJ.fin HP.out HNG.out HJ0.out) hp).mono ?_
 rw [HFI.out, HER.out]
 rintro e wf ⟨⟨v, rfl, hv⟩, h4⟩
 rw [HM.out] at h4
 obtain ⟨va, vc, rfl, -⟩ := id hv.bytes
 have HJF : Hid (DJ S O O' (fun k => k < w.heap.size) w1 (.pointer (some ⟨gf, 0, none⟩)) (.pointer (some ⟨gx, 0, none⟩)) m' m2' (fun _ => True) (fun _ => True) (some (.bool true)) none wf) := DJ.setF HP.out HJ0.out trivial h4
 have hsf := h4.fr.size
 obtain ⟨wg, hwg⟩ : ∃ wg, wg = wf.alloc (.cells #[.int .i64 fi.mode, .slice va fi.data.length vc, .int .i64 fi.time] 76) := ⟨_, rfl⟩
 have hxg : Ext wf wg := by rw [hwg]; exact (Ext.refl _).alloc _
 have hbg : wg.heap[wf.heap.size]? = some (.cells #[.int .i64 fi.mode, .slice va fi.data.length vc, .int .i64 fi.time] 76 (0, 0)) := by rw [hwg]; exact alloc_at _ _
 have HJG : Hid (DJ S O O' (fun k => k < w.heap.size) w1 (.pointer (some ⟨gf, 0, none⟩)) (.pointer (some ⟨gx, 0, none⟩)) m' m2' (fun _ => True) (fun _ => True) (some (.bool true)) none wg) := DJ.more HJF.out hxg
 have HWG : Hid _ := hwg
 have HVG : Hid _ := IsData.ext hv hxg
 obtain ⟨c0, c1, c2, c3, c4, c5, c6, c7⟩ := cellsAt8 (DJ.row HJG.out HB1.out HNO.out.1 HNO.out.2)
 clear h4 hwg hv hxg
 go_upto_region 18 with fail
 rw [show wf.alloc (.cells #[.int .i64 fi.mode, .slice va fi.data.length vc, .int .i64 fi.time] 76) = wg from HWG.out.symm]
 go_wp2_with fail
 go_at_call 77
 refine (readR_any path (DJ.rin HP.out HJG.out) hp).mono ?_
 rw [HFJ.out, HER2.out]
 rintro e wr2 ⟨⟨v2, rfl, hv2⟩, h5⟩
 rw [HM2.out] at h5
 obtain ⟨ua, uc, rfl, -⟩ := id hv2.bytes
 have hbg2 := h5.fr.row hbg (fun ho => by have := HP.out.rin.low _ ho; omega)
 have HV2 : Hid (IsBytes wr2 (.slice va fi.data.length vc) fi.data) := Row.keepB HVG.out.bytes HVG.out.typed h5.fr.keep
 have HJX : Hid (DJ S O O' (fun k => k < w.heap.size) w1 (.pointer (some ⟨gf, 0, none⟩)) (.pointer (some ⟨gx, 0, none⟩)) m' m2' (fun _ => True) (fun _ => True) (some (.bool true)) (some (.bool true)) wr2) := DJ.setR HP.out HJG.out trivial h5
 obtain ⟨wh, hwh⟩ : ∃ wh, wh = wr2.alloc (.cells #[.int .i64 fj.mode, .slice ua fj.data.length uc, .int .i64 fj.time] 134) := ⟨_, rfl⟩
 have hxh : Ext wr2 wh := by rw [hwh]; exact (Ext.refl _).alloc _
 have hbh : wh.heap[wr2.heap.size]? = some (.cells #[.int .i64 fj.mode, .slice ua fj.data.length uc, .int .i64 fj.time] 134 (0, 0)) := by rw [hwh]; exact alloc_at _ _
 obtain ⟨y0, y1, y2⟩ := cellsAt3 hbh
 obtain ⟨q0, q1, q2⟩ := cellsAt3 (hxh.row hbg2)
 have HWH : Hid _ := hwh
 have HXH : Hid _ := hxh
 have HVH : Hid _ := IsBytes.ext HV2.out hxh
 have HUH : Hid _ := IsBytes.ext hv2.bytes hxh
 clear h5 hwh hv2 hxh hbg hbg2 hbh c0 c1 c2 c3 c4 c5 c6 c7
 go_upto_region 19 with fail
 rw [show wr2.alloc (.cells #[.int .i64 fj.mode, .slice ua fj.data.length uc, .int .i64 fj.time] 134) = wh from HWH.out.symm]
 go_wp2_with fail
 go_at_call 92
 refine (file_any fi fj _ _ _ HVH.out HUH.out).mono ?_
 rintro e w2 ⟨⟨r, rfl, hr⟩, hx2⟩
 have HRR : Hid (m = m2 → r = true) := fun h => hr (HFE.out h)
 obtain ⟨-, -, hboth⟩ := DJ.more HJX.out (Ext.trans HXH.out hx2)
 clear hx2 y0 y1 y2 q0 q1 q2
 cases r with
 | false =>
  have HBO : Hid _ := hboth
  have hb2 := hboth.fr.row HB1.out (fun h => h.elim HNO.out.1 HNO.out.2)
  obtain ⟨-, -, -, -, -, -, c6, -⟩ := cellsAt8 hb2
  have HBI : Hid (IsBytes w2 (.slice ia data.length ic) data) := Row.keepB HIN.out HTI.out hboth.fr.keep
  have HBD : Hid (IsBytes w2 (.slice da data.length dc) data) := OldB.at HD0.out (Ext.of_fr HB0.out hboth.fr (fun k hk => hk.elim (HP.out.high k) (HP.out.rin.high k)))
  have HOW : Hid (w2.ownsRow wb.heap.size 5 1 (.slice ia data.length ic) data.length (data.map fun x => .int .u8 x.toNat)) := by
   refine ⟨HOI.out.1, HOI.out.2.imp id ?_⟩
   rintro ⟨g, cap, cur, h1, h2, h3, h4⟩
   exact ⟨g, cap, cur, h1, h2, (hboth.fr.keep.2 _ ⟨_, _, _, h3, byt_u8⟩).trans h3, h4⟩
  have hdl := HD1.out.len
  have HIB : Hid (∀ k, (Value.slice ia data.length ic).ownBlock = some k → w.heap.size ≤ k ∧ k < w1.heap.size) := fun k hk => by
   have := World.ownsRow.lt HOI.out k hk
   omega
  clear hb2 hboth
  go_upto_region 37 with fail
  go_wp2_with fail
  go_at_call 100
  refine (bytesEq_any _ _ _ _ _ HBI.out HBD.out).mono ?_
  rw [beq_self_eq_true]
  rintro e w3 ⟨rfl, rfl⟩
  clear c6
  go_wp2_with fail
  go_loopw [17] (fun i wr => ∃ (k : Nat) (xs : List Value), k ≤ data.length ∧ i = .int .i64 k ∧ wr.ownsRow wb.heap.size 5 1 (.slice ia data.length ic) data.length xs ∧ U8s xs ∧ w3.grownBy wr (Value.slice ia data.length ic).ownBlock) (fun i _ => data.length - (intOf i).toNat)
  case atStart => exact ⟨0, _, Nat.zero_le _, rfl, HOW.out, U8s.map _, ⟨rfl, rfl, rfl, Nat.le_refl _, fun _ _ _ => rfl⟩⟩
  case round =>
   obtain ⟨k, ys, hk, rfl, hown, hu8, hgr⟩ := hrel
   have HOW3 : Hid _ := hown
   have HU : Hid _ := hu8
   have HGR : Hid _ := hgr
   have hyl : ys.length = data.length := by have := hown.1; omega
   clear hown hu8 hgr
   by_cases hlt : k < data.length
   ·obtain ⟨g, cap', hge⟩ := owns_some HOW3.out (by omega)
    simp only [Value.slice.injEq, true_and] at hge
    obtain ⟨rfl, rfl⟩ := hge
    obtain ⟨u, hu⟩ : ∃ u, ys[k]? = some u := ⟨_, List.getElem?_eq_getElem (by omega)⟩
    obtain ⟨b, hb, rfl⟩ := HU.out k u hu
    have hcell : wr.cell? ⟨g, k, none⟩ = some (.int .u8 b) := by
     rw [World.ownsRow.cellAt HOW3.out k (by omega)]
     exact hu
    have hfz := World.ownsRow.frozenAt HOW3.out k
    clear hu
    go_wp2
    go_roundw
    case rel =>
     obtain ⟨ho3, hg3⟩ := World.ownsRow.stored HOW3.out k (.int .u8 (((b : Int) + 1) % 256))
     refine ⟨k + 1, ys.set k (.int .u8 (((b : Int) + 1) % 256)), by omega, by go_num, ho3, ?_, HGR.out.trans hg3⟩
     have he : ((b : Int) + 1) % 256 = (((b + 1) % 256 : Nat) : Int) := by omega
     rw [he]
     exact U8s.set HU.out k _ (by omega)
    case measure => simp [intOf]; omega
   ·have hkk : k = data.length := by omega
    subst hkk
    go_wp2
    go_ret
    rw [HM.out, HM2.out]
    exact ⟨⟨_, rfl, HRR.out⟩, Two2.done HT.out HX01.out HBO.out HIB.out HGR.out⟩
 | true =>
  have HBO : Hid _ := hboth
  have hb2 := hboth.fr.row HB1.out (fun h => h.elim HNO.out.1 HNO.out.2)
  obtain ⟨-, -, -, -, -, -, c6, -⟩ := cellsAt8 hb2
  have HBI : Hid (IsBytes w2 (.slice ia data.length ic) data) := Row.keepB HIN.out HTI.out hboth.fr.keep
  have HBD : Hid (IsBytes w2 (.slice da data.length dc) data) := OldB.at HD0.out (Ext.of_fr HB0.out hboth.fr (fun k hk => hk.elim (HP.out.high k) (HP.out.rin.high k)))
  have HOW : Hid (w2.ownsRow wb.heap.size 5 1 (.slice ia data.length ic) data.length (data.map fun x => .int .u8 x.toNat)) := by
   refine ⟨HOI.out.1, HOI.out.2.imp id ?_⟩
   rintro ⟨g, cap, cur, h1, h2, h3, h4⟩
   exact ⟨g, cap, cur, h1, h2, (hboth.fr.keep.2 _ ⟨_, _, _, h3, byt_u8⟩).trans h3, h4⟩
  have hdl := HD1.out.len
  have HIB : Hid (∀ k, (Value.slice ia data.length ic).ownBlock = some k → w.heap.size ≤ k ∧ k < w1.heap.size) := fun k hk => by
   have := World.ownsRow.lt HOI.out k hk
   omega
  clear hb2 hboth
  go_upto_region 37 with fail
  go_wp2_with fail
  go_at_call 100
  refine (bytesEq_any _ _ _ _ _ HBI.out HBD.out).mono ?_
  rw [beq_self_eq_true]
  rintro e w3 ⟨rfl, rfl⟩
  clear c6
  go_wp2_with fail
  go_loopw [17] (fun i wr => ∃ (k : Nat) (xs : List Value), k ≤ data.length ∧ i = .int .i64 k ∧ wr.ownsRow wb.heap.size 5 1 (.slice ia data.length ic) data.length xs ∧ U8s xs ∧ w3.grownBy wr (Value.slice ia data.length ic).ownBlock) (fun i _ => data.length - (intOf i).toNat)
  case atStart => exact ⟨0, _, Nat.zero_le _, rfl, HOW.out, U8s.map _, ⟨rfl, rfl, rfl, Nat.le_refl _, fun _ _ _ => rfl⟩⟩
  case round =>
   obtain ⟨k, ys, hk, rfl, hown, hu8, hgr⟩ := hrel
   have HOW3 : Hid _ := hown
   have HU : Hid _ := hu8
   have HGR : Hid _ := hgr
   have hyl : ys.length = data.length := by have := hown.1; omega
   clear hown hu8 hgr
   by_cases hlt : k < data.length
   ·obtain ⟨g, cap', hge⟩ := owns_some HOW3.out (by omega)
    simp only [Value.slice.injEq, true_and] at hge
    obtain ⟨rfl, rfl⟩ := hge
    obtain ⟨u, hu⟩ : ∃ u, ys[k]? = some u := ⟨_, List.getElem?_eq_getElem (by omega)⟩
    obtain ⟨b, hb, rfl⟩ := HU.out k u hu
    have hcell : wr.cell? ⟨g, k, none⟩ = some (.int .u8 b) := by
     rw [World.ownsRow.cellAt HOW3.out k (by omega)]
     exact hu
    have hfz := World.ownsRow.frozenAt HOW3.out k
    clear hu
    go_wp2
    go_roundw
    case rel =>
     obtain ⟨ho3, hg3⟩ := World.ownsRow.stored HOW3.out k (.int .u8 (((b : Int) + 1) % 256))
     refine ⟨k + 1, ys.set k (.int .u8 (((b : Int) + 1) % 256)), by omega, by go_num, ho3, ?_, HGR.out.trans hg3⟩
     have he : ((b : Int) + 1) % 256 = (((b + 1) % 256 : Nat) : Int) := by omega
     rw [he]
     exact U8s.set HU.out k _ (by omega)
    case measure => simp [intOf]; omega
   ·have hkk : k = data.length := by omega
    subst hkk
    go_wp2
    go_ret
    rw [HM.out, HM2.out]
    exact ⟨⟨_, rfl, HOKB.out⟩, Two2.done HT.out HX01.out HBO.out HIB.out HGR.out⟩

end Go.Proofs.YtfimfbdlegookaaGreatDoor

/-! marlaw5.Does: List. Conditions: as each theorem states. -/
namespace Go.Proofs.YtfimfbdlegookaaGreatDoor
open Go Go.RowKit
variable [Inhabited BaseW]

set_option maxRecDepth 100000 in
set_option maxHeartbeats 8000000 in
theorem does_k7 {w0 w : World} {S O O' : Nat → Prop} {fv xv : Value} {m m2 : Fs} {n : Nat} {cs : List Value} {mode keep torn : Int} {path dest data : B8} {plan : List Ev} (hT : Two2 w0 S O O' w fv xv m m2) (hE : Env w0) (hg : Good n m) (hg2 : Good n m2) (hn : n ≤ 1000) (ho : IsOpn w0 cs ⟨7, mode, keep, torn, path, dest, data, plan⟩) (hok : OpOk ⟨7, mode, keep, torn, path, dest, data, plan⟩) :
  Calls Tryz.prog 37 #[fv, xv, .agg cs.toArray] w (DoesPost2 w0 S O O' fv xv m m2 (listM m path).1 (listM m2 path).1 w) := by
 obtain ⟨vd, vp, rfl, hd, hpl⟩ := ho
 obtain ⟨da, dc, rfl, -⟩ := id hd.bytes
 obtain ⟨_, ⟨pa, pc, rfl, -⟩, -⟩ := id hpl
 simp only at hd hpl
 have hp := hok.path
 have hq := hok.dest
 have hkp := hok.keep
 have htn := hok.torn
 have hfw := hok.few
 simp only at hp hq hkp htn hfw
 have hx0 := hT.ext
 have hba := hT.base
 obtain ⟨gf, hgf⟩ : ∃ g, fv = .pointer (some ⟨g, 0, none⟩) := by
  obtain ⟨g, gm, gd, vp, vl, vu, L, c0, hpe, -⟩ := hT.fs
  exact ⟨g, hpe⟩
 subst hgf
 obtain ⟨gx, rfl⟩ := hT.ref.ptr
 obtain ⟨wb, hwb⟩ : ∃ wb, wb = w.alloc (.cells #[.int .i64 7, .int .i64 mode, .int .i64 keep, .int .i64 torn, S8 path, S8 dest, .slice da data.length dc, .slice pa plan.length pc] 34) := ⟨_, rfl⟩
 have hxb : Ext w wb := by rw [hwb]; exact (Ext.refl _).alloc _
 have hbb : wb.heap[w.heap.size]? = some (.cells #[.int .i64 7, .int .i64 mode, .int .i64 keep, .int .i64 torn, S8 path, S8 dest, .slice da data.length dc, .slice pa plan.length pc] 34 (0, 0)) := by rw [hwb]; exact alloc_at _ _
 obtain ⟨b0, b1, b2, b3, b4, b5, b6, b7⟩ := cellsAt8 hbb
 have hsb : w.heap.size < wb.heap.size := by rw [hwb]; simp
 have HT : Hid _ := hT
 have HE : Hid _ := hE
 have HG : Hid _ := hg
 have HG2 : Hid _ := hg2
 have HWB : Hid _ := hwb
 have HXB : Hid _ := hxb
 have HBB : Hid _ := hbb
 have HD0 : Hid (OldB (.slice da data.length dc) data) := hd
 have HBA : Hid _ := hba
 have HX0 : Hid _ := hx0
 have HPL : Hid (ReadO w0 IsEvI (.slice pa plan.length pc) plan) := hpl
 have HDB : Hid _ := OldB.at hd ((hba.trans hx0).trans hxb)
 have HOKK : Hid _ := hok
 clear hT hE hg hg2 hwb hxb hbb hd hx0 hba hpl hok
 go_enter Tryz.func37, Tryz.ntmps37
 go_upto_region 1 with fail
 rw [show w.alloc (.cells #[.int .i64 7, .int .i64 mode, .int .i64 keep, .int .i64 torn, S8 path, S8 dest, .slice da data.length dc, .slice pa plan.length pc] 34) = wb from HWB.out.symm]
 go_wp2_with fail
 go_at_call 87
 refine (copyB_own _ data _ HDB.out).mono ?_
 rintro e w1 ⟨⟨vin, rfl, hin⟩, hx1⟩
 obtain ⟨ia, ic, hie, -⟩ := Row.of_owns hin HD0.out.bytes.len
 subst hie
 have HIN : Hid (IsBytes w1 (.slice ia data.length ic) data) := Row.of_owns hin HD0.out.bytes.len
 have HTI : Hid (TypB w1 (.slice ia data.length ic)) := TypB.of_owns hin
 have HOI : Hid _ := hin
 have hx01 : Ext w w1 := Ext.trans HXB.out hx1
 have HP : Hid (Pair S O O' (fun k => k < w.heap.size) w1 (.pointer (some ⟨gf, 0, none⟩)) (.pointer (some ⟨gx, 0, none⟩)) m m2) := Two2.pair HT.out HE.out HG.out HG2.out hn hx01
 have HNG : Hid _ := (Two2.noG HT.out HE.out).2
 have HB1 : Hid _ := hx1.row HBB.out
 have HNO : Hid (¬ O w.heap.size ∧ ¬ O' w.heap.size) := ⟨fun h => by have := HT.out.lo _ h; omega, fun h => by have := HT.out.lo' _ h; omega⟩
 have HB0 : Hid (Ext baseW w1) := Ext.trans (Ext.trans HBA.out HX0.out) hx01
 have HD1 : Hid (IsBytes w1 (.slice da data.length dc) data) := OldB.at HD0.out HB0.out
 have HX01 : Hid _ := hx01
 have htm := HG.out.time
 have hcl := HG.out.calls
 have htm2 := HG2.out.time
 have hcl2 := HG2.out.calls
 obtain ⟨er, her⟩ : ∃ er, (listM m path).2.2 = er := ⟨_, rfl⟩
 have HER : Hid _ := her
 obtain ⟨er2, her2⟩ : ∃ er, (listM m2 path).2.2 = er := ⟨_, rfl⟩
 have HER2 : Hid _ := her2
 obtain ⟨okb, hokb⟩ : ∃ okb, (er == er2) = okb := ⟨_, rfl⟩
 have HOKB : Hid (m = m2 → okb = true) := fun h => by rw [← hokb, ← her, ← her2, h]; simp
 clear her her2
 obtain ⟨m', hm'⟩ : ∃ m', (listM m path).1 = m' := ⟨_, rfl⟩
 have HM : Hid _ := hm'
 obtain ⟨m2', hm2'⟩ : ∃ m', (listM m2 path).1 = m' := ⟨_, rfl⟩
 have HM2 : Hid _ := hm2'
 replace b0 := hx1.cell b0
 have hsz1 := hx1.size
 clear hin hx1 hx01 hm' hm2' b1 b2 b3 b4 b5 b6 b7
 obtain ⟨ls, hls⟩ : ∃ ls, (listM m path).2.1 = ls := ⟨_, rfl⟩
 have HLS : Hid _ := hls
 obtain ⟨lt, hlt⟩ : ∃ ls, (listM m2 path).2.1 = ls := ⟨_, rfl⟩
 have HLT : Hid _ := hlt
 have HLE : Hid (m = m2 → ls = lt) := fun h => by rw [← hls, ← hlt, h]
 clear hls hlt
 go_upto_region 21 with fail
 have HJ0 : Hid (DJ S O O' (fun k => k < w.heap.size) w1 (.pointer (some ⟨gf, 0, none⟩)) (.pointer (some ⟨gx, 0, none⟩)) m' m2' (fun _ => True) (fun _ => True) none none w1) := DJ.start (Ext.refl _)
 obtain ⟨c0, c1, c2, c3, c4, c5, c6, c7⟩ := cellsAt8 HB1.out
 go_wp2_with fail
 go_at_call 70
 refine (list_any path (DJ.fin HP.out HNG.out HJ0.out) hp).mono ?_
 rw [HLS.out, HER.out]
 rintro e wf ⟨⟨v, rfl, hv, hvn⟩, h4⟩
 rw [HM.out] at h4
 obtain ⟨va, vc, rfl, -⟩ := id hv
 have HJF : Hid (DJ S O O' (fun k => k < w.heap.size) w1 (.pointer (some ⟨gf, 0, none⟩)) (.pointer (some ⟨gx, 0, none⟩)) m' m2' (fun _ => True) (fun _ => True) (some (.bool true)) none wf) := DJ.setF HP.out HJ0.out trivial h4
 have HV : Hid _ := hv
 have HVN : Hid _ := hvn
 obtain ⟨c0, c1, c2, c3, c4, c5, c6, c7⟩ := cellsAt8 (DJ.row HJF.out HB1.out HNO.out.1 HNO.out.2)
 clear h4 hv hvn
 go_wp2_with fail
 go_at_call 84
 refine (listR_any path (DJ.rin HP.out HJF.out) hp).mono ?_
 rw [HLT.out, HER2.out]
 rintro e wr2 ⟨⟨v2, rfl, hv2⟩, h5⟩
 rw [HM2.out] at h5
 obtain ⟨ua, uc, rfl, -⟩ := id hv2
 have HVR : Hid (IsStrs wr2 (.slice va ls.length vc) ls) := by
  obtain ⟨a9, c9, he9, k1, k2, k3, k4⟩ := HV.out
  refine ⟨a9, c9, he9, k1, k2, k3, fun hne => ?_⟩
  obtain ⟨b, o, rfl, hc⟩ := k4 hne
  refine ⟨b, o, rfl, fun i u hu => ?_⟩
  have hcu := hc i u hu
  have hbn := HVN.out b (by rw [he9]; rfl)
  rw [World.cell?_of_block (w := wf) (w' := wr2) (a := ⟨b, o + i, none⟩) (h5.fr.block b (World.block_lt_of_cell? _ _ hcu) (.inl (fun ho => by have := HP.out.rin.low _ ho; omega)))]
  exact hcu
 have HUR : Hid _ := hv2
 have HJX : Hid (DJ S O O' (fun k => k < w.heap.size) w1 (.pointer (some ⟨gf, 0, none⟩)) (.pointer (some ⟨gx, 0, none⟩)) m' m2' (fun _ => True) (fun _ => True) (some (.bool true)) (some (.bool true)) wr2) := DJ.setR HP.out HJF.out trivial h5
 clear h5 hv2 c0 c1 c2 c3 c4 c5 c6 c7
 go_wp2_with fail
 go_at_call 35
 refine (texts_any _ _ _ _ _ HVR.out HUR.out).mono ?_
 obtain ⟨r, hr⟩ : ∃ r, (ls == lt) = r := ⟨_, rfl⟩
 rw [hr]
 have HRR : Hid (m = m2 → r = true) := fun h => by rw [← hr, HLE.out h]; simp
 clear hr
 rintro e w2 ⟨rfl, hx2⟩
 obtain ⟨-, -, hboth⟩ := DJ.more HJX.out hx2
 clear hx2
 cases r with
 | false =>
  have HBO : Hid _ := hboth
  have hb2 := hboth.fr.row HB1.out (fun h => h.elim HNO.out.1 HNO.out.2)
  obtain ⟨-, -, -, -, -, -, c6, -⟩ := cellsAt8 hb2
  have HBI : Hid (IsBytes w2 (.slice ia data.length ic) data) := Row.keepB HIN.out HTI.out hboth.fr.keep
  have HBD : Hid (IsBytes w2 (.slice da data.length dc) data) := OldB.at HD0.out (Ext.of_fr HB0.out hboth.fr (fun k hk => hk.elim (HP.out.high k) (HP.out.rin.high k)))
  have HOW : Hid (w2.ownsRow wb.heap.size 5 1 (.slice ia data.length ic) data.length (data.map fun x => .int .u8 x.toNat)) := by
   refine ⟨HOI.out.1, HOI.out.2.imp id ?_⟩
   rintro ⟨g, cap, cur, h1, h2, h3, h4⟩
   exact ⟨g, cap, cur, h1, h2, (hboth.fr.keep.2 _ ⟨_, _, _, h3, byt_u8⟩).trans h3, h4⟩
  have hdl := HD1.out.len
  have HIB : Hid (∀ k, (Value.slice ia data.length ic).ownBlock = some k → w.heap.size ≤ k ∧ k < w1.heap.size) := fun k hk => by
   have := World.ownsRow.lt HOI.out k hk
   omega
  clear hb2 hboth
  go_upto_region 37 with fail
  go_wp2_with fail
  go_at_call 100
  refine (bytesEq_any _ _ _ _ _ HBI.out HBD.out).mono ?_
  rw [beq_self_eq_true]
  rintro e w3 ⟨rfl, rfl⟩
  clear c6
  go_wp2_with fail
  go_loopw [17] (fun i wr => ∃ (k : Nat) (xs : List Value), k ≤ data.length ∧ i = .int .i64 k ∧ wr.ownsRow wb.heap.size 5 1 (.slice ia data.length ic) data.length xs ∧ U8s xs ∧ w3.grownBy wr (Value.slice ia data.length ic).ownBlock) (fun i _ => data.length - (intOf i).toNat)
  case atStart => exact ⟨0, _, Nat.zero_le _, rfl, HOW.out, U8s.map _, ⟨rfl, rfl, rfl, Nat.le_refl _, fun _ _ _ => rfl⟩⟩
  case round =>
   obtain ⟨k, ys, hk, rfl, hown, hu8, hgr⟩ := hrel
   have HOW3 : Hid _ := hown
   have HU : Hid _ := hu8
   have HGR : Hid _ := hgr
   have hyl : ys.length = data.length := by have := hown.1; omega
   clear hown hu8 hgr
   by_cases hlt : k < data.length
   ·obtain ⟨g, cap', hge⟩ := owns_some HOW3.out (by omega)
    simp only [Value.slice.injEq, true_and] at hge
    obtain ⟨rfl, rfl⟩ := hge
    obtain ⟨u, hu⟩ : ∃ u, ys[k]? = some u := ⟨_, List.getElem?_eq_getElem (by omega)⟩
    obtain ⟨b, hb, rfl⟩ := HU.out k u hu
    have hcell : wr.cell? ⟨g, k, none⟩ = some (.int .u8 b) := by
     rw [World.ownsRow.cellAt HOW3.out k (by omega)]
     exact hu
    have hfz := World.ownsRow.frozenAt HOW3.out k
    clear hu
    go_wp2
    go_roundw
    case rel =>
     obtain ⟨ho3, hg3⟩ := World.ownsRow.stored HOW3.out k (.int .u8 (((b : Int) + 1) % 256))
     refine ⟨k + 1, ys.set k (.int .u8 (((b : Int) + 1) % 256)), by omega, by go_num, ho3, ?_, HGR.out.trans hg3⟩
     have he : ((b : Int) + 1) % 256 = (((b + 1) % 256 : Nat) : Int) := by omega
     rw [he]
     exact U8s.set HU.out k _ (by omega)
    case measure => simp [intOf]; omega
   ·have hkk : k = data.length := by omega
    subst hkk
    go_wp2
    go_ret
    rw [HM.out, HM2.out]
    exact ⟨⟨_, rfl, HRR.out⟩, Two2.done HT.out HX01.out HBO.out HIB.out HGR.out⟩
 | true =>
  have HBO : Hid _ := hboth
  have hb2 := hboth.fr.row HB1.out (fun h => h.elim HNO.out.1 HNO.out.2)
  obtain ⟨-, -, -, -, -, -, c6, -⟩ := cellsAt8 hb2
  have HBI : Hid (IsBytes w2 (.slice ia data.length ic) data) := Row.keepB HIN.out HTI.out hboth.fr.keep
  have HBD : Hid (IsBytes w2 (.slice da data.length dc) data) := OldB.at HD0.out (Ext.of_fr HB0.out hboth.fr (fun k hk => hk.elim (HP.out.high k) (HP.out.rin.high k)))
  have HOW : Hid (w2.ownsRow wb.heap.size 5 1 (.slice ia data.length ic) data.length (data.map fun x => .int .u8 x.toNat)) := by
   refine ⟨HOI.out.1, HOI.out.2.imp id ?_⟩
   rintro ⟨g, cap, cur, h1, h2, h3, h4⟩
   exact ⟨g, cap, cur, h1, h2, (hboth.fr.keep.2 _ ⟨_, _, _, h3, byt_u8⟩).trans h3, h4⟩
  have hdl := HD1.out.len
  have HIB : Hid (∀ k, (Value.slice ia data.length ic).ownBlock = some k → w.heap.size ≤ k ∧ k < w1.heap.size) := fun k hk => by
   have := World.ownsRow.lt HOI.out k hk
   omega
  clear hb2 hboth
  go_upto_region 37 with fail
  go_wp2_with fail
  go_at_call 100
  refine (bytesEq_any _ _ _ _ _ HBI.out HBD.out).mono ?_
  rw [beq_self_eq_true]
  rintro e w3 ⟨rfl, rfl⟩
  clear c6
  go_wp2_with fail
  go_loopw [17] (fun i wr => ∃ (k : Nat) (xs : List Value), k ≤ data.length ∧ i = .int .i64 k ∧ wr.ownsRow wb.heap.size 5 1 (.slice ia data.length ic) data.length xs ∧ U8s xs ∧ w3.grownBy wr (Value.slice ia data.length ic).ownBlock) (fun i _ => data.length - (intOf i).toNat)
  case atStart => exact ⟨0, _, Nat.zero_le _, rfl, HOW.out, U8s.map _, ⟨rfl, rfl, rfl, Nat.le_refl _, fun _ _ _ => rfl⟩⟩
  case round =>
   obtain ⟨k, ys, hk, rfl, hown, hu8, hgr⟩ := hrel
   have HOW3 : Hid _ := hown
   have HU : Hid _ := hu8
   have HGR : Hid _ := hgr
   have hyl : ys.length = data.length := by have := hown.1; omega
   clear hown hu8 hgr
   by_cases hlt : k < data.length
   ·obtain ⟨g, cap', hge⟩ := owns_some HOW3.out (by omega)
    simp only [Value.slice.injEq, true_and] at hge
    obtain ⟨rfl, rfl⟩ := hge
    obtain ⟨u, hu⟩ : ∃ u, ys[k]? = some u := ⟨_, List.getElem?_eq_getElem (by omega)⟩
    obtain ⟨b, hb, rfl⟩ := HU.out k u hu
    have hcell : wr.cell? ⟨g, k, none⟩ = some (.int .u8 b) := by
     rw [World.ownsRow.cellAt HOW3.out k (by omega)]
     exact hu
    have hfz := World.ownsRow.frozenAt HOW3.out k
    clear hu
    go_wp2
    go_roundw
    case rel =>
     obtain ⟨ho3, hg3⟩ := World.ownsRow.stored HOW3.out k (.int .u8 (((b : Int) + 1) % 256))
     refine ⟨k + 1, ys.set k (.int .u8 (((b : Int) + 1) % 256)), by omega, by go_num, ho3, ?_, HGR.out.trans hg3⟩
     have he : ((b : Int) + 1) % 256 = (((b + 1) % 256 : Nat) : Int) := by omega
     rw [he]
     exact U8s.set HU.out k _ (by omega)
    case measure => simp [intOf]; omega
   ·have hkk : k = data.length := by omega
    subst hkk
    go_wp2
    go_ret
    rw [HM.out, HM2.out]
    exact ⟨⟨_, rfl, HOKB.out⟩, Two2.done HT.out HX01.out HBO.out HIB.out HGR.out⟩

end Go.Proofs.YtfimfbdlegookaaGreatDoor

/-! marlaw5.Does: UserWrite. Conditions: as each theorem states. -/
namespace Go.Proofs.YtfimfbdlegookaaGreatDoor
open Go Go.RowKit
variable [Inhabited BaseW]

set_option maxRecDepth 100000 in
set_option maxHeartbeats 8000000 in
theorem does_k8 {w0 w : World} {S O O' : Nat → Prop} {fv xv : Value} {m m2 : Fs} {n : Nat} {cs : List Value} {mode keep torn : Int} {path dest data : B8} {plan : List Ev} (hT : Two2 w0 S O O' w fv xv m m2) (hE : Env w0) (hg : Good n m) (hg2 : Good n m2) (hn : n ≤ 1000) (ho : IsOpn w0 cs ⟨8, mode, keep, torn, path, dest, data, plan⟩) (hok : OpOk ⟨8, mode, keep, torn, path, dest, data, plan⟩) :
  Calls Tryz.prog 37 #[fv, xv, .agg cs.toArray] w (DoesPost2 w0 S O O' fv xv m m2 (userWrite m path mode data).1 (userWrite m2 path mode data).1 w) := by
 obtain ⟨vd, vp, rfl, hd, hpl⟩ := ho
 obtain ⟨da, dc, rfl, -⟩ := id hd.bytes
 obtain ⟨_, ⟨pa, pc, rfl, -⟩, -⟩ := id hpl
 simp only at hd hpl
 have hp := hok.path
 have hq := hok.dest
 have hkp := hok.keep
 have htn := hok.torn
 have hfw := hok.few
 simp only at hp hq hkp htn hfw
 have hx0 := hT.ext
 have hba := hT.base
 obtain ⟨gf, hgf⟩ : ∃ g, fv = .pointer (some ⟨g, 0, none⟩) := by
  obtain ⟨g, gm, gd, vp, vl, vu, L, c0, hpe, -⟩ := hT.fs
  exact ⟨g, hpe⟩
 subst hgf
 obtain ⟨gx, rfl⟩ := hT.ref.ptr
 obtain ⟨wb, hwb⟩ : ∃ wb, wb = w.alloc (.cells #[.int .i64 8, .int .i64 mode, .int .i64 keep, .int .i64 torn, S8 path, S8 dest, .slice da data.length dc, .slice pa plan.length pc] 34) := ⟨_, rfl⟩
 have hxb : Ext w wb := by rw [hwb]; exact (Ext.refl _).alloc _
 have hbb : wb.heap[w.heap.size]? = some (.cells #[.int .i64 8, .int .i64 mode, .int .i64 keep, .int .i64 torn, S8 path, S8 dest, .slice da data.length dc, .slice pa plan.length pc] 34 (0, 0)) := by rw [hwb]; exact alloc_at _ _
 obtain ⟨b0, b1, b2, b3, b4, b5, b6, b7⟩ := cellsAt8 hbb
 have hsb : w.heap.size < wb.heap.size := by rw [hwb]; simp
 have HT : Hid _ := hT
 have HE : Hid _ := hE
 have HG : Hid _ := hg
 have HG2 : Hid _ := hg2
 have HWB : Hid _ := hwb
 have HXB : Hid _ := hxb
 have HBB : Hid _ := hbb
 have HD0 : Hid (OldB (.slice da data.length dc) data) := hd
 have HBA : Hid _ := hba
 have HX0 : Hid _ := hx0
 have HPL : Hid (ReadO w0 IsEvI (.slice pa plan.length pc) plan) := hpl
 have HDB : Hid _ := OldB.at hd ((hba.trans hx0).trans hxb)
 have HOKK : Hid _ := hok
 clear hT hE hg hg2 hwb hxb hbb hd hx0 hba hpl hok
 go_enter Tryz.func37, Tryz.ntmps37
 go_upto_region 1 with fail
 rw [show w.alloc (.cells #[.int .i64 8, .int .i64 mode, .int .i64 keep, .int .i64 torn, S8 path, S8 dest, .slice da data.length dc, .slice pa plan.length pc] 34) = wb from HWB.out.symm]
 go_wp2_with fail
 go_at_call 87
 refine (copyB_own _ data _ HDB.out).mono ?_
 rintro e w1 ⟨⟨vin, rfl, hin⟩, hx1⟩
 obtain ⟨ia, ic, hie, -⟩ := Row.of_owns hin HD0.out.bytes.len
 subst hie
 have HIN : Hid (IsBytes w1 (.slice ia data.length ic) data) := Row.of_owns hin HD0.out.bytes.len
 have HTI : Hid (TypB w1 (.slice ia data.length ic)) := TypB.of_owns hin
 have HOI : Hid _ := hin
 have hx01 : Ext w w1 := Ext.trans HXB.out hx1
 have HP : Hid (Pair S O O' (fun k => k < w.heap.size) w1 (.pointer (some ⟨gf, 0, none⟩)) (.pointer (some ⟨gx, 0, none⟩)) m m2) := Two2.pair HT.out HE.out HG.out HG2.out hn hx01
 have HNG : Hid _ := (Two2.noG HT.out HE.out).2
 have HB1 : Hid _ := hx1.row HBB.out
 have HNO : Hid (¬ O w.heap.size ∧ ¬ O' w.heap.size) := ⟨fun h => by have := HT.out.lo _ h; omega, fun h => by have := HT.out.lo' _ h; omega⟩
 have HB0 : Hid (Ext baseW w1) := Ext.trans (Ext.trans HBA.out HX0.out) hx01
 have HD1 : Hid (IsBytes w1 (.slice da data.length dc) data) := OldB.at HD0.out HB0.out
 have HX01 : Hid _ := hx01
 have htm := HG.out.time
 have hcl := HG.out.calls
 have htm2 := HG2.out.time
 have hcl2 := HG2.out.calls
 obtain ⟨er, her⟩ : ∃ er, (userWrite m path mode data).2 = er := ⟨_, rfl⟩
 have HER : Hid _ := her
 obtain ⟨er2, her2⟩ : ∃ er, (userWrite m2 path mode data).2 = er := ⟨_, rfl⟩
 have HER2 : Hid _ := her2
 obtain ⟨okb, hokb⟩ : ∃ okb, (er == er2) = okb := ⟨_, rfl⟩
 have HOKB : Hid (m = m2 → okb = true) := fun h => by rw [← hokb, ← her, ← her2, h]; simp
 clear her her2
 obtain ⟨m', hm'⟩ : ∃ m', (userWrite m path mode data).1 = m' := ⟨_, rfl⟩
 have HM : Hid _ := hm'
 obtain ⟨m2', hm2'⟩ : ∃ m', (userWrite m2 path mode data).1 = m' := ⟨_, rfl⟩
 have HM2 : Hid _ := hm2'
 replace b0 := hx1.cell b0
 have hsz1 := hx1.size
 clear hin hx1 hx01 hm' hm2' b1 b2 b3 b4 b5 b6 b7
 go_upto_region 25 with fail
 apply wp_region_inv 16 (fun z w' => DJ S O O' (fun k => k < w.heap.size) w1 (.pointer (some ⟨gf, 0, none⟩)) (.pointer (some ⟨gx, 0, none⟩)) m' m2' (fun u => u = .int .i64 er) (fun u => u = .int .i64 er2) (z 6) (z 14) w') [false, false, false, false, false, false, true, false, false, false, false, false, false, false, true, false] [_, _, _, _, _, _, undef, _, _, _, _, _, _, _, undef, .bool okb] [none, none, none, none, none, none, none, none, none, none, none, none, none, none, none, none] [[], [], [1], [], [3], [], [0, 2, 4, 5], [], [], [8], [], [10], [], [12], [7, 9, 11, 13], [6, 14]] (by kernel_rfl) (by kernel_rfl) rfl
 ·exact DJ.start ⟨rfl, rfl, rfl, Nat.le_refl _, fun _ _ => rfl⟩
 ·simp (maxSteps := 1000000) only [oblI, stepI, knowsI, getP, mixP, List.getD_cons_zero, List.getD_cons_succ, Bool.false_eq_true, if_false, if_true, and_true, true_and, forall_const, Nat.zero_add, Nat.reduceAdd, List.take_succ_cons, List.take_zero, fillFrom, Act.put, List.setIfInBounds_toArray, List.set_cons_zero, List.set_cons_succ]
  refine ⟨?_, ?_, ?_, ?_, ?_, ?_, ?_, ?_, ?_, ?_, ?_, ?_, ?_, ?_, ?_, ?_⟩
  ·intro xs z wq hj R hR
   obtain ⟨c0, c1, c2, c3, c4, c5, c6, c7⟩ := cellsAt8 (hj.row HB1.out HNO.out.1 HNO.out.2)
   go_simp
   exact hR _ _ hj rfl
  ·intro xs z wq hj R hR
   obtain ⟨c0, c1, c2, c3, c4, c5, c6, c7⟩ := cellsAt8 (hj.row HB1.out HNO.out.1 HNO.out.2)
   go_simp
   exact hR _ _ hj rfl
  ·intro xs z wq hj hk R hR
   obtain ⟨c0, c1, c2, c3, c4, c5, c6, c7⟩ := cellsAt8 (hj.row HB1.out HNO.out.1 HNO.out.2)
   go_simp
   exact hR _ _ hj rfl
  ·intro xs z wq hj R hR
   obtain ⟨c0, c1, c2, c3, c4, c5, c6, c7⟩ := cellsAt8 (hj.row HB1.out HNO.out.1 HNO.out.2)
   go_simp
   exact hR _ _ hj rfl
  ·intro xs z wq hj hk R hR
   obtain ⟨c0, c1, c2, c3, c4, c5, c6, c7⟩ := cellsAt8 (hj.row HB1.out HNO.out.1 HNO.out.2)
   go_simp
   exact hR _ _ hj rfl
  ·intro xs z wq hj R hR
   obtain ⟨c0, c1, c2, c3, c4, c5, c6, c7⟩ := cellsAt8 (hj.row HB1.out HNO.out.1 HNO.out.2)
   go_simp
   exact hR _ _ hj rfl
  ·intro xs z wq hj hz hk R hR
   obtain ⟨hk0, hk1, hk2, hk3⟩ := hk
   rw [hz] at hj
   go_simp
   exact (userWrite_any path mode _ data (DJ.fin HP.out HNG.out hj).env (DJ.fin HP.out HNG.out hj).fs HG.out.ok (by omega) hp (hj.bytes HIN.out HTI.out) HD0.out.bytes.len (fun hh => may_eq _ hh) (typed_out (hj.typed HTI.out) ⟨_, _, _, rfl⟩)).mono (by rintro e' w4 ⟨rfl, h4⟩; rw [HM.out] at h4; exact ⟨_, rfl, hR _ _ (DJ.setF HP.out hj (by rw [HER.out]) h4)⟩)
  ·intro xs z wq hj R hR
   obtain ⟨c0, c1, c2, c3, c4, c5, c6, c7⟩ := cellsAt8 (hj.row HB1.out HNO.out.1 HNO.out.2)
   go_simp
   exact hR _ _ hj rfl
  ·intro xs z wq hj R hR
   obtain ⟨c0, c1, c2, c3, c4, c5, c6, c7⟩ := cellsAt8 (hj.row HB1.out HNO.out.1 HNO.out.2)
   go_simp
   exact hR _ _ hj rfl
  ·intro xs z wq hj hk R hR
   obtain ⟨c0, c1, c2, c3, c4, c5, c6, c7⟩ := cellsAt8 (hj.row HB1.out HNO.out.1 HNO.out.2)
   go_simp
   exact hR _ _ hj rfl
  ·intro xs z wq hj R hR
   obtain ⟨c0, c1, c2, c3, c4, c5, c6, c7⟩ := cellsAt8 (hj.row HB1.out HNO.out.1 HNO.out.2)
   go_simp
   exact hR _ _ hj rfl
  ·intro xs z wq hj hk R hR
   obtain ⟨c0, c1, c2, c3, c4, c5, c6, c7⟩ := cellsAt8 (hj.row HB1.out HNO.out.1 HNO.out.2)
   go_simp
   exact hR _ _ hj rfl
  ·intro xs z wq hj R hR
   obtain ⟨c0, c1, c2, c3, c4, c5, c6, c7⟩ := cellsAt8 (hj.row HB1.out HNO.out.1 HNO.out.2)
   go_simp
   exact hR _ _ hj rfl
  ·intro xs z wq hj hk R hR
   obtain ⟨c0, c1, c2, c3, c4, c5, c6, c7⟩ := cellsAt8 (hj.row HB1.out HNO.out.1 HNO.out.2)
   go_simp
   exact hR _ _ hj rfl
  ·intro xs z wq hj hz hk R hR
   obtain ⟨hk0, hk1, hk2, hk3⟩ := hk
   rw [hz] at hj
   go_simp
   exact (userWriteR_any path mode _ data (DJ.rin HP.out hj).fs HG2.out.ok (by omega) hp (OldB.at HD0.out (DJ.base HP.out HB0.out hj)) (OldB.out HD0.out HP.out.rin.high)).mono (by rintro e' w4 ⟨rfl, h4⟩; rw [HM2.out] at h4; exact ⟨_, rfl, hR _ _ (DJ.setR HP.out hj (by rw [HER2.out]) h4)⟩)
  ·intro xs z wq hj hk R hR
   obtain ⟨hk0, hk1⟩ := hk
   rw [hk0, hk1] at hj
   obtain ⟨e1, e2, -⟩ := id hj
   go_simp
   exact hR _ _ (by rw [hk0, hk1]; exact hj) rfl
 intro xs w2 hj2 hk
 simp only [zAll, List.getD_cons_zero, List.getD_cons_succ, Bool.false_eq_true, if_false, if_true] at hj2
 simp only [heldI, Nat.zero_add, Nat.reduceAdd, and_true] at hk
 obtain ⟨q0, q1, q2, q3, q4, q5, q7, q8, q9, q10, q11, q12, q13, q15⟩ := hk
 simp (maxSteps := 1000000) only [List.drop_succ_cons, List.drop_zero, Nat.zero_add, Nat.reduceAdd, List.take_succ_cons, List.take_zero, fillFrom, Act.put, List.setIfInBounds_toArray, List.set_cons_zero, List.set_cons_succ, q0, q1, q2, q3, q4, q5, q7, q8, q9, q10, q11, q12, q13, q15]
 clear q0 q1 q2 q3 q4 q5 q7 q8 q9 q10 q11 q12 q13 q15
 generalize xs 6 = x6 at *
 generalize xs 14 = x14 at *
 obtain ⟨rfl, rfl, hboth⟩ := hj2
 have HBO : Hid _ := hboth
 have hb2 := hboth.fr.row HB1.out (fun h => h.elim HNO.out.1 HNO.out.2)
 obtain ⟨-, -, -, -, -, -, c6, -⟩ := cellsAt8 hb2
 have HBI : Hid (IsBytes w2 (.slice ia data.length ic) data) := Row.keepB HIN.out HTI.out hboth.fr.keep
 have HBD : Hid (IsBytes w2 (.slice da data.length dc) data) := OldB.at HD0.out (Ext.of_fr HB0.out hboth.fr (fun k hk => hk.elim (HP.out.high k) (HP.out.rin.high k)))
 have HOW : Hid (w2.ownsRow wb.heap.size 5 1 (.slice ia data.length ic) data.length (data.map fun x => .int .u8 x.toNat)) := by
  refine ⟨HOI.out.1, HOI.out.2.imp id ?_⟩
  rintro ⟨g, cap, cur, h1, h2, h3, h4⟩
  exact ⟨g, cap, cur, h1, h2, (hboth.fr.keep.2 _ ⟨_, _, _, h3, byt_u8⟩).trans h3, h4⟩
 have hdl := HD1.out.len
 have HIB : Hid (∀ k, (Value.slice ia data.length ic).ownBlock = some k → w.heap.size ≤ k ∧ k < w1.heap.size) := fun k hk => by
  have := World.ownsRow.lt HOI.out k hk
  omega
 clear hb2 hboth
 go_upto_region 37 with fail
 go_wp2_with fail
 go_at_call 100
 refine (bytesEq_any _ _ _ _ _ HBI.out HBD.out).mono ?_
 rw [beq_self_eq_true]
 rintro e w3 ⟨rfl, rfl⟩
 clear c6
 go_wp2_with fail
 go_loopw [17] (fun i wr => ∃ (k : Nat) (xs : List Value), k ≤ data.length ∧ i = .int .i64 k ∧ wr.ownsRow wb.heap.size 5 1 (.slice ia data.length ic) data.length xs ∧ U8s xs ∧ w3.grownBy wr (Value.slice ia data.length ic).ownBlock) (fun i _ => data.length - (intOf i).toNat)
 case atStart => exact ⟨0, _, Nat.zero_le _, rfl, HOW.out, U8s.map _, ⟨rfl, rfl, rfl, Nat.le_refl _, fun _ _ _ => rfl⟩⟩
 case round =>
  obtain ⟨k, ys, hk, rfl, hown, hu8, hgr⟩ := hrel
  have HOW3 : Hid _ := hown
  have HU : Hid _ := hu8
  have HGR : Hid _ := hgr
  have hyl : ys.length = data.length := by have := hown.1; omega
  clear hown hu8 hgr
  by_cases hlt : k < data.length
  ·obtain ⟨g, cap', hge⟩ := owns_some HOW3.out (by omega)
   simp only [Value.slice.injEq, true_and] at hge
   obtain ⟨rfl, rfl⟩ := hge
   obtain ⟨u, hu⟩ : ∃ u, ys[k]? = some u := ⟨_, List.getElem?_eq_getElem (by omega)⟩
   obtain ⟨b, hb, rfl⟩ := HU.out k u hu
   have hcell : wr.cell? ⟨g, k, none⟩ = some (.int .u8 b) := by
    rw [World.ownsRow.cellAt HOW3.out k (by omega)]
    exact hu
   have hfz := World.ownsRow.frozenAt HOW3.out k
   clear hu
   go_wp2
   go_roundw
   case rel =>
    obtain ⟨ho3, hg3⟩ := World.ownsRow.stored HOW3.out k (.int .u8 (((b : Int) + 1) % 256))
    refine ⟨k + 1, ys.set k (.int .u8 (((b : Int) + 1) % 256)), by omega, by go_num, ho3, ?_, HGR.out.trans hg3⟩
    have he : ((b : Int) + 1) % 256 = (((b + 1) % 256 : Nat) : Int) := by omega
    rw [he]
    exact U8s.set HU.out k _ (by omega)
   case measure => simp [intOf]; omega
  ·have hkk : k = data.length := by omega
   subst hkk
   go_wp2
   go_ret
   rw [HM.out, HM2.out]
   exact ⟨⟨_, rfl, HOKB.out⟩, Two2.done HT.out HX01.out HBO.out HIB.out HGR.out⟩

end Go.Proofs.YtfimfbdlegookaaGreatDoor

/-! marlaw5.Does: UserRemove. Conditions: as each theorem states. -/
namespace Go.Proofs.YtfimfbdlegookaaGreatDoor
open Go Go.RowKit
variable [Inhabited BaseW]

set_option maxRecDepth 100000 in
set_option maxHeartbeats 8000000 in
theorem does_k9 {w0 w : World} {S O O' : Nat → Prop} {fv xv : Value} {m m2 : Fs} {n : Nat} {cs : List Value} {mode keep torn : Int} {path dest data : B8} {plan : List Ev} (hT : Two2 w0 S O O' w fv xv m m2) (hE : Env w0) (hg : Good n m) (hg2 : Good n m2) (hn : n ≤ 1000) (ho : IsOpn w0 cs ⟨9, mode, keep, torn, path, dest, data, plan⟩) (hok : OpOk ⟨9, mode, keep, torn, path, dest, data, plan⟩) :
  Calls Tryz.prog 37 #[fv, xv, .agg cs.toArray] w (DoesPost2 w0 S O O' fv xv m m2 (userRemove m path).1 (userRemove m2 path).1 w) := by
 obtain ⟨vd, vp, rfl, hd, hpl⟩ := ho
 obtain ⟨da, dc, rfl, -⟩ := id hd.bytes
 obtain ⟨_, ⟨pa, pc, rfl, -⟩, -⟩ := id hpl
 simp only at hd hpl
 have hp := hok.path
 have hq := hok.dest
 have hkp := hok.keep
 have htn := hok.torn
 have hfw := hok.few
 simp only at hp hq hkp htn hfw
 have hx0 := hT.ext
 have hba := hT.base
 obtain ⟨gf, hgf⟩ : ∃ g, fv = .pointer (some ⟨g, 0, none⟩) := by
  obtain ⟨g, gm, gd, vp, vl, vu, L, c0, hpe, -⟩ := hT.fs
  exact ⟨g, hpe⟩
 subst hgf
 obtain ⟨gx, rfl⟩ := hT.ref.ptr
 obtain ⟨wb, hwb⟩ : ∃ wb, wb = w.alloc (.cells #[.int .i64 9, .int .i64 mode, .int .i64 keep, .int .i64 torn, S8 path, S8 dest, .slice da data.length dc, .slice pa plan.length pc] 34) := ⟨_, rfl⟩
 have hxb : Ext w wb := by rw [hwb]; exact (Ext.refl _).alloc _
 have hbb : wb.heap[w.heap.size]? = some (.cells #[.int .i64 9, .int .i64 mode, .int .i64 keep, .int .i64 torn, S8 path, S8 dest, .slice da data.length dc, .slice pa plan.length pc] 34 (0, 0)) := by rw [hwb]; exact alloc_at _ _
 obtain ⟨b0, b1, b2, b3, b4, b5, b6, b7⟩ := cellsAt8 hbb
 have hsb : w.heap.size < wb.heap.size := by rw [hwb]; simp
 have HT : Hid _ := hT
 have HE : Hid _ := hE
 have HG : Hid _ := hg
 have HG2 : Hid _ := hg2
 have HWB : Hid _ := hwb
 have HXB : Hid _ := hxb
 have HBB : Hid _ := hbb
 have HD0 : Hid (OldB (.slice da data.length dc) data) := hd
 have HBA : Hid _ := hba
 have HX0 : Hid _ := hx0
 have HPL : Hid (ReadO w0 IsEvI (.slice pa plan.length pc) plan) := hpl
 have HDB : Hid _ := OldB.at hd ((hba.trans hx0).trans hxb)
 have HOKK : Hid _ := hok
 clear hT hE hg hg2 hwb hxb hbb hd hx0 hba hpl hok
 go_enter Tryz.func37, Tryz.ntmps37
 go_upto_region 1 with fail
 rw [show w.alloc (.cells #[.int .i64 9, .int .i64 mode, .int .i64 keep, .int .i64 torn, S8 path, S8 dest, .slice da data.length dc, .slice pa plan.length pc] 34) = wb from HWB.out.symm]
 go_wp2_with fail
 go_at_call 87
 refine (copyB_own _ data _ HDB.out).mono ?_
 rintro e w1 ⟨⟨vin, rfl, hin⟩, hx1⟩
 obtain ⟨ia, ic, hie, -⟩ := Row.of_owns hin HD0.out.bytes.len
 subst hie
 have HIN : Hid (IsBytes w1 (.slice ia data.length ic) data) := Row.of_owns hin HD0.out.bytes.len
 have HTI : Hid (TypB w1 (.slice ia data.length ic)) := TypB.of_owns hin
 have HOI : Hid _ := hin
 have hx01 : Ext w w1 := Ext.trans HXB.out hx1
 have HP : Hid (Pair S O O' (fun k => k < w.heap.size) w1 (.pointer (some ⟨gf, 0, none⟩)) (.pointer (some ⟨gx, 0, none⟩)) m m2) := Two2.pair HT.out HE.out HG.out HG2.out hn hx01
 have HNG : Hid _ := (Two2.noG HT.out HE.out).2
 have HB1 : Hid _ := hx1.row HBB.out
 have HNO : Hid (¬ O w.heap.size ∧ ¬ O' w.heap.size) := ⟨fun h => by have := HT.out.lo _ h; omega, fun h => by have := HT.out.lo' _ h; omega⟩
 have HB0 : Hid (Ext baseW w1) := Ext.trans (Ext.trans HBA.out HX0.out) hx01
 have HD1 : Hid (IsBytes w1 (.slice da data.length dc) data) := OldB.at HD0.out HB0.out
 have HX01 : Hid _ := hx01
 have htm := HG.out.time
 have hcl := HG.out.calls
 have htm2 := HG2.out.time
 have hcl2 := HG2.out.calls
 obtain ⟨er, her⟩ : ∃ er, (userRemove m path).2 = er := ⟨_, rfl⟩
 have HER : Hid _ := her
 obtain ⟨er2, her2⟩ : ∃ er, (userRemove m2 path).2 = er := ⟨_, rfl⟩
 have HER2 : Hid _ := her2
 obtain ⟨okb, hokb⟩ : ∃ okb, (er == er2) = okb := ⟨_, rfl⟩
 have HOKB : Hid (m = m2 → okb = true) := fun h => by rw [← hokb, ← her, ← her2, h]; simp
 clear her her2
 obtain ⟨m', hm'⟩ : ∃ m', (userRemove m path).1 = m' := ⟨_, rfl⟩
 have HM : Hid _ := hm'
 obtain ⟨m2', hm2'⟩ : ∃ m', (userRemove m2 path).1 = m' := ⟨_, rfl⟩
 have HM2 : Hid _ := hm2'
 replace b0 := hx1.cell b0
 have hsz1 := hx1.size
 clear hin hx1 hx01 hm' hm2' b1 b2 b3 b4 b5 b6 b7
 go_upto_region 27 with fail
 apply wp_region_inv 9 (fun z w' => DJ S O O' (fun k => k < w.heap.size) w1 (.pointer (some ⟨gf, 0, none⟩)) (.pointer (some ⟨gx, 0, none⟩)) m' m2' (fun u => u = .int .i64 er) (fun u => u = .int .i64 er2) (z 3) (z 7) w') [false, false, false, true, false, false, false, true, false] [_, _, _, undef, _, _, _, undef, .bool okb] [none, none, none, none, none, none, none, none, none] [[], [], [1], [0, 2], [], [], [5], [4, 6], [3, 7]] (by kernel_rfl) (by kernel_rfl) rfl
 ·exact DJ.start ⟨rfl, rfl, rfl, Nat.le_refl _, fun _ _ => rfl⟩
 ·simp (maxSteps := 1000000) only [oblI, stepI, knowsI, getP, mixP, List.getD_cons_zero, List.getD_cons_succ, Bool.false_eq_true, if_false, if_true, and_true, true_and, forall_const, Nat.zero_add, Nat.reduceAdd, List.take_succ_cons, List.take_zero, fillFrom, Act.put, List.setIfInBounds_toArray, List.set_cons_zero, List.set_cons_succ]
  refine ⟨?_, ?_, ?_, ?_, ?_, ?_, ?_, ?_, ?_⟩
  ·intro xs z wq hj R hR
   obtain ⟨c0, c1, c2, c3, c4, c5, c6, c7⟩ := cellsAt8 (hj.row HB1.out HNO.out.1 HNO.out.2)
   go_simp
   exact hR _ _ hj rfl
  ·intro xs z wq hj R hR
   obtain ⟨c0, c1, c2, c3, c4, c5, c6, c7⟩ := cellsAt8 (hj.row HB1.out HNO.out.1 HNO.out.2)
   go_simp
   exact hR _ _ hj rfl
  ·intro xs z wq hj hk R hR
   obtain ⟨c0, c1, c2, c3, c4, c5, c6, c7⟩ := cellsAt8 (hj.row HB1.out HNO.out.1 HNO.out.2)
   go_simp
   exact hR _ _ hj rfl
  ·intro xs z wq hj hz hk R hR
   obtain ⟨hk0, hk1⟩ := hk
   rw [hz] at hj
   go_simp
   exact (userRemove_any path (DJ.fin HP.out HNG.out hj).env (DJ.fin HP.out HNG.out hj).fs HG.out.ok (by omega) hp).mono (by rintro e' w4 ⟨rfl, h4⟩; rw [HM.out] at h4; exact ⟨_, rfl, hR _ _ (DJ.setF HP.out hj (by rw [HER.out]) h4)⟩)
  ·intro xs z wq hj R hR
   obtain ⟨c0, c1, c2, c3, c4, c5, c6, c7⟩ := cellsAt8 (hj.row HB1.out HNO.out.1 HNO.out.2)
   go_simp
   exact hR _ _ hj rfl
  ·intro xs z wq hj R hR
   obtain ⟨c0, c1, c2, c3, c4, c5, c6, c7⟩ := cellsAt8 (hj.row HB1.out HNO.out.1 HNO.out.2)
   go_simp
   exact hR _ _ hj rfl
  ·intro xs z wq hj hk R hR
   obtain ⟨c0, c1, c2, c3, c4, c5, c6, c7⟩ := cellsAt8 (hj.row HB1.out HNO.out.1 HNO.out.2)
   go_simp
   exact hR _ _ hj rfl
  ·intro xs z wq hj hz hk R hR
   obtain ⟨hk0, hk1⟩ := hk
   rw [hz] at hj
   go_simp
   exact (userRemoveR_any path (DJ.rin HP.out hj).fs HG2.out.ok (by omega) hp).mono (by rintro e' w4 ⟨rfl, h4⟩; rw [HM2.out] at h4; exact ⟨_, rfl, hR _ _ (DJ.setR HP.out hj (by rw [HER2.out]) h4)⟩)
  ·intro xs z wq hj hk R hR
   obtain ⟨hk0, hk1⟩ := hk
   rw [hk0, hk1] at hj
   obtain ⟨e1, e2, -⟩ := id hj
   go_simp
   exact hR _ _ (by rw [hk0, hk1]; exact hj) rfl
 intro xs w2 hj2 hk
 simp only [zAll, List.getD_cons_zero, List.getD_cons_succ, Bool.false_eq_true, if_false, if_true] at hj2
 simp only [heldI, Nat.zero_add, Nat.reduceAdd, and_true] at hk
 obtain ⟨q0, q1, q2, q4, q5, q6, q8⟩ := hk
 simp (maxSteps := 1000000) only [List.drop_succ_cons, List.drop_zero, Nat.zero_add, Nat.reduceAdd, List.take_succ_cons, List.take_zero, fillFrom, Act.put, List.setIfInBounds_toArray, List.set_cons_zero, List.set_cons_succ, q0, q1, q2, q4, q5, q6, q8]
 clear q0 q1 q2 q4 q5 q6 q8
 generalize xs 3 = x3 at *
 generalize xs 7 = x7 at *
 obtain ⟨rfl, rfl, hboth⟩ := hj2
 have HBO : Hid _ := hboth
 have hb2 := hboth.fr.row HB1.out (fun h => h.elim HNO.out.1 HNO.out.2)
 obtain ⟨-, -, -, -, -, -, c6, -⟩ := cellsAt8 hb2
 have HBI : Hid (IsBytes w2 (.slice ia data.length ic) data) := Row.keepB HIN.out HTI.out hboth.fr.keep
 have HBD : Hid (IsBytes w2 (.slice da data.length dc) data) := OldB.at HD0.out (Ext.of_fr HB0.out hboth.fr (fun k hk => hk.elim (HP.out.high k) (HP.out.rin.high k)))
 have HOW : Hid (w2.ownsRow wb.heap.size 5 1 (.slice ia data.length ic) data.length (data.map fun x => .int .u8 x.toNat)) := by
  refine ⟨HOI.out.1, HOI.out.2.imp id ?_⟩
  rintro ⟨g, cap, cur, h1, h2, h3, h4⟩
  exact ⟨g, cap, cur, h1, h2, (hboth.fr.keep.2 _ ⟨_, _, _, h3, byt_u8⟩).trans h3, h4⟩
 have hdl := HD1.out.len
 have HIB : Hid (∀ k, (Value.slice ia data.length ic).ownBlock = some k → w.heap.size ≤ k ∧ k < w1.heap.size) := fun k hk => by
  have := World.ownsRow.lt HOI.out k hk
  omega
 clear hb2 hboth
 go_upto_region 37 with fail
 go_wp2_with fail
 go_at_call 100
 refine (bytesEq_any _ _ _ _ _ HBI.out HBD.out).mono ?_
 rw [beq_self_eq_true]
 rintro e w3 ⟨rfl, rfl⟩
 clear c6
 go_wp2_with fail
 go_loopw [17] (fun i wr => ∃ (k : Nat) (xs : List Value), k ≤ data.length ∧ i = .int .i64 k ∧ wr.ownsRow wb.heap.size 5 1 (.slice ia data.length ic) data.length xs ∧ U8s xs ∧ w3.grownBy wr (Value.slice ia data.length ic).ownBlock) (fun i _ => data.length - (intOf i).toNat)
 case atStart => exact ⟨0, _, Nat.zero_le _, rfl, HOW.out, U8s.map _, ⟨rfl, rfl, rfl, Nat.le_refl _, fun _ _ _ => rfl⟩⟩
 case round =>
  obtain ⟨k, ys, hk, rfl, hown, hu8, hgr⟩ := hrel
  have HOW3 : Hid _ := hown
  have HU : Hid _ := hu8
  have HGR : Hid _ := hgr
  have hyl : ys.length = data.length := by have := hown.1; omega
  clear hown hu8 hgr
  by_cases hlt : k < data.length
  ·obtain ⟨g, cap', hge⟩ := owns_some HOW3.out (by omega)
   simp only [Value.slice.injEq, true_and] at hge
   obtain ⟨rfl, rfl⟩ := hge
   obtain ⟨u, hu⟩ : ∃ u, ys[k]? = some u := ⟨_, List.getElem?_eq_getElem (by omega)⟩
   obtain ⟨b, hb, rfl⟩ := HU.out k u hu
   have hcell : wr.cell? ⟨g, k, none⟩ = some (.int .u8 b) := by
    rw [World.ownsRow.cellAt HOW3.out k (by omega)]
    exact hu
   have hfz := World.ownsRow.frozenAt HOW3.out k
   clear hu
   go_wp2
   go_roundw
   case rel =>
    obtain ⟨ho3, hg3⟩ := World.ownsRow.stored HOW3.out k (.int .u8 (((b : Int) + 1) % 256))
    refine ⟨k + 1, ys.set k (.int .u8 (((b : Int) + 1) % 256)), by omega, by go_num, ho3, ?_, HGR.out.trans hg3⟩
    have he : ((b : Int) + 1) % 256 = (((b + 1) % 256 : Nat) : Int) := by omega
    rw [he]
    exact U8s.set HU.out k _ (by omega)
   case measure => simp [intOf]; omega
  ·have hkk : k = data.length := by omega
   subst hkk
   go_wp2
   go_ret
   rw [HM.out, HM2.out]
   exact ⟨⟨_, rfl, HOKB.out⟩, Two2.done HT.out HX01.out HBO.out HIB.out HGR.out⟩

end Go.Proofs.YtfimfbdlegookaaGreatDoor

/-! marlaw5.Does: Crash. Conditions: as each theorem states. -/
namespace Go.Proofs.YtfimfbdlegookaaGreatDoor
open Go Go.RowKit
variable [Inhabited BaseW]

set_option maxRecDepth 100000 in
set_option maxHeartbeats 8000000 in
theorem does_k10 {w0 w : World} {S O O' : Nat → Prop} {fv xv : Value} {m m2 : Fs} {n : Nat} {cs : List Value} {mode keep torn : Int} {path dest data : B8} {plan : List Ev} (hT : Two2 w0 S O O' w fv xv m m2) (hE : Env w0) (hg : Good n m) (hg2 : Good n m2) (hn : n ≤ 1000) (ho : IsOpn w0 cs ⟨10, mode, keep, torn, path, dest, data, plan⟩) (hok : OpOk ⟨10, mode, keep, torn, path, dest, data, plan⟩) :
  Calls Tryz.prog 37 #[fv, xv, .agg cs.toArray] w (DoesPost2 w0 S O O' fv xv m m2 (crash m keep torn) (crash m2 keep torn) w) := by
 obtain ⟨vd, vp, rfl, hd, hpl⟩ := ho
 obtain ⟨da, dc, rfl, -⟩ := id hd.bytes
 obtain ⟨_, ⟨pa, pc, rfl, -⟩, -⟩ := id hpl
 simp only at hd hpl
 have hp := hok.path
 have hq := hok.dest
 have hkp := hok.keep
 have htn := hok.torn
 have hfw := hok.few
 simp only at hp hq hkp htn hfw
 have hx0 := hT.ext
 have hba := hT.base
 obtain ⟨gf, hgf⟩ : ∃ g, fv = .pointer (some ⟨g, 0, none⟩) := by
  obtain ⟨g, gm, gd, vp, vl, vu, L, c0, hpe, -⟩ := hT.fs
  exact ⟨g, hpe⟩
 subst hgf
 obtain ⟨gx, rfl⟩ := hT.ref.ptr
 obtain ⟨wb, hwb⟩ : ∃ wb, wb = w.alloc (.cells #[.int .i64 10, .int .i64 mode, .int .i64 keep, .int .i64 torn, S8 path, S8 dest, .slice da data.length dc, .slice pa plan.length pc] 34) := ⟨_, rfl⟩
 have hxb : Ext w wb := by rw [hwb]; exact (Ext.refl _).alloc _
 have hbb : wb.heap[w.heap.size]? = some (.cells #[.int .i64 10, .int .i64 mode, .int .i64 keep, .int .i64 torn, S8 path, S8 dest, .slice da data.length dc, .slice pa plan.length pc] 34 (0, 0)) := by rw [hwb]; exact alloc_at _ _
 obtain ⟨b0, b1, b2, b3, b4, b5, b6, b7⟩ := cellsAt8 hbb
 have hsb : w.heap.size < wb.heap.size := by rw [hwb]; simp
 have HT : Hid _ := hT
 have HE : Hid _ := hE
 have HG : Hid _ := hg
 have HG2 : Hid _ := hg2
 have HWB : Hid _ := hwb
 have HXB : Hid _ := hxb
 have HBB : Hid _ := hbb
 have HD0 : Hid (OldB (.slice da data.length dc) data) := hd
 have HBA : Hid _ := hba
 have HX0 : Hid _ := hx0
 have HPL : Hid (ReadO w0 IsEvI (.slice pa plan.length pc) plan) := hpl
 have HDB : Hid _ := OldB.at hd ((hba.trans hx0).trans hxb)
 have HOKK : Hid _ := hok
 clear hT hE hg hg2 hwb hxb hbb hd hx0 hba hpl hok
 go_enter Tryz.func37, Tryz.ntmps37
 go_upto_region 1 with fail
 rw [show w.alloc (.cells #[.int .i64 10, .int .i64 mode, .int .i64 keep, .int .i64 torn, S8 path, S8 dest, .slice da data.length dc, .slice pa plan.length pc] 34) = wb from HWB.out.symm]
 go_wp2_with fail
 go_at_call 87
 refine (copyB_own _ data _ HDB.out).mono ?_
 rintro e w1 ⟨⟨vin, rfl, hin⟩, hx1⟩
 obtain ⟨ia, ic, hie, -⟩ := Row.of_owns hin HD0.out.bytes.len
 subst hie
 have HIN : Hid (IsBytes w1 (.slice ia data.length ic) data) := Row.of_owns hin HD0.out.bytes.len
 have HTI : Hid (TypB w1 (.slice ia data.length ic)) := TypB.of_owns hin
 have HOI : Hid _ := hin
 have hx01 : Ext w w1 := Ext.trans HXB.out hx1
 have HP : Hid (Pair S O O' (fun k => k < w.heap.size) w1 (.pointer (some ⟨gf, 0, none⟩)) (.pointer (some ⟨gx, 0, none⟩)) m m2) := Two2.pair HT.out HE.out HG.out HG2.out hn hx01
 have HNG : Hid _ := (Two2.noG HT.out HE.out).2
 have HB1 : Hid _ := hx1.row HBB.out
 have HNO : Hid (¬ O w.heap.size ∧ ¬ O' w.heap.size) := ⟨fun h => by have := HT.out.lo _ h; omega, fun h => by have := HT.out.lo' _ h; omega⟩
 have HB0 : Hid (Ext baseW w1) := Ext.trans (Ext.trans HBA.out HX0.out) hx01
 have HD1 : Hid (IsBytes w1 (.slice da data.length dc) data) := OldB.at HD0.out HB0.out
 have HX01 : Hid _ := hx01
 have htm := HG.out.time
 have hcl := HG.out.calls
 have htm2 := HG2.out.time
 have hcl2 := HG2.out.calls
 obtain ⟨m', hm'⟩ : ∃ m', (crash m keep torn) = m' := ⟨_, rfl⟩
 have HM : Hid _ := hm'
 obtain ⟨m2', hm2'⟩ : ∃ m', (crash m2 keep torn) = m' := ⟨_, rfl⟩
 have HM2 : Hid _ := hm2'
 replace b0 := hx1.cell b0
 have hsz1 := hx1.size
 clear hin hx1 hx01 hm' hm2' b1 b2 b3 b4 b5 b6 b7
 go_upto_region 29 with fail
 have HJ0 : Hid (DJ S O O' (fun k => k < w.heap.size) w1 (.pointer (some ⟨gf, 0, none⟩)) (.pointer (some ⟨gx, 0, none⟩)) m' m2' (fun _ => True) (fun _ => True) none none w1) := DJ.start (Ext.refl _)
 obtain ⟨c0, c1, c2, c3, c4, c5, c6, c7⟩ := cellsAt8 HB1.out
 go_wp2_with fail
 go_at_call 28
 refine (crash_any keep torn (DJ.fin HP.out HNG.out HJ0.out).fs HG.out.ok (by omega) hkp htn).mono ?_
 rintro e wf ⟨rfl, h4⟩
 rw [HM.out] at h4
 have HJF : Hid (DJ S O O' (fun k => k < w.heap.size) w1 (.pointer (some ⟨gf, 0, none⟩)) (.pointer (some ⟨gx, 0, none⟩)) m' m2' (fun _ => True) (fun _ => True) (some (.bool true)) none wf) := DJ.setF HP.out HJ0.out (by trivial) h4
 obtain ⟨c0, c1, c2, c3, c4, c5, c6, c7⟩ := cellsAt8 (DJ.row HJF.out HB1.out HNO.out.1 HNO.out.2)
 clear h4
 go_wp2_with fail
 go_at_call 96
 refine (crashR_any keep torn (DJ.rin HP.out HJF.out).fs HG2.out.ok (by omega) hkp htn).mono ?_
 rintro e w2 ⟨rfl, h4⟩
 rw [HM2.out] at h4
 have hjx : DJ S O O' (fun k => k < w.heap.size) w1 (.pointer (some ⟨gf, 0, none⟩)) (.pointer (some ⟨gx, 0, none⟩)) m' m2' (fun _ => True) (fun _ => True) (some (.bool true)) (some (.bool true)) w2 := DJ.setR HP.out HJF.out (by trivial) h4
 obtain ⟨-, -, hboth⟩ := hjx
 clear h4 c0 c1 c2 c3 c4 c5 c6 c7
 have HBO : Hid _ := hboth
 have hb2 := hboth.fr.row HB1.out (fun h => h.elim HNO.out.1 HNO.out.2)
 obtain ⟨-, -, -, -, -, -, c6, -⟩ := cellsAt8 hb2
 have HBI : Hid (IsBytes w2 (.slice ia data.length ic) data) := Row.keepB HIN.out HTI.out hboth.fr.keep
 have HBD : Hid (IsBytes w2 (.slice da data.length dc) data) := OldB.at HD0.out (Ext.of_fr HB0.out hboth.fr (fun k hk => hk.elim (HP.out.high k) (HP.out.rin.high k)))
 have HOW : Hid (w2.ownsRow wb.heap.size 5 1 (.slice ia data.length ic) data.length (data.map fun x => .int .u8 x.toNat)) := by
  refine ⟨HOI.out.1, HOI.out.2.imp id ?_⟩
  rintro ⟨g, cap, cur, h1, h2, h3, h4⟩
  exact ⟨g, cap, cur, h1, h2, (hboth.fr.keep.2 _ ⟨_, _, _, h3, byt_u8⟩).trans h3, h4⟩
 have hdl := HD1.out.len
 have HIB : Hid (∀ k, (Value.slice ia data.length ic).ownBlock = some k → w.heap.size ≤ k ∧ k < w1.heap.size) := fun k hk => by
  have := World.ownsRow.lt HOI.out k hk
  omega
 clear hb2 hboth
 go_upto_region 37 with fail
 go_wp2_with fail
 go_at_call 100
 refine (bytesEq_any _ _ _ _ _ HBI.out HBD.out).mono ?_
 rw [beq_self_eq_true]
 rintro e w3 ⟨rfl, rfl⟩
 clear c6
 go_wp2_with fail
 go_loopw [17] (fun i wr => ∃ (k : Nat) (xs : List Value), k ≤ data.length ∧ i = .int .i64 k ∧ wr.ownsRow wb.heap.size 5 1 (.slice ia data.length ic) data.length xs ∧ U8s xs ∧ w3.grownBy wr (Value.slice ia data.length ic).ownBlock) (fun i _ => data.length - (intOf i).toNat)
 case atStart => exact ⟨0, _, Nat.zero_le _, rfl, HOW.out, U8s.map _, ⟨rfl, rfl, rfl, Nat.le_refl _, fun _ _ _ => rfl⟩⟩
 case round =>
  obtain ⟨k, ys, hk, rfl, hown, hu8, hgr⟩ := hrel
  have HOW3 : Hid _ := hown
  have HU : Hid _ := hu8
  have HGR : Hid _ := hgr
  have hyl : ys.length = data.length := by have := hown.1; omega
  clear hown hu8 hgr
  by_cases hlt : k < data.length
  ·obtain ⟨g, cap', hge⟩ := owns_some HOW3.out (by omega)
   simp only [Value.slice.injEq, true_and] at hge
   obtain ⟨rfl, rfl⟩ := hge
   obtain ⟨u, hu⟩ : ∃ u, ys[k]? = some u := ⟨_, List.getElem?_eq_getElem (by omega)⟩
   obtain ⟨b, hb, rfl⟩ := HU.out k u hu
   have hcell : wr.cell? ⟨g, k, none⟩ = some (.int .u8 b) := by
    rw [World.ownsRow.cellAt HOW3.out k (by omega)]
    exact hu
   have hfz := World.ownsRow.frozenAt HOW3.out k
   clear hu
   go_wp2
   go_roundw
   case rel =>
    obtain ⟨ho3, hg3⟩ := World.ownsRow.stored HOW3.out k (.int .u8 (((b : Int) + 1) % 256))
    refine ⟨k + 1, ys.set k (.int .u8 (((b : Int) + 1) % 256)), by omega, by go_num, ho3, ?_, HGR.out.trans hg3⟩
    have he : ((b : Int) + 1) % 256 = (((b + 1) % 256 : Nat) : Int) := by omega
    rw [he]
    exact U8s.set HU.out k _ (by omega)
   case measure => simp [intOf]; omega
  ·have hkk : k = data.length := by omega
   subst hkk
   go_wp2
   go_ret
   rw [HM.out, HM2.out]
   exact ⟨⟨_, rfl, fun _ => rfl⟩, Two2.done HT.out HX01.out HBO.out HIB.out HGR.out⟩

end Go.Proofs.YtfimfbdlegookaaGreatDoor

/-! marlaw5.Does: Reboot. Conditions: as each theorem states. -/
namespace Go.Proofs.YtfimfbdlegookaaGreatDoor
open Go Go.RowKit
variable [Inhabited BaseW]

set_option maxRecDepth 100000 in
set_option maxHeartbeats 8000000 in
theorem does_k11 {w0 w : World} {S O O' : Nat → Prop} {fv xv : Value} {m m2 : Fs} {n : Nat} {cs : List Value} {mode keep torn : Int} {path dest data : B8} {plan : List Ev} (hT : Two2 w0 S O O' w fv xv m m2) (hE : Env w0) (hg : Good n m) (hg2 : Good n m2) (hn : n ≤ 1000) (ho : IsOpn w0 cs ⟨11, mode, keep, torn, path, dest, data, plan⟩) (hok : OpOk ⟨11, mode, keep, torn, path, dest, data, plan⟩) :
  Calls Tryz.prog 37 #[fv, xv, .agg cs.toArray] w (DoesPost2 w0 S O O' fv xv m m2 (rebootM m) (rebootM m2) w) := by
 obtain ⟨vd, vp, rfl, hd, hpl⟩ := ho
 obtain ⟨da, dc, rfl, -⟩ := id hd.bytes
 obtain ⟨_, ⟨pa, pc, rfl, -⟩, -⟩ := id hpl
 simp only at hd hpl
 have hp := hok.path
 have hq := hok.dest
 have hkp := hok.keep
 have htn := hok.torn
 have hfw := hok.few
 simp only at hp hq hkp htn hfw
 have hx0 := hT.ext
 have hba := hT.base
 obtain ⟨gf, hgf⟩ : ∃ g, fv = .pointer (some ⟨g, 0, none⟩) := by
  obtain ⟨g, gm, gd, vp, vl, vu, L, c0, hpe, -⟩ := hT.fs
  exact ⟨g, hpe⟩
 subst hgf
 obtain ⟨gx, rfl⟩ := hT.ref.ptr
 obtain ⟨wb, hwb⟩ : ∃ wb, wb = w.alloc (.cells #[.int .i64 11, .int .i64 mode, .int .i64 keep, .int .i64 torn, S8 path, S8 dest, .slice da data.length dc, .slice pa plan.length pc] 34) := ⟨_, rfl⟩
 have hxb : Ext w wb := by rw [hwb]; exact (Ext.refl _).alloc _
 have hbb : wb.heap[w.heap.size]? = some (.cells #[.int .i64 11, .int .i64 mode, .int .i64 keep, .int .i64 torn, S8 path, S8 dest, .slice da data.length dc, .slice pa plan.length pc] 34 (0, 0)) := by rw [hwb]; exact alloc_at _ _
 obtain ⟨b0, b1, b2, b3, b4, b5, b6, b7⟩ := cellsAt8 hbb
 have hsb : w.heap.size < wb.heap.size := by rw [hwb]; simp
 have HT : Hid _ := hT
 have HE : Hid _ := hE
 have HG : Hid _ := hg
 have HG2 : Hid _ := hg2
 have HWB : Hid _ := hwb
 have HXB : Hid _ := hxb
 have HBB : Hid _ := hbb
 have HD0 : Hid (OldB (.slice da data.length dc) data) := hd
 have HBA : Hid _ := hba
 have HX0 : Hid _ := hx0
 have HPL : Hid (ReadO w0 IsEvI (.slice pa plan.length pc) plan) := hpl
 have HDB : Hid _ := OldB.at hd ((hba.trans hx0).trans hxb)
 have HOKK : Hid _ := hok
 clear hT hE hg hg2 hwb hxb hbb hd hx0 hba hpl hok
 go_enter Tryz.func37, Tryz.ntmps37
 go_upto_region 1 with fail
 rw [show w.alloc (.cells #[.int .i64 11, .int .i64 mode, .int .i64 keep, .int .i64 torn, S8 path, S8 dest, .slice da data.length dc, .slice pa plan.length pc] 34) = wb from HWB.out.symm]
 go_wp2_with fail
 go_at_call 87
 refine (copyB_own _ data _ HDB.out).mono ?_
 rintro e w1 ⟨⟨vin, rfl, hin⟩, hx1⟩
 obtain ⟨ia, ic, hie, -⟩ := Row.of_owns hin HD0.out.bytes.len
 subst hie
 have HIN : Hid (IsBytes w1 (.slice ia data.length ic) data) := Row.of_owns hin HD0.out.bytes.len
 have HTI : Hid (TypB w1 (.slice ia data.length ic)) := TypB.of_owns hin
 have HOI : Hid _ := hin
 have hx01 : Ext w w1 := Ext.trans HXB.out hx1
 have HP : Hid (Pair S O O' (fun k => k < w.heap.size) w1 (.pointer (some ⟨gf, 0, none⟩)) (.pointer (some ⟨gx, 0, none⟩)) m m2) := Two2.pair HT.out HE.out HG.out HG2.out hn hx01
 have HNG : Hid _ := (Two2.noG HT.out HE.out).2
 have HB1 : Hid _ := hx1.row HBB.out
 have HNO : Hid (¬ O w.heap.size ∧ ¬ O' w.heap.size) := ⟨fun h => by have := HT.out.lo _ h; omega, fun h => by have := HT.out.lo' _ h; omega⟩
 have HB0 : Hid (Ext baseW w1) := Ext.trans (Ext.trans HBA.out HX0.out) hx01
 have HD1 : Hid (IsBytes w1 (.slice da data.length dc) data) := OldB.at HD0.out HB0.out
 have HX01 : Hid _ := hx01
 have htm := HG.out.time
 have hcl := HG.out.calls
 have htm2 := HG2.out.time
 have hcl2 := HG2.out.calls
 obtain ⟨m', hm'⟩ : ∃ m', (rebootM m) = m' := ⟨_, rfl⟩
 have HM : Hid _ := hm'
 obtain ⟨m2', hm2'⟩ : ∃ m', (rebootM m2) = m' := ⟨_, rfl⟩
 have HM2 : Hid _ := hm2'
 replace b0 := hx1.cell b0
 have hsz1 := hx1.size
 clear hin hx1 hx01 hm' hm2' b1 b2 b3 b4 b5 b6 b7
 go_upto_region 32 with fail
 have HJ0 : Hid (DJ S O O' (fun k => k < w.heap.size) w1 (.pointer (some ⟨gf, 0, none⟩)) (.pointer (some ⟨gx, 0, none⟩)) m' m2' (fun _ => True) (fun _ => True) none none w1) := DJ.start (Ext.refl _)
 obtain ⟨c0, c1, c2, c3, c4, c5, c6, c7⟩ := cellsAt8 HB1.out
 go_wp2_with fail
 go_at_call 29
 refine (reboot_any (DJ.fin HP.out HNG.out HJ0.out).fs).mono ?_
 rintro e wf ⟨rfl, h4⟩
 rw [HM.out] at h4
 have HJF : Hid (DJ S O O' (fun k => k < w.heap.size) w1 (.pointer (some ⟨gf, 0, none⟩)) (.pointer (some ⟨gx, 0, none⟩)) m' m2' (fun _ => True) (fun _ => True) (some (.bool true)) none wf) := DJ.setF HP.out HJ0.out (by trivial) h4
 obtain ⟨c0, c1, c2, c3, c4, c5, c6, c7⟩ := cellsAt8 (DJ.row HJF.out HB1.out HNO.out.1 HNO.out.2)
 clear h4
 go_wp2_with fail
 go_at_call 97
 refine (rebootR_any (DJ.rin HP.out HJF.out).fs).mono ?_
 rintro e w2 ⟨rfl, h4⟩
 rw [HM2.out] at h4
 have hjx : DJ S O O' (fun k => k < w.heap.size) w1 (.pointer (some ⟨gf, 0, none⟩)) (.pointer (some ⟨gx, 0, none⟩)) m' m2' (fun _ => True) (fun _ => True) (some (.bool true)) (some (.bool true)) w2 := DJ.setR HP.out HJF.out (by trivial) h4
 obtain ⟨-, -, hboth⟩ := hjx
 clear h4 c0 c1 c2 c3 c4 c5 c6 c7
 have HBO : Hid _ := hboth
 have hb2 := hboth.fr.row HB1.out (fun h => h.elim HNO.out.1 HNO.out.2)
 obtain ⟨-, -, -, -, -, -, c6, -⟩ := cellsAt8 hb2
 have HBI : Hid (IsBytes w2 (.slice ia data.length ic) data) := Row.keepB HIN.out HTI.out hboth.fr.keep
 have HBD : Hid (IsBytes w2 (.slice da data.length dc) data) := OldB.at HD0.out (Ext.of_fr HB0.out hboth.fr (fun k hk => hk.elim (HP.out.high k) (HP.out.rin.high k)))
 have HOW : Hid (w2.ownsRow wb.heap.size 5 1 (.slice ia data.length ic) data.length (data.map fun x => .int .u8 x.toNat)) := by
  refine ⟨HOI.out.1, HOI.out.2.imp id ?_⟩
  rintro ⟨g, cap, cur, h1, h2, h3, h4⟩
  exact ⟨g, cap, cur, h1, h2, (hboth.fr.keep.2 _ ⟨_, _, _, h3, byt_u8⟩).trans h3, h4⟩
 have hdl := HD1.out.len
 have HIB : Hid (∀ k, (Value.slice ia data.length ic).ownBlock = some k → w.heap.size ≤ k ∧ k < w1.heap.size) := fun k hk => by
  have := World.ownsRow.lt HOI.out k hk
  omega
 clear hb2 hboth
 go_upto_region 37 with fail
 go_wp2_with fail
 go_at_call 100
 refine (bytesEq_any _ _ _ _ _ HBI.out HBD.out).mono ?_
 rw [beq_self_eq_true]
 rintro e w3 ⟨rfl, rfl⟩
 clear c6
 go_wp2_with fail
 go_loopw [17] (fun i wr => ∃ (k : Nat) (xs : List Value), k ≤ data.length ∧ i = .int .i64 k ∧ wr.ownsRow wb.heap.size 5 1 (.slice ia data.length ic) data.length xs ∧ U8s xs ∧ w3.grownBy wr (Value.slice ia data.length ic).ownBlock) (fun i _ => data.length - (intOf i).toNat)
 case atStart => exact ⟨0, _, Nat.zero_le _, rfl, HOW.out, U8s.map _, ⟨rfl, rfl, rfl, Nat.le_refl _, fun _ _ _ => rfl⟩⟩
 case round =>
  obtain ⟨k, ys, hk, rfl, hown, hu8, hgr⟩ := hrel
  have HOW3 : Hid _ := hown
  have HU : Hid _ := hu8
  have HGR : Hid _ := hgr
  have hyl : ys.length = data.length := by have := hown.1; omega
  clear hown hu8 hgr
  by_cases hlt : k < data.length
  ·obtain ⟨g, cap', hge⟩ := owns_some HOW3.out (by omega)
   simp only [Value.slice.injEq, true_and] at hge
   obtain ⟨rfl, rfl⟩ := hge
   obtain ⟨u, hu⟩ : ∃ u, ys[k]? = some u := ⟨_, List.getElem?_eq_getElem (by omega)⟩
   obtain ⟨b, hb, rfl⟩ := HU.out k u hu
   have hcell : wr.cell? ⟨g, k, none⟩ = some (.int .u8 b) := by
    rw [World.ownsRow.cellAt HOW3.out k (by omega)]
    exact hu
   have hfz := World.ownsRow.frozenAt HOW3.out k
   clear hu
   go_wp2
   go_roundw
   case rel =>
    obtain ⟨ho3, hg3⟩ := World.ownsRow.stored HOW3.out k (.int .u8 (((b : Int) + 1) % 256))
    refine ⟨k + 1, ys.set k (.int .u8 (((b : Int) + 1) % 256)), by omega, by go_num, ho3, ?_, HGR.out.trans hg3⟩
    have he : ((b : Int) + 1) % 256 = (((b + 1) % 256 : Nat) : Int) := by omega
    rw [he]
    exact U8s.set HU.out k _ (by omega)
   case measure => simp [intOf]; omega
  ·have hkk : k = data.length := by omega
   subst hkk
   go_wp2
   go_ret
   rw [HM.out, HM2.out]
   exact ⟨⟨_, rfl, fun _ => rfl⟩, Two2.done HT.out HX01.out HBO.out HIB.out HGR.out⟩

end Go.Proofs.YtfimfbdlegookaaGreatDoor

/-! marlaw5: Plain, FewEvents: events for the document; are events few and small? Conditions: at most 1000 events for the one. -/
namespace Go.Proofs.YtfimfbdlegookaaGreatDoor
open Go Go.RowKit
variable [Inhabited BaseW]


set_option maxRecDepth 100000 in
set_option maxHeartbeats 1000000 in
theorem plainEvs_any {w : World} {v : Value} {L : List Ev} (hv : ReadO w IsEvD v L) (hn : L.length ≤ 9000000) :
  Calls Tryz.prog 99 #[v] w fun e w' => (∃ v', e = .returned v' ∧ (∃ css : List (List Value), w'.ownsRow w.heap.size 146 7 v' L.length css.flatten ∧ Each IsEvD css L)) ∧ Ext w w' := by
 obtain ⟨a, cap, rfl, h1, h2, h3, h4⟩ := readO_get 7 (fun c x hx => hx.length.1) (by omega) hv
 have H4 : Hid _ := h4
 clear h4 hv
 go_enter Tryz.func99, Tryz.ntmps99
 go_wp2
 go_loopw [3, 4] (fun v i wr => ∃ (k : Nat) (css : List (List Value)), k ≤ L.length ∧ i = .int .i64 k ∧ wr.ownsRow w.heap.size 146 7 v k css.flatten ∧ Each IsEvD css (L.take k) ∧ Ext w wr) (fun _ i _ => L.length - (intOf i).toNat)
 case atStart => exact ⟨0, [], Nat.zero_le _, rfl, World.ownsRow_nil _ _ _ _, Each.nil _, Ext.refl _⟩
 case round =>
  obtain ⟨k, css, hk, rfl, hown, heach, hx⟩ := hrel
  have HEA : Hid _ := heach
  clear heach
  by_cases hlt : k < L.length
  ·obtain ⟨e, hke⟩ : ∃ e, L[k]? = some e := ⟨_, List.getElem?_eq_getElem hlt⟩
   obtain ⟨b, o, cs, rfl, hev, hc⟩ := H4.out k e hke
   have HEV : Hid _ := hev
   obtain ⟨vd, rfl, hd, -⟩ := id hev
   obtain ⟨d1, d2, rfl, -⟩ := id hd.bytes
   have HTK : Hid (L.take (k + 1) = L.take k ++ [e]) := by unfold Hid; rw [List.take_add_one, hke]; rfl
   have c0 := hx.cell (hc 0 _ rfl)
   have c1 := hx.cell (hc 1 _ rfl)
   have c2 := hx.cell (hc 2 _ rfl)
   have c3 := hx.cell (hc 3 _ rfl)
   have c4 := hx.cell (hc 4 _ rfl)
   have c5 := hx.cell (hc 5 _ rfl)
   have c6 := hx.cell (hc 6 _ rfl)
   simp only [Nat.add_zero] at c0
   have hsz := hx.size
   clear hev hd hc hke
   go_wp2_with (at_builtin; go_must (refine app_re rfl _ _ rfl w.heap.size _ k _ rfl ((hown.alloc _).alloc _) (wr.heap.size + 1) 1 [.int .i64 e.t, .int .i64 e.kind, .int .i64 e.mode, .int .i64 e.keep, .int .i64 e.torn, S8 e.path, .slice d1 e.data.length d2] rfl rfl (alloc_at1 _ _ _) (by simp [Value.oneCell']) (by omega) (by simp; omega) ?_; intro v' w3 hown3 hg3 _))
   go_roundw
   case rel =>
    refine ⟨k + 1, css ++ [[.int .i64 e.t, .int .i64 e.kind, .int .i64 e.mode, .int .i64 e.keep, .int .i64 e.torn, S8 e.path, .slice d1 e.data.length d2]], by omega, by go_num, ?_, by rw [HTK.out]; exact Each.snoc HEA.out HEV.out, owns_ext_app ((hx.alloc _).alloc _) ((hown.alloc _).alloc _) hg3⟩
    rw [List.flatten_append]
    simpa using hown3
   case measure => simp [intOf]; omega
  ·have hkk : k = L.length := by omega
   subst hkk
   have he := HEA.out
   rw [List.take_length] at he
   have hres : ∃ css : List (List Value), wr.ownsRow w.heap.size 146 7 u3 L.length css.flatten ∧ Each IsEvD css L := ⟨css, hown, he⟩
   have HR : Hid _ := hres
   clear hres hown he
   go_wp2
   go_ret
   exact ⟨⟨_, rfl, HR.out⟩, hx⟩

end Go.Proofs.YtfimfbdlegookaaGreatDoor

/-! marlaw5.Does: Plan. Conditions: as each theorem states. -/
namespace Go.Proofs.YtfimfbdlegookaaGreatDoor
open Go Go.RowKit
variable [Inhabited BaseW]

set_option maxRecDepth 100000 in
set_option maxHeartbeats 8000000 in
theorem does_k12 {w0 w : World} {S O O' : Nat → Prop} {fv xv : Value} {m m2 : Fs} {n : Nat} {cs : List Value} {mode keep torn : Int} {path dest data : B8} {plan : List Ev} (hT : Two2 w0 S O O' w fv xv m m2) (hE : Env w0) (hg : Good n m) (hg2 : Good n m2) (hn : n ≤ 1000) (ho : IsOpn w0 cs ⟨12, mode, keep, torn, path, dest, data, plan⟩) (hok : OpOk ⟨12, mode, keep, torn, path, dest, data, plan⟩) :
  Calls Tryz.prog 37 #[fv, xv, .agg cs.toArray] w (DoesPost2 w0 S O O' fv xv m m2 (planM m plan) (planM m2 plan) w) := by
 obtain ⟨vd, vp, rfl, hd, hpl⟩ := ho
 obtain ⟨da, dc, rfl, -⟩ := id hd.bytes
 obtain ⟨_, ⟨pa, pc, rfl, -⟩, -⟩ := id hpl
 simp only at hd hpl
 have hp := hok.path
 have hq := hok.dest
 have hkp := hok.keep
 have htn := hok.torn
 have hfw := hok.few
 simp only at hp hq hkp htn hfw
 have hx0 := hT.ext
 have hba := hT.base
 obtain ⟨gf, hgf⟩ : ∃ g, fv = .pointer (some ⟨g, 0, none⟩) := by
  obtain ⟨g, gm, gd, vp, vl, vu, L, c0, hpe, -⟩ := hT.fs
  exact ⟨g, hpe⟩
 subst hgf
 obtain ⟨gx, rfl⟩ := hT.ref.ptr
 obtain ⟨wb, hwb⟩ : ∃ wb, wb = w.alloc (.cells #[.int .i64 12, .int .i64 mode, .int .i64 keep, .int .i64 torn, S8 path, S8 dest, .slice da data.length dc, .slice pa plan.length pc] 34) := ⟨_, rfl⟩
 have hxb : Ext w wb := by rw [hwb]; exact (Ext.refl _).alloc _
 have hbb : wb.heap[w.heap.size]? = some (.cells #[.int .i64 12, .int .i64 mode, .int .i64 keep, .int .i64 torn, S8 path, S8 dest, .slice da data.length dc, .slice pa plan.length pc] 34 (0, 0)) := by rw [hwb]; exact alloc_at _ _
 obtain ⟨b0, b1, b2, b3, b4, b5, b6, b7⟩ := cellsAt8 hbb
 have hsb : w.heap.size < wb.heap.size := by rw [hwb]; simp
 have HT : Hid _ := hT
 have HE : Hid _ := hE
 have HG : Hid _ := hg
 have HG2 : Hid _ := hg2
 have HWB : Hid _ := hwb
 have HXB : Hid _ := hxb
 have HBB : Hid _ := hbb
 have HD0 : Hid (OldB (.slice da data.length dc) data) := hd
 have HBA : Hid _ := hba
 have HX0 : Hid _ := hx0
 have HPL : Hid (ReadO w0 IsEvI (.slice pa plan.length pc) plan) := hpl
 have HDB : Hid _ := OldB.at hd ((hba.trans hx0).trans hxb)
 have HOKK : Hid _ := hok
 clear hT hE hg hg2 hwb hxb hbb hd hx0 hba hpl hok
 go_enter Tryz.func37, Tryz.ntmps37
 go_upto_region 1 with fail
 rw [show w.alloc (.cells #[.int .i64 12, .int .i64 mode, .int .i64 keep, .int .i64 torn, S8 path, S8 dest, .slice da data.length dc, .slice pa plan.length pc] 34) = wb from HWB.out.symm]
 go_wp2_with fail
 go_at_call 87
 refine (copyB_own _ data _ HDB.out).mono ?_
 rintro e w1 ⟨⟨vin, rfl, hin⟩, hx1⟩
 obtain ⟨ia, ic, hie, -⟩ := Row.of_owns hin HD0.out.bytes.len
 subst hie
 have HIN : Hid (IsBytes w1 (.slice ia data.length ic) data) := Row.of_owns hin HD0.out.bytes.len
 have HTI : Hid (TypB w1 (.slice ia data.length ic)) := TypB.of_owns hin
 have HOI : Hid _ := hin
 have hx01 : Ext w w1 := Ext.trans HXB.out hx1
 have HP : Hid (Pair S O O' (fun k => k < w.heap.size) w1 (.pointer (some ⟨gf, 0, none⟩)) (.pointer (some ⟨gx, 0, none⟩)) m m2) := Two2.pair HT.out HE.out HG.out HG2.out hn hx01
 have HNG : Hid _ := (Two2.noG HT.out HE.out).2
 have HB1 : Hid _ := hx1.row HBB.out
 have HNO : Hid (¬ O w.heap.size ∧ ¬ O' w.heap.size) := ⟨fun h => by have := HT.out.lo _ h; omega, fun h => by have := HT.out.lo' _ h; omega⟩
 have HB0 : Hid (Ext baseW w1) := Ext.trans (Ext.trans HBA.out HX0.out) hx01
 have HD1 : Hid (IsBytes w1 (.slice da data.length dc) data) := OldB.at HD0.out HB0.out
 have HX01 : Hid _ := hx01
 have htm := HG.out.time
 have hcl := HG.out.calls
 have htm2 := HG2.out.time
 have hcl2 := HG2.out.calls
 obtain ⟨m', hm'⟩ : ∃ m', (planM m plan) = m' := ⟨_, rfl⟩
 have HM : Hid _ := hm'
 obtain ⟨m2', hm2'⟩ : ∃ m', (planM m2 plan) = m' := ⟨_, rfl⟩
 have HM2 : Hid _ := hm2'
 replace b0 := hx1.cell b0
 have hsz1 := hx1.size
 clear hin hx1 hx01 hm' hm2' b1 b2 b3 b4 b5 b6 b7
 have HPB : Hid (ReadO w1 IsEvD (.slice pa plan.length pc) plan) := ReadO.dExt (ReadO.dUp HPL.out (fun e he => (HOKK.out.ev e he).2.2)) (Ext.trans HX0.out HX01.out)
 have HRB : Hid (ReadB w1 (.slice pa plan.length pc) plan) := ReadO.dRead HPB.out HB0.out
 have HPB0 : Hid (plan ≠ [] → ∀ k, (Value.slice pa plan.length pc).ownBlock = some k → k < w0.heap.size) := fun hn k hk => HPL.out.lt hn k hk
 have hw0 : w0.heap.size ≤ w.heap.size := Below.size HX0.out
 have hw1 : w.heap.size ≤ w1.heap.size := Below.size HX01.out
 have HLOW : Hid (∀ k, O k → w0.heap.size ≤ k ∧ k < w.heap.size) := HT.out.lo
 have HLOW' : Hid (∀ k, O' k → w0.heap.size ≤ k ∧ k < w.heap.size) := HT.out.lo'
 have HDIS : Hid (∀ k, O k → ¬ O' k) := HT.out.dis
 go_upto_region 35 with fail
 obtain ⟨c0, c1, c2, c3, c4, c5, c6, c7⟩ := cellsAt8 HB1.out
 go_wp2_with fail
 go_at_call 25
 refine (plan_any HP.out.fin.fs HP.out.fin.low HRB.out (by omega)).mono ?_
 rintro e wf ⟨rfl, hf4, hfr4⟩
 have HF4 : Hid (IsFs (Nu w1 wf) O (Nw (fun k => k < w.heap.size) w1 wf) wf (.pointer (some ⟨gf, 0, none⟩)) (planM m plan)) := hf4
 have HFR4 : Hid (Fr O w1 wf) := hfr4
 have hs4 := hfr4.size
 obtain ⟨c0, c1, c2, c3, c4, c5, c6, c7⟩ := cellsAt8 (hfr4.row HB1.out HNO.out.1)
 have HEV : Hid (ReadO wf IsEvD (.slice pa plan.length pc) plan) := ReadO.stay HPB.out hfr4.size (fun hn k hk => hfr4.block k (by have := HPB0.out hn k hk; omega) (.inl (fun ho => by have := HLOW.out k ho; have := HPB0.out hn k hk; omega)))
 have HR4 : Hid (RefIn O' (fun k => k < w.heap.size) wf (.pointer (some ⟨gx, 0, none⟩)) m2) := RefIn.other HP.out.rin hfr4 (fun k h1 h2 => HDIS.out k h2 h1) HP.out.high
 clear hf4 hfr4
 go_wp2_with fail
 go_at_call 99
 refine (plainEvs_any HEV.out (by omega)).mono ?_
 rintro e wg ⟨⟨vq, rfl, css, hown, heach⟩, hxg⟩
 obtain ⟨qa, qc, rfl, -⟩ := Row.of_owns hown (by omega)
 have HROW : Hid (Row wg (.slice qa plan.length qc) plan.length css.flatten) := Row.of_owns hown (by omega)
 have HEA : Hid _ := heach
 have HLT : Hid (∀ k, (Value.slice qa plan.length qc).ownBlock = some k → k < wg.heap.size ∧ ¬ O' k) := fun k hk => by
  have h9 := World.ownsRow.lt hown k hk
  exact ⟨h9.2, fun ho => by have := HLOW'.out k ho; omega⟩
 have HXG : Hid _ := hxg
 have hsg := hxg.size
 clear hown heach hxg c0 c1 c2 c3 c4 c5 c6 c7
 go_wp2_with fail
 go_at_call 98
 refine (planR_any (IsRef.ext HR4.out.fs HXG.out) HROW.out HEA.out HLT.out (by omega)).mono ?_
 rintro e w2 ⟨rfl, h5⟩
 have hs5 := h5.fr.size
 have hboth : Both S O O' (fun k => k < w.heap.size) w1 (.pointer (some ⟨gf, 0, none⟩)) (.pointer (some ⟨gx, 0, none⟩)) m' m2' w2 := by
  rw [← HM.out, ← HM2.out]
  refine ⟨⟨Nu w1 wf, O, Nw O' wg w2, ?_, ?_, fun k hk => ⟨.inr hk.1, by have := hk.2; omega, fun ho => by have := HLOW.out k ho; have := hk.1; omega, fun ho => ?_⟩, fun k hk => ⟨.inl hk, by have := HLOW.out k hk; omega⟩, fun k hk => ⟨hk.imp id (fun h => by omega), ?_⟩, fun k hk ho => ?_⟩, ?_⟩
  ·exact ((HF4.out.ext HXG.out).other h5.fr HDIS.out (fun k hk ho => by have := HLOW'.out k ho; have := hk.1; omega)).mono (fun _ h => h) (fun k hk => hk.fst (by omega))
  ·exact h5.fs.mono (fun _ h => h) (fun k hk => hk.imp id (fun h => ⟨by omega, h.2⟩))
  ·rcases ho with ho | ho
   ·have := HLOW'.out k ho; have := hk.1; omega
   ·have := hk.2; omega
  ·rcases hk with hk | hk
   ·have := HLOW'.out k hk; omega
   ·exact hk.2
  ·rcases ho with ho | ho
   ·exact HDIS.out k hk ho
   ·have := HLOW.out k hk; omega
  ·exact ((HFR4.out.ext HXG.out).mono (fun k hk => .inl hk)).trans (h5.fr.mono (fun k hk => .inl (.inr hk)))
 clear h5
 have HBO : Hid _ := hboth
 have hb2 := hboth.fr.row HB1.out (fun h => h.elim HNO.out.1 HNO.out.2)
 obtain ⟨-, -, -, -, -, -, c6, -⟩ := cellsAt8 hb2
 have HBI : Hid (IsBytes w2 (.slice ia data.length ic) data) := Row.keepB HIN.out HTI.out hboth.fr.keep
 have HBD : Hid (IsBytes w2 (.slice da data.length dc) data) := OldB.at HD0.out (Ext.of_fr HB0.out hboth.fr (fun k hk => hk.elim (HP.out.high k) (HP.out.rin.high k)))
 have HOW : Hid (w2.ownsRow wb.heap.size 5 1 (.slice ia data.length ic) data.length (data.map fun x => .int .u8 x.toNat)) := by
  refine ⟨HOI.out.1, HOI.out.2.imp id ?_⟩
  rintro ⟨g, cap, cur, h1, h2, h3, h4⟩
  exact ⟨g, cap, cur, h1, h2, (hboth.fr.keep.2 _ ⟨_, _, _, h3, byt_u8⟩).trans h3, h4⟩
 have hdl := HD1.out.len
 have HIB : Hid (∀ k, (Value.slice ia data.length ic).ownBlock = some k → w.heap.size ≤ k ∧ k < w1.heap.size) := fun k hk => by
  have := World.ownsRow.lt HOI.out k hk
  omega
 clear hb2 hboth
 go_upto_region 37 with fail
 go_wp2_with fail
 go_at_call 100
 refine (bytesEq_any _ _ _ _ _ HBI.out HBD.out).mono ?_
 rw [beq_self_eq_true]
 rintro e w3 ⟨rfl, rfl⟩
 clear c6
 go_wp2_with fail
 go_loopw [17] (fun i wr => ∃ (k : Nat) (xs : List Value), k ≤ data.length ∧ i = .int .i64 k ∧ wr.ownsRow wb.heap.size 5 1 (.slice ia data.length ic) data.length xs ∧ U8s xs ∧ w3.grownBy wr (Value.slice ia data.length ic).ownBlock) (fun i _ => data.length - (intOf i).toNat)
 case atStart => exact ⟨0, _, Nat.zero_le _, rfl, HOW.out, U8s.map _, ⟨rfl, rfl, rfl, Nat.le_refl _, fun _ _ _ => rfl⟩⟩
 case round =>
  obtain ⟨k, ys, hk, rfl, hown, hu8, hgr⟩ := hrel
  have HOW3 : Hid _ := hown
  have HU : Hid _ := hu8
  have HGR : Hid _ := hgr
  have hyl : ys.length = data.length := by have := hown.1; omega
  clear hown hu8 hgr
  by_cases hlt : k < data.length
  ·obtain ⟨g, cap', hge⟩ := owns_some HOW3.out (by omega)
   simp only [Value.slice.injEq, true_and] at hge
   obtain ⟨rfl, rfl⟩ := hge
   obtain ⟨u, hu⟩ : ∃ u, ys[k]? = some u := ⟨_, List.getElem?_eq_getElem (by omega)⟩
   obtain ⟨b, hb, rfl⟩ := HU.out k u hu
   have hcell : wr.cell? ⟨g, k, none⟩ = some (.int .u8 b) := by
    rw [World.ownsRow.cellAt HOW3.out k (by omega)]
    exact hu
   have hfz := World.ownsRow.frozenAt HOW3.out k
   clear hu
   go_wp2
   go_roundw
   case rel =>
    obtain ⟨ho3, hg3⟩ := World.ownsRow.stored HOW3.out k (.int .u8 (((b : Int) + 1) % 256))
    refine ⟨k + 1, ys.set k (.int .u8 (((b : Int) + 1) % 256)), by omega, by go_num, ho3, ?_, HGR.out.trans hg3⟩
    have he : ((b : Int) + 1) % 256 = (((b + 1) % 256 : Nat) : Int) := by omega
    rw [he]
    exact U8s.set HU.out k _ (by omega)
   case measure => simp [intOf]; omega
  ·have hkk : k = data.length := by omega
   subst hkk
   go_wp2
   go_ret
   rw [HM.out, HM2.out]
   exact ⟨⟨_, rfl, fun _ => rfl⟩, Two2.done HT.out HX01.out HBO.out HIB.out HGR.out⟩

end Go.Proofs.YtfimfbdlegookaaGreatDoor

/-! marlaw5.Does: another kind. Conditions: as each theorem states. -/
namespace Go.Proofs.YtfimfbdlegookaaGreatDoor
open Go Go.RowKit
variable [Inhabited BaseW]

set_option maxRecDepth 100000 in
set_option maxHeartbeats 8000000 in
theorem does_k13 {w0 w : World} {S O O' : Nat → Prop} {fv xv : Value} {m m2 : Fs} {n : Nat} {cs : List Value} {kind mode keep torn : Int} {path dest data : B8} {plan : List Ev} (hT : Two2 w0 S O O' w fv xv m m2) (hE : Env w0) (hg : Good n m) (hg2 : Good n m2) (hn : n ≤ 1000) (ho : IsOpn w0 cs ⟨kind, mode, keep, torn, path, dest, data, plan⟩) (hok : OpOk ⟨kind, mode, keep, torn, path, dest, data, plan⟩) (hkd : kind < 0 ∨ 12 < kind) :
  Calls Tryz.prog 37 #[fv, xv, .agg cs.toArray] w (DoesPost2 w0 S O O' fv xv m m2 m m2 w) := by
 obtain ⟨vd, vp, rfl, hd, hpl⟩ := ho
 obtain ⟨da, dc, rfl, -⟩ := id hd.bytes
 obtain ⟨_, ⟨pa, pc, rfl, -⟩, -⟩ := id hpl
 simp only at hd hpl
 have hp := hok.path
 have hq := hok.dest
 have hkp := hok.keep
 have htn := hok.torn
 have hfw := hok.few
 simp only at hp hq hkp htn hfw
 have hx0 := hT.ext
 have hba := hT.base
 obtain ⟨gf, hgf⟩ : ∃ g, fv = .pointer (some ⟨g, 0, none⟩) := by
  obtain ⟨g, gm, gd, vp, vl, vu, L, c0, hpe, -⟩ := hT.fs
  exact ⟨g, hpe⟩
 subst hgf
 obtain ⟨gx, rfl⟩ := hT.ref.ptr
 obtain ⟨wb, hwb⟩ : ∃ wb, wb = w.alloc (.cells #[.int .i64 kind, .int .i64 mode, .int .i64 keep, .int .i64 torn, S8 path, S8 dest, .slice da data.length dc, .slice pa plan.length pc] 34) := ⟨_, rfl⟩
 have hxb : Ext w wb := by rw [hwb]; exact (Ext.refl _).alloc _
 have hbb : wb.heap[w.heap.size]? = some (.cells #[.int .i64 kind, .int .i64 mode, .int .i64 keep, .int .i64 torn, S8 path, S8 dest, .slice da data.length dc, .slice pa plan.length pc] 34 (0, 0)) := by rw [hwb]; exact alloc_at _ _
 obtain ⟨b0, b1, b2, b3, b4, b5, b6, b7⟩ := cellsAt8 hbb
 have hsb : w.heap.size < wb.heap.size := by rw [hwb]; simp
 have HT : Hid _ := hT
 have HE : Hid _ := hE
 have HG : Hid _ := hg
 have HG2 : Hid _ := hg2
 have HWB : Hid _ := hwb
 have HXB : Hid _ := hxb
 have HBB : Hid _ := hbb
 have HD0 : Hid (OldB (.slice da data.length dc) data) := hd
 have HBA : Hid _ := hba
 have HX0 : Hid _ := hx0
 have HPL : Hid (ReadO w0 IsEvI (.slice pa plan.length pc) plan) := hpl
 have HDB : Hid _ := OldB.at hd ((hba.trans hx0).trans hxb)
 have HOKK : Hid _ := hok
 clear hT hE hg hg2 hwb hxb hbb hd hx0 hba hpl hok
 go_enter Tryz.func37, Tryz.ntmps37
 go_upto_region 1 with fail
 rw [show w.alloc (.cells #[.int .i64 kind, .int .i64 mode, .int .i64 keep, .int .i64 torn, S8 path, S8 dest, .slice da data.length dc, .slice pa plan.length pc] 34) = wb from HWB.out.symm]
 go_wp2_with fail
 go_at_call 87
 refine (copyB_own _ data _ HDB.out).mono ?_
 rintro e w1 ⟨⟨vin, rfl, hin⟩, hx1⟩
 obtain ⟨ia, ic, hie, -⟩ := Row.of_owns hin HD0.out.bytes.len
 subst hie
 have HIN : Hid (IsBytes w1 (.slice ia data.length ic) data) := Row.of_owns hin HD0.out.bytes.len
 have HTI : Hid (TypB w1 (.slice ia data.length ic)) := TypB.of_owns hin
 have HOI : Hid _ := hin
 have hx01 : Ext w w1 := Ext.trans HXB.out hx1
 have HP : Hid (Pair S O O' (fun k => k < w.heap.size) w1 (.pointer (some ⟨gf, 0, none⟩)) (.pointer (some ⟨gx, 0, none⟩)) m m2) := Two2.pair HT.out HE.out HG.out HG2.out hn hx01
 have HNG : Hid _ := (Two2.noG HT.out HE.out).2
 have HB1 : Hid _ := hx1.row HBB.out
 have HNO : Hid (¬ O w.heap.size ∧ ¬ O' w.heap.size) := ⟨fun h => by have := HT.out.lo _ h; omega, fun h => by have := HT.out.lo' _ h; omega⟩
 have HB0 : Hid (Ext baseW w1) := Ext.trans (Ext.trans HBA.out HX0.out) hx01
 have HD1 : Hid (IsBytes w1 (.slice da data.length dc) data) := OldB.at HD0.out HB0.out
 have HX01 : Hid _ := hx01
 have htm := HG.out.time
 have hcl := HG.out.calls
 have htm2 := HG2.out.time
 have hcl2 := HG2.out.calls
 obtain ⟨m', hm'⟩ : ∃ m', m = m' := ⟨_, rfl⟩
 have HM : Hid _ := hm'
 obtain ⟨m2', hm2'⟩ : ∃ m', m2 = m' := ⟨_, rfl⟩
 have HM2 : Hid _ := hm2'
 replace b0 := hx1.cell b0
 have hsz1 := hx1.size
 clear hin hx1 hx01 hm' hm2' b1 b2 b3 b4 b5 b6 b7
 have hboth : Both S O O' (fun k => k < w.heap.size) w1 (.pointer (some ⟨gf, 0, none⟩)) (.pointer (some ⟨gx, 0, none⟩)) m' m2' w1 := by
  rw [← HM.out, ← HM2.out]
  exact Both.same HP.out (Ext.refl _)
 have e0 : (kind == 0) = false := by rw [beq_eq_false_iff_ne]; omega
 have e1 : (kind == 1) = false := by rw [beq_eq_false_iff_ne]; omega
 have e2 : (kind == 2) = false := by rw [beq_eq_false_iff_ne]; omega
 have e3 : (kind == 3) = false := by rw [beq_eq_false_iff_ne]; omega
 have e4 : (kind == 4) = false := by rw [beq_eq_false_iff_ne]; omega
 have e5 : (kind == 5) = false := by rw [beq_eq_false_iff_ne]; omega
 have e6 : (kind == 6) = false := by rw [beq_eq_false_iff_ne]; omega
 have e7 : (kind == 7) = false := by rw [beq_eq_false_iff_ne]; omega
 have e8 : (kind == 8) = false := by rw [beq_eq_false_iff_ne]; omega
 have e9 : (kind == 9) = false := by rw [beq_eq_false_iff_ne]; omega
 have e10 : (kind == 10) = false := by rw [beq_eq_false_iff_ne]; omega
 have e11 : (kind == 11) = false := by rw [beq_eq_false_iff_ne]; omega
 have e12 : (kind == 12) = false := by rw [beq_eq_false_iff_ne]; omega
 have HBO : Hid _ := hboth
 have hb2 := hboth.fr.row HB1.out (fun h => h.elim HNO.out.1 HNO.out.2)
 obtain ⟨-, -, -, -, -, -, c6, -⟩ := cellsAt8 hb2
 have HBI : Hid (IsBytes w1 (.slice ia data.length ic) data) := Row.keepB HIN.out HTI.out hboth.fr.keep
 have HBD : Hid (IsBytes w1 (.slice da data.length dc) data) := OldB.at HD0.out (Ext.of_fr HB0.out hboth.fr (fun k hk => hk.elim (HP.out.high k) (HP.out.rin.high k)))
 have HOW : Hid (w1.ownsRow wb.heap.size 5 1 (.slice ia data.length ic) data.length (data.map fun x => .int .u8 x.toNat)) := by
  refine ⟨HOI.out.1, HOI.out.2.imp id ?_⟩
  rintro ⟨g, cap, cur, h1, h2, h3, h4⟩
  exact ⟨g, cap, cur, h1, h2, (hboth.fr.keep.2 _ ⟨_, _, _, h3, byt_u8⟩).trans h3, h4⟩
 have hdl := HD1.out.len
 have HIB : Hid (∀ k, (Value.slice ia data.length ic).ownBlock = some k → w.heap.size ≤ k ∧ k < w1.heap.size) := fun k hk => by
  have := World.ownsRow.lt HOI.out k hk
  omega
 clear hb2 hboth
 go_upto_region 37 with fail
 go_wp2_with fail
 go_at_call 100
 refine (bytesEq_any _ _ _ _ _ HBI.out HBD.out).mono ?_
 rw [beq_self_eq_true]
 rintro e w3 ⟨rfl, rfl⟩
 clear c6
 go_wp2_with fail
 go_loopw [17] (fun i wr => ∃ (k : Nat) (xs : List Value), k ≤ data.length ∧ i = .int .i64 k ∧ wr.ownsRow wb.heap.size 5 1 (.slice ia data.length ic) data.length xs ∧ U8s xs ∧ w3.grownBy wr (Value.slice ia data.length ic).ownBlock) (fun i _ => data.length - (intOf i).toNat)
 case atStart => exact ⟨0, _, Nat.zero_le _, rfl, HOW.out, U8s.map _, ⟨rfl, rfl, rfl, Nat.le_refl _, fun _ _ _ => rfl⟩⟩
 case round =>
  obtain ⟨k, ys, hk, rfl, hown, hu8, hgr⟩ := hrel
  have HOW3 : Hid _ := hown
  have HU : Hid _ := hu8
  have HGR : Hid _ := hgr
  have hyl : ys.length = data.length := by have := hown.1; omega
  clear hown hu8 hgr
  by_cases hlt : k < data.length
  ·obtain ⟨g, cap', hge⟩ := owns_some HOW3.out (by omega)
   simp only [Value.slice.injEq, true_and] at hge
   obtain ⟨rfl, rfl⟩ := hge
   obtain ⟨u, hu⟩ : ∃ u, ys[k]? = some u := ⟨_, List.getElem?_eq_getElem (by omega)⟩
   obtain ⟨b, hb, rfl⟩ := HU.out k u hu
   have hcell : wr.cell? ⟨g, k, none⟩ = some (.int .u8 b) := by
    rw [World.ownsRow.cellAt HOW3.out k (by omega)]
    exact hu
   have hfz := World.ownsRow.frozenAt HOW3.out k
   clear hu
   go_wp2
   go_roundw
   case rel =>
    obtain ⟨ho3, hg3⟩ := World.ownsRow.stored HOW3.out k (.int .u8 (((b : Int) + 1) % 256))
    refine ⟨k + 1, ys.set k (.int .u8 (((b : Int) + 1) % 256)), by omega, by go_num, ho3, ?_, HGR.out.trans hg3⟩
    have he : ((b : Int) + 1) % 256 = (((b + 1) % 256 : Nat) : Int) := by omega
    rw [he]
    exact U8s.set HU.out k _ (by omega)
   case measure => simp [intOf]; omega
  ·have hkk : k = data.length := by omega
   subst hkk
   go_wp2
   go_ret
   rw [HM.out, HM2.out]
   exact ⟨⟨_, rfl, fun _ => rfl⟩, Two2.done HT.out HX01.out HBO.out HIB.out HGR.out⟩

end Go.Proofs.YtfimfbdlegookaaGreatDoor

/-! marlaw5: Does, of any kind; Few. Conditions: as each theorem states. -/
namespace Go.Proofs.YtfimfbdlegookaaGreatDoor
open Go Go.RowKit
variable [Inhabited BaseW]

theorem doesOp_gen {w0 w : World} {S O O' : Nat → Prop} {fv xv : Value} {m m2 : Fs} {n : Nat} {cs : List Value} {o : Opn} (hT : Two2 w0 S O O' w fv xv m m2) (hE : Env w0) (hg : Good n m) (hg2 : Good n m2) (hn : n ≤ 1000) (ho : IsOpn w0 cs o) (hok : OpOk o) :
  Calls Tryz.prog 37 #[fv, xv, .agg cs.toArray] w (DoesPost2 w0 S O O' fv xv m m2 (stepM m o) (stepM m2 o) w) := by
 obtain ⟨kind, mode, keep, torn, path, dest, data, plan⟩ := o
 by_cases h0 : kind = 0
 ·subst h0; exact does_k0 hT hE hg hg2 hn ho hok
 by_cases h1 : kind = 1
 ·subst h1; exact does_k1 hT hE hg hg2 hn ho hok
 by_cases h2 : kind = 2
 ·subst h2; exact does_k2 hT hE hg hg2 hn ho hok
 by_cases h3 : kind = 3
 ·subst h3; exact does_k3 hT hE hg hg2 hn ho hok
 by_cases h4 : kind = 4
 ·subst h4; exact does_k4 hT hE hg hg2 hn ho hok
 by_cases h5 : kind = 5
 ·subst h5; exact does_k5 hT hE hg hg2 hn ho hok
 by_cases h6 : kind = 6
 ·subst h6; exact does_k6 hT hE hg hg2 hn ho hok
 by_cases h7 : kind = 7
 ·subst h7; exact does_k7 hT hE hg hg2 hn ho hok
 by_cases h8 : kind = 8
 ·subst h8; exact does_k8 hT hE hg hg2 hn ho hok
 by_cases h9 : kind = 9
 ·subst h9; exact does_k9 hT hE hg hg2 hn ho hok
 by_cases h10 : kind = 10
 ·subst h10; exact does_k10 hT hE hg hg2 hn ho hok
 by_cases h11 : kind = 11
 ·subst h11; exact does_k11 hT hE hg hg2 hn ho hok
 by_cases h12 : kind = 12
 ·subst h12; exact does_k12 hT hE hg hg2 hn ho hok
 have hst : ∀ m, stepM m ⟨kind, mode, keep, torn, path, dest, data, plan⟩ = m := by
  intro m
  unfold stepM
  rw [if_neg h0, if_neg h1, if_neg h2, if_neg h3, if_neg h4, if_neg h5, if_neg h6, if_neg h7, if_neg h8, if_neg h9, if_neg h10, if_neg h11, if_neg h12]
 rw [hst, hst]
 exact does_k13 hT hE hg hg2 hn ho hok (by omega)

theorem doesOp_any {w0 w : World} {S O O' : Nat → Prop} {fv xv : Value} {m : Fs} {n : Nat} {cs : List Value} {o : Opn} (hT : Two w0 S O O' w fv xv m) (hE : Env w0) (hg : Good n m) (hn : n ≤ 1000) (ho : IsOpn w0 cs o) (hok : OpOk o) :
  Calls Tryz.prog 37 #[fv, xv, .agg cs.toArray] w (DoesPost w0 S O O' fv xv (stepM m o) w) :=
 (doesOp_gen hT hE hg hg hn ho hok).mono (by rintro e w' ⟨⟨b, rfl, hb⟩, h⟩; rw [hb rfl]; exact ⟨rfl, h⟩)

end Go.Proofs.YtfimfbdlegookaaGreatDoor

/-! marlaw5.alike: do the same files stand in two? Conditions: at most 1000000 files. -/
namespace Go.Proofs.YtfimfbdlegookaaGreatDoor
open Go Go.RowKit

theorem IsFs.rise {S O R : Nat → Prop} {w : World} {p : Value} {m : Fs} (h : IsFs S O R w p m) : Rising m.now ∧ (∀ e ∈ m.now, e.1.length ≤ 1000000) ∧ ∃ g, p = .pointer (some ⟨g, 0, none⟩) := by
 obtain ⟨g, gm, gd, vp, vl, vu, L, c0, rfl, -, -, hP, -⟩ := h
 exact ⟨hP.now.rise, hP.now.short, g, rfl⟩
theorem look_rise {e : B8 × Fi} : ∀ {l : Files} {k : Nat}, Rising l → l[k]? = some e → look l e.1 = some e.2
 | [], k, _, he => by simp at he
 | y :: r, 0, _, he => by
  have : y = e := by simpa using he
  subst this
  unfold look
  simp
 | y :: r, k + 1, h, he => by
  obtain ⟨h1, h2⟩ := List.pairwise_cons.1 h
  have he' : r[k]? = some e := by simpa using he
  have hne := ltB_ne (h1 e (List.mem_of_getElem? he'))
  have hq : (y.1 == e.1) = false := by simpa using hne
  have := look_rise h2 he'
  unfold look at *
  rw [List.find?_cons, hq]
  exact this
theorem paths_get {l : Files} {k : Nat} {p : B8} (h : (pathsL l)[k]? = some p) : ∃ f, l[k]? = some (p, f) := by
 unfold pathsL at h
 rw [List.getElem?_map] at h
 obtain ⟨e, he, rfl⟩ := Option.map_eq_some_iff.1 h
 exact ⟨e.2, he⟩
theorem peek_at {m : Fs} {k : Nat} {p : B8} {f : Fi} (h : Rising m.now) (hk : m.now[k]? = some (p, f)) : peekM m p = (f, true) := by
 unfold peekM
 rw [look_rise h hk]
theorem strs_paths {w : World} {b : Nat} {v : Value} {l : Files} (h : w.ownsRow b 9 1 v l.length ((pathsL l).map S8)) (hl : l.length ≤ 1000000) : IsStrs w v (pathsL l) := by
 have := Row.of_owns h (by omega)
 have e : (pathsL l).length = l.length := by simp [pathsL]
 unfold IsStrs
 rw [e]
 exact this

end Go.Proofs.YtfimfbdlegookaaGreatDoor

/-! marlaw5.Same: both file systems stand alike where both read as the same. Conditions: what holds of a file system at all times. -/
namespace Go.Proofs.YtfimfbdlegookaaGreatDoor
open Go Go.RowKit
variable [Inhabited BaseW]

theorem evB_length {w : World} {cs : List Value} {e : Ev} (h : IsEvB w cs e) : cs.length = 7 := by
 obtain ⟨v, rfl, -⟩ := h
 rfl
theorem readB_get {w : World} {v : Value} {l : List Ev} (h : ReadB w v l) : ∃ a cap, v = .slice a l.length cap ∧ l.length ≤ cap ∧ l.length ≤ 140737488355328 ∧ cap ≤ 9223372036854775807 ∧
  ∀ (k : Nat) e, l[k]? = some e → ∃ b o cs, a = some ⟨b, o, none⟩ ∧ IsEvB w cs e ∧ ∀ j u, cs[j]? = some u → w.cell? ⟨b, o + k * 7 + j, none⟩ = some u := by
 obtain ⟨css, ⟨a, cap, rfl, h1, h2, h3, h4⟩, he⟩ := h
 refine ⟨a, cap, rfl, h1, h3, h2, fun k e hk => ?_⟩
 have h7 : ∀ c ∈ css, c.length = 7 := fun c hc => by
  obtain ⟨i, hi, rfl⟩ := List.mem_iff_getElem.1 hc
  have hi2 : i < l.length := by rw [← he.1]; exact hi
  exact evB_length (he.2 i css[i] l[i] (List.getElem?_eq_getElem hi) (List.getElem?_eq_getElem hi2))
 have hkl : k < css.length := by rw [he.1]; exact (List.getElem?_eq_some_iff.1 hk).1
 have hev := he.2 k _ e (List.getElem?_eq_getElem hkl) hk
 have hf := fun j u hu => flat_get 7 css k j _ u h7 (List.getElem?_eq_getElem hkl) hu
 obtain ⟨b, o, rfl, hc⟩ := h4 (by
  intro hn
  have h0 : (css[k])[0]? = some ((css[k])[0]'(by rw [evB_length hev]; omega)) := List.getElem?_eq_getElem _
  have := hf 0 _ h0
  rw [hn] at this
  simp at this)
 refine ⟨b, o, css[k], rfl, hev, fun j u hu => ?_⟩
 have := hc _ _ (hf j u hu)
 rwa [Nat.add_assoc, Nat.mul_comm k 7]

set_option maxRecDepth 100000 in
set_option maxHeartbeats 8000000 in
theorem same_any {S O R O' R' : Nat → Prop} {w : World} {f x : Value} {m : Fs} (hf : IsFs S O R w f m) (hx : IsRef O' R' w x m) (hok : OkM m) (ht : m.time ≤ 400000) (hus : m.users.length ≤ 90000) :
  Calls Tryz.prog 38 #[f, x] w fun e w' => e = .returned (.bool true) ∧ Ext w w' := by
 obtain ⟨hr1, hs1, gf, rfl⟩ := hf.rise
 obtain ⟨gx, rfl⟩ := hx.ptr
 have HF : Hid _ := hf
 have HX : Hid _ := hx
 have HR : Hid _ := hr1
 have HS : Hid _ := hs1
 have HOK : Hid _ := hok
 have hub := used_bound hok (by omega)
 have HUB : Hid _ := hub
 have hln := hok.lnow
 have hlp := hok.lpend
 have hlu := hok.lusers
 obtain ⟨U, hU⟩ : ∃ U, usedF m.now = U := ⟨_, rfl⟩
 have HU : Hid _ := hU
 clear hf hx hr1 hs1 hok hub hU
 go_enter Tryz.func38, Tryz.ntmps38
 go_wp2_with fail
 go_at_call 24
 refine (calls_any HF.out).mono ?_
 rintro e w1 ⟨rfl, rfl⟩
 go_wp2_with fail
 go_at_call 101
 refine (callsR_any HX.out).mono ?_
 rintro e w1 ⟨rfl, rfl⟩
 go_wp2_with fail
 go_at_call 102
 refine (now_any HF.out).mono ?_
 rintro e w1 ⟨rfl, rfl⟩
 go_wp2_with fail
 go_at_call 103
 refine (nowR_any HX.out).mono ?_
 rintro e w1 ⟨rfl, rfl⟩
 go_wp2_with fail
 go_at_call 104
 refine (used_any HF.out (by have := HUB.out; omega)).mono ?_
 rw [HU.out]
 rintro e w1 ⟨rfl, hx1⟩
 go_wp2_with fail
 go_at_call 105
 refine (usedRR_any (IsRef.ext HX.out hx1) (by have := HUB.out; omega)).mono ?_
 rw [HU.out]
 rintro e w2 ⟨rfl, hx2⟩
 have hx02 := hx1.trans hx2
 have HF2 : Hid _ := IsFs.ext HF.out hx02
 have HX2 : Hid _ := IsRef.ext HX.out hx02
 go_wp2_with fail
 go_at_call 106
 refine (pending_any HF2.out HOK.out (by omega)).mono ?_
 rintro e w3 ⟨rfl, rfl⟩
 go_wp2_with fail
 go_at_call 107
 refine (pendingR_any HX2.out (by omega)).mono ?_
 rintro e w3 ⟨rfl, rfl⟩
 go_wp2_with fail
 go_at_call 26
 refine (up_any HF2.out).mono ?_
 rintro e w3 ⟨rfl, rfl⟩
 go_wp2_with fail
 go_at_call 108
 refine (upR_any HX2.out).mono ?_
 rintro e w3 ⟨rfl, rfl⟩
 go_wp2_with fail
 go_at_call 43
 refine (paths_any HF2.out (by omega)).mono ?_
 rintro e w4 ⟨⟨v1, rfl, ho1⟩, hx4⟩
 have hv1 := strs_paths ho1 (by omega)
 obtain ⟨a1, c1, rfl, l1, l2, l3, -⟩ := hv1.get
 have HV1 : Hid _ := hv1
 clear ho1 hv1
 go_wp2_with fail
 go_at_call 109
 refine (pathsR_any (IsRef.ext HX2.out hx4) (by omega)).mono ?_
 rintro e w5 ⟨⟨v2, rfl, hv2⟩, hx5⟩
 obtain ⟨a2, c2, rfl, -⟩ := hv2.get
 have HV2 : Hid _ := hv2
 clear hv2
 go_wp2_with fail
 go_at_call 35
 refine (texts_any _ _ _ _ _ (IsStrs.ext HV1.out hx5) HV2.out).mono ?_
 rw [show (pathsL m.now == pathsL m.now) = true by simp]
 rintro e w6 ⟨rfl, hx6⟩
 have hx26 := (hx4.trans hx5).trans hx6
 have HF6 : Hid _ := IsFs.ext HF2.out hx26
 have HX6 : Hid _ := IsRef.ext HX2.out hx26
 have HIS : Hid _ := IsStrs.ext (IsStrs.ext HV1.out hx5) hx6
 have hpl : (pathsL m.now).length = m.now.length := by simp [pathsL]
 have HPL : Hid _ := hpl
 rw [hpl] at l1 l2 ⊢
 have hx06 := hx02.trans hx26
 have HX06 : Hid _ := hx06
 clear hpl hx4 hx5 hx6 hx26 hx1 hx2 hx02 hx06
 go_wp2_with fail
 go_loopw [6] (fun i wr => ∃ k : Nat, k ≤ m.now.length ∧ i = .int .i64 k ∧ Ext w6 wr) (fun i _ => m.now.length - (intOf i).toNat)
 case atStart => exact ⟨0, Nat.zero_le _, rfl, Ext.refl _⟩
 case round =>
  obtain ⟨k, hk, rfl, hx⟩ := hrel
  by_cases hlt : k < m.now.length
  ·obtain ⟨p, hp⟩ : ∃ p, (pathsL m.now)[k]? = some p := ⟨_, List.getElem?_eq_getElem (by rw [HPL.out]; exact hlt)⟩
   obtain ⟨f1, hf1⟩ := paths_get hp
   obtain ⟨_, _, he, -, -, -, hg⟩ := (IsStrs.ext HIS.out hx).get
   cases he
   obtain ⟨bb, oo, rfl, hc⟩ := hg k (by rw [HPL.out]; exact hlt)
   have y1 := hc k (by rw [HPL.out]; exact hlt)
   rw [show (pathsL m.now).getD k [] = p by rw [List.getD_eq_getElem?_getD, hp]; rfl] at y1
   have hps : p.length ≤ 1000000 := HS.out _ (List.mem_of_getElem? hf1)
   have HK1 : Hid _ := peek_at HR.out hf1
   have HA : Hid _ := IsFs.ext HF6.out hx
   have HB : Hid _ := IsRef.ext HX6.out hx
   clear hp hf1 hg hc
   go_wp2_with fail
   go_at_call 42
   refine (peek_any p HA.out hps).mono ?_
   rw [HK1.out]
   rintro e w7 ⟨⟨u1, rfl, hd1⟩, hx7⟩
   obtain ⟨s1, t1, rfl, -⟩ := id hd1.bytes
   have HD1 : Hid _ := hd1
   have HB7 : Hid _ := IsRef.ext HB.out hx7
   have y2 := hx7.cell y1
   clear hd1
   dsimp only
   go_upto_region 10 with fail
   obtain ⟨w8, hw8⟩ : ∃ w8, w8 = w7.alloc (.cells #[.int .i64 f1.mode, .slice s1 f1.data.length t1, .int .i64 f1.time] 76) := ⟨_, rfl⟩
   rw [← hw8]
   have hx8 : Ext w7 w8 := by rw [hw8]; exact (Ext.refl _).alloc _
   have hb8 : w8.heap[w7.heap.size]? = some (.cells #[.int .i64 f1.mode, .slice s1 f1.data.length t1, .int .i64 f1.time] 76 (0, 0)) := by rw [hw8]; exact alloc_at _ _
   have y3 := hx8.cell y2
   clear hw8
   go_wp2_with fail
   go_at_call 110
   refine (peekR_any p (IsRef.ext HB7.out hx8)).mono ?_
   rw [HK1.out]
   rintro e w9 ⟨⟨u2, rfl, hd2⟩, hx9⟩
   obtain ⟨s2, t2, rfl, -⟩ := id hd2.bytes
   have HD2 : Hid _ := hd2
   have hb9 := hx9.row hb8
   clear hd2 hb8
   dsimp only
   go_upto_region 11 with fail
   obtain ⟨wa, hwa⟩ : ∃ wa, wa = w9.alloc (.cells #[.int .i64 f1.mode, .slice s2 f1.data.length t2, .int .i64 f1.time] 134) := ⟨_, rfl⟩
   rw [← hwa]
   have hxa : Ext w9 wa := by rw [hwa]; exact (Ext.refl _).alloc _
   have hba : wa.heap[w9.heap.size]? = some (.cells #[.int .i64 f1.mode, .slice s2 f1.data.length t2, .int .i64 f1.time] 134 (0, 0)) := by rw [hwa]; exact alloc_at _ _
   have hbb := hxa.row hb9
   obtain ⟨x0, x1, x2⟩ := cellsAt3 hbb
   obtain ⟨z0, z1, z2⟩ := cellsAt3 hba
   have hx57 := (hx8.trans hx9).trans hxa
   have HE1 : Hid (IsBytes wa (.slice s1 f1.data.length t1) f1.data) := (IsData.ext HD1.out hx57).bytes
   have HE2 : Hid (IsBytes wa (.slice s2 f1.data.length t2) f1.data) := (IsData.ext HD2.out hxa).bytes
   have HXR : Hid _ := (hx.trans hx7).trans hx57
   clear hwa hb9 hba hbb hx57 hxa hx9 hx8 hx7 y1 y2 y3
   go_wp2_with fail
   go_at_call 92
   refine (file_same f1 _ _ _ HE1.out HE2.out).mono ?_
   rintro e wb ⟨rfl, hxb⟩
   go_wp2
   go_roundw
   case rel => exact ⟨k + 1, by omega, by go_num, Ext.trans HXR.out hxb⟩
   case measure => simp [intOf]; omega
  ·have HA : Hid _ := IsFs.ext HF6.out hx
   have HB : Hid _ := IsRef.ext HX6.out hx
   have HX0 : Hid _ := Ext.trans HX06.out hx
   clear hx
   go_wp2_with fail
   go_at_call 111
   refine (user_any HA.out (by omega)).mono ?_
   rintro e w7 ⟨⟨v3, rfl, ho3⟩, hx7⟩
   have hu3 := (OwnE.readL ho3 (by omega)).read
   obtain ⟨a3, c3, rfl, q1, q2, q3, -⟩ := readB_get hu3
   have HU3 : Hid _ := hu3
   clear ho3 hu3
   go_wp2_with fail
   go_at_call 112
   refine (userR_any (IsRef.ext HB.out hx7) (by omega)).mono ?_
   rintro e w8 ⟨⟨v4, rfl, hu4⟩, hx8⟩
   obtain ⟨a4, c4, rfl, r1, r2, r3, -⟩ := readB_get hu4
   have HU4 : Hid _ := hu4
   have HU5 : Hid _ := ReadB.ext HU3.out hx8
   have HX8 : Hid _ := Ext.trans (Ext.trans HX0.out hx7) hx8
   clear hu4 hx7 hx8
   go_wp2_with fail
   go_loopw [13] (fun i wr => ∃ k : Nat, k ≤ m.users.length ∧ i = .int .i64 k ∧ Ext w8 wr) (fun i _ => m.users.length - (intOf i).toNat)
   case atStart => exact ⟨0, Nat.zero_le _, rfl, Ext.refl _⟩
   case round =>
    obtain ⟨n, hn, rfl, hx⟩ := hrel
    by_cases hlt2 : n < m.users.length
    ·obtain ⟨E, he⟩ : ∃ e, m.users[n]? = some e := ⟨_, List.getElem?_eq_getElem hlt2⟩
     obtain ⟨_, _, he5, -, -, -, g5⟩ := readB_get (ReadB.ext HU5.out hx)
     cases he5
     obtain ⟨_, _, he4, -, -, -, g4⟩ := readB_get (ReadB.ext HU4.out hx)
     cases he4
     obtain ⟨b5, o5, cs5, rfl, ⟨d5, rfl, hd5, -⟩, k5⟩ := g5 n E he
     obtain ⟨b4, o4, cs4, rfl, ⟨d4, rfl, hd4, -⟩, k4⟩ := g4 n E he
     have x0 := k5 0 _ rfl
     have x1 := k5 1 _ rfl
     have x2 := k5 2 _ rfl
     have x5 := k5 5 _ rfl
     have x6 := k5 6 _ rfl
     have y0 := k4 0 _ rfl
     have y1 := k4 1 _ rfl
     have y2 := k4 2 _ rfl
     have y5 := k4 5 _ rfl
     have y6 := k4 6 _ rfl
     simp only [Nat.add_zero] at x0 y0
     have HBY : Hid (∀ j, Calls Tryz.prog 100 #[d5, d4] (wr.drewN j) fun e w' => e = .returned (.bool true) ∧ w' = wr.drewN j) := fun j => by
      have := bytesEq_any d5 d4 E.data E.data (wr.drewN j) (IsBytes.ext hd5 (Ext.drawn _ _)) (IsBytes.ext hd4 (Ext.drawn _ _))
      rwa [show (E.data == E.data) = true by simp] at this
     have HXX : Hid _ := hx
     clear hd5 hd4 k5 k4 g5 g4 he hx
     go_upto_region 19 with fail
     go_quiet (first | (go_at_call 100; exact Calls.quiet_of_same (HBY.out _)))
     go_wp2
     go_roundw
     case rel => exact ⟨n + 1, by omega, by go_num, Ext.trans HXX.out (Ext.drawn _ _)⟩
     case measure => simp [intOf]; omega
    ·go_wp2
     go_ret
     exact ⟨rfl, Ext.trans HX8.out hx⟩

end Go.Proofs.YtfimfbdlegookaaGreatDoor
