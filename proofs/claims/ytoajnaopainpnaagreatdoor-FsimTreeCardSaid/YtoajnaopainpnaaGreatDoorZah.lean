/- marlaw5: Plain, FewEvents: events for the document; are events few and small? Conditions: at most 1000 events for the one. -/
import Derived.Test.YtoajnaopainpnaaGreatDoorZag
import Derived.Test.YtoajnaopainpnaaGreatDoorZae
import Derived.Deep.DeepCutAuto

set_option linter.unusedVariables false
set_option linter.unusedSimpArgs false
set_option linter.unusedSectionVars false

/-! marlaw5.Does: MoveNew. Conditions: as each theorem states. -/
namespace Go.Proofs.YtoajnaopainpnaaGreatDoor
open Go Go.RowKit
variable [Inhabited BaseW]

set_option maxRecDepth 100000 in
set_option maxHeartbeats 8000000 in
theorem does_k3 {w0 w : World} {S O O' : Nat → Prop} {fv xv : Value} {m m2 : Fs} {n : Nat} {cs : List Value} {mode keep torn : Int} {path dest data : B8} {plan : List Ev} (hT : Two2 w0 S O O' w fv xv m m2) (hE : Env w0) (hg : Good n m) (hg2 : Good n m2) (hn : n ≤ 1000) (ho : IsOpn w0 cs ⟨3, mode, keep, torn, path, dest, data, plan⟩) (hok : OpOk ⟨3, mode, keep, torn, path, dest, data, plan⟩) :
    Calls Tryz.prog 25 #[fv, xv, .agg cs.toArray] w (DoesPost2 w0 S O O' fv xv m m2 (moveM m path dest true).1 (moveM m2 path dest true).1 w) := by
  obtain ⟨vd, vp, rfl, hd, hpl⟩ := ho
  obtain ⟨da, dc, rfl, -⟩ := id hd.bytes
  obtain ⟨_, ⟨pa, pc, rfl, -⟩, -⟩ := id hpl
  simp only at hd hpl
  have hp := hok.path
  have hq := hok.dest
  have hkp := hok.keep
  have htn := hok.torn
  have hfw := hok.few
  simp only at hp hq hkp htn hfw
  have hx0 := hT.ext
  have hba := hT.base
  obtain ⟨gf, hgf⟩ : ∃ g, fv = .pointer (some ⟨g, 0, none⟩) := by
    obtain ⟨g, gm, gd, vp, vl, vu, L, c0, hpe, -⟩ := hT.fs
    exact ⟨g, hpe⟩
  subst hgf
  obtain ⟨gx, rfl⟩ := hT.ref.ptr
  obtain ⟨wb, hwb⟩ : ∃ wb, wb = w.alloc (.cells #[.int .i64 3, .int .i64 mode, .int .i64 keep, .int .i64 torn, S8 path, S8 dest, .slice da data.length dc, .slice pa plan.length pc] 48) := ⟨_, rfl⟩
  have hxb : Ext w wb := by rw [hwb]; exact (Ext.refl _).alloc _
  have hbb : wb.heap[w.heap.size]? = some (.cells #[.int .i64 3, .int .i64 mode, .int .i64 keep, .int .i64 torn, S8 path, S8 dest, .slice da data.length dc, .slice pa plan.length pc] 48 (0, 0)) := by rw [hwb]; exact alloc_at _ _
  obtain ⟨b0, b1, b2, b3, b4, b5, b6, b7⟩ := cellsAt8 hbb
  have hsb : w.heap.size < wb.heap.size := by rw [hwb]; simp
  have HT : Hid _ := hT
  have HE : Hid _ := hE
  have HG : Hid _ := hg
  have HG2 : Hid _ := hg2
  have HWB : Hid _ := hwb
  have HXB : Hid _ := hxb
  have HBB : Hid _ := hbb
  have HD0 : Hid (OldB (.slice da data.length dc) data) := hd
  have HBA : Hid _ := hba
  have HX0 : Hid _ := hx0
  have HPL : Hid (ReadO w0 IsEvI (.slice pa plan.length pc) plan) := hpl
  have HDB : Hid _ := OldB.at hd ((hba.trans hx0).trans hxb)
  have HOKK : Hid _ := hok
  clear hT hE hg hg2 hwb hxb hbb hd hx0 hba hpl hok
  go_enter Tryz.func25, Tryz.ntmps25
  go_upto_region 1 with fail
  rw [show w.alloc (.cells #[.int .i64 3, .int .i64 mode, .int .i64 keep, .int .i64 torn, S8 path, S8 dest, .slice da data.length dc, .slice pa plan.length pc] 48) = wb from HWB.out.symm]
  go_wp2_with fail
  go_at_call 52
  refine (copyB_own _ data _ HDB.out).mono ?_
  rintro e w1 ⟨⟨vin, rfl, hin⟩, hx1⟩
  obtain ⟨ia, ic, hie, -⟩ := Row.of_owns hin HD0.out.bytes.len
  subst hie
  have HIN : Hid (IsBytes w1 (.slice ia data.length ic) data) := Row.of_owns hin HD0.out.bytes.len
  have HTI : Hid (TypB w1 (.slice ia data.length ic)) := TypB.of_owns hin
  have HOI : Hid _ := hin
  have hx01 : Ext w w1 := Ext.trans HXB.out hx1
  have HP : Hid (Pair S O O' (fun k => k < w.heap.size) w1 (.pointer (some ⟨gf, 0, none⟩)) (.pointer (some ⟨gx, 0, none⟩)) m m2) := Two2.pair HT.out HE.out HG.out HG2.out hn hx01
  have HNG : Hid _ := (Two2.noG HT.out HE.out).2
  have HB1 : Hid _ := hx1.row HBB.out
  have HNO : Hid (¬ O w.heap.size ∧ ¬ O' w.heap.size) := ⟨fun h => by have := HT.out.lo _ h; omega, fun h => by have := HT.out.lo' _ h; omega⟩
  have HB0 : Hid (Ext baseW w1) := Ext.trans (Ext.trans HBA.out HX0.out) hx01
  have HD1 : Hid (IsBytes w1 (.slice da data.length dc) data) := OldB.at HD0.out HB0.out
  have HX01 : Hid _ := hx01
  have htm := HG.out.time
  have hcl := HG.out.calls
  have htm2 := HG2.out.time
  have hcl2 := HG2.out.calls
  obtain ⟨er, her⟩ : ∃ er, (moveM m path dest true).2 = er := ⟨_, rfl⟩
  have HER : Hid _ := her
  obtain ⟨er2, her2⟩ : ∃ er, (moveM m2 path dest true).2 = er := ⟨_, rfl⟩
  have HER2 : Hid _ := her2
  obtain ⟨okb, hokb⟩ : ∃ okb, (er == er2) = okb := ⟨_, rfl⟩
  have HOKB : Hid (m = m2 → okb = true) := fun h => by rw [← hokb, ← her, ← her2, h]; simp
  clear her her2
  obtain ⟨m', hm'⟩ : ∃ m', (moveM m path dest true).1 = m' := ⟨_, rfl⟩
  have HM : Hid _ := hm'
  obtain ⟨m2', hm2'⟩ : ∃ m', (moveM m2 path dest true).1 = m' := ⟨_, rfl⟩
  have HM2 : Hid _ := hm2'
  replace b0 := hx1.cell b0
  have hsz1 := hx1.size
  clear hin hx1 hx01 hm' hm2' b1 b2 b3 b4 b5 b6 b7
  go_upto_region 11 with fail
  apply wp_region_inv 13 (fun z w' => DJ S O O' (fun k => k < w.heap.size) w1 (.pointer (some ⟨gf, 0, none⟩)) (.pointer (some ⟨gx, 0, none⟩)) m' m2' (fun u => u = .int .i64 er) (fun u => u = .int .i64 er2) (z 5) (z 11) w') [false, false, false, false, false, true, false, false, false, false, false, true, false] [_, _, _, _, _, undef, _, _, _, _, _, undef, .bool okb] [none, none, none, none, none, none, none, none, none, none, none, none, none] [[], [], [1], [], [3], [0, 2, 4], [], [], [7], [], [9], [6, 8, 10], [5, 11]] (by kernel_rfl) (by kernel_rfl) rfl
  · exact DJ.start ⟨rfl, rfl, rfl, Nat.le_refl _, fun _ _ => rfl⟩
  · simp (maxSteps := 1000000) only [oblI, stepI, knowsI, getP, mixP, List.getD_cons_zero, List.getD_cons_succ, Bool.false_eq_true, if_false, if_true, and_true, true_and, forall_const, Nat.zero_add, Nat.reduceAdd, List.take_succ_cons, List.take_zero, fillFrom, Act.put, List.setIfInBounds_toArray, List.set_cons_zero, List.set_cons_succ]
    refine ⟨?_, ?_, ?_, ?_, ?_, ?_, ?_, ?_, ?_, ?_, ?_, ?_, ?_⟩
    · intro xs z wq hj R hR
      obtain ⟨c0, c1, c2, c3, c4, c5, c6, c7⟩ := cellsAt8 (hj.row HB1.out HNO.out.1 HNO.out.2)
      go_simp
      exact hR _ _ hj rfl
    · intro xs z wq hj R hR
      obtain ⟨c0, c1, c2, c3, c4, c5, c6, c7⟩ := cellsAt8 (hj.row HB1.out HNO.out.1 HNO.out.2)
      go_simp
      exact hR _ _ hj rfl
    · intro xs z wq hj hk R hR
      obtain ⟨c0, c1, c2, c3, c4, c5, c6, c7⟩ := cellsAt8 (hj.row HB1.out HNO.out.1 HNO.out.2)
      go_simp
      exact hR _ _ hj rfl
    · intro xs z wq hj R hR
      obtain ⟨c0, c1, c2, c3, c4, c5, c6, c7⟩ := cellsAt8 (hj.row HB1.out HNO.out.1 HNO.out.2)
      go_simp
      exact hR _ _ hj rfl
    · intro xs z wq hj hk R hR
      obtain ⟨c0, c1, c2, c3, c4, c5, c6, c7⟩ := cellsAt8 (hj.row HB1.out HNO.out.1 HNO.out.2)
      go_simp
      exact hR _ _ hj rfl
    · intro xs z wq hj hz hk R hR
      obtain ⟨hk0, hk1, hk2⟩ := hk
      rw [hz] at hj
      go_simp
      exact (moveNew_any path dest (DJ.fin HP.out HNG.out hj) hp hq).mono (by rintro e' w4 ⟨rfl, h4⟩; rw [HM.out] at h4; exact ⟨_, rfl, hR _ _ (DJ.setF HP.out hj (by rw [HER.out]) h4)⟩)
    · intro xs z wq hj R hR
      obtain ⟨c0, c1, c2, c3, c4, c5, c6, c7⟩ := cellsAt8 (hj.row HB1.out HNO.out.1 HNO.out.2)
      go_simp
      exact hR _ _ hj rfl
    · intro xs z wq hj R hR
      obtain ⟨c0, c1, c2, c3, c4, c5, c6, c7⟩ := cellsAt8 (hj.row HB1.out HNO.out.1 HNO.out.2)
      go_simp
      exact hR _ _ hj rfl
    · intro xs z wq hj hk R hR
      obtain ⟨c0, c1, c2, c3, c4, c5, c6, c7⟩ := cellsAt8 (hj.row HB1.out HNO.out.1 HNO.out.2)
      go_simp
      exact hR _ _ hj rfl
    · intro xs z wq hj R hR
      obtain ⟨c0, c1, c2, c3, c4, c5, c6, c7⟩ := cellsAt8 (hj.row HB1.out HNO.out.1 HNO.out.2)
      go_simp
      exact hR _ _ hj rfl
    · intro xs z wq hj hk R hR
      obtain ⟨c0, c1, c2, c3, c4, c5, c6, c7⟩ := cellsAt8 (hj.row HB1.out HNO.out.1 HNO.out.2)
      go_simp
      exact hR _ _ hj rfl
    · intro xs z wq hj hz hk R hR
      obtain ⟨hk0, hk1, hk2⟩ := hk
      rw [hz] at hj
      go_simp
      exact (moveNewR_any path dest (DJ.rin HP.out hj) hp hq).mono (by rintro e' w4 ⟨rfl, h4⟩; rw [HM2.out] at h4; exact ⟨_, rfl, hR _ _ (DJ.setR HP.out hj (by rw [HER2.out]) h4)⟩)
    · intro xs z wq hj hk R hR
      obtain ⟨hk0, hk1⟩ := hk
      rw [hk0, hk1] at hj
      obtain ⟨e1, e2, -⟩ := id hj
      go_simp
      exact hR _ _ (by rw [hk0, hk1]; exact hj) rfl
  intro xs w2 hj2 hk
  simp only [zAll, List.getD_cons_zero, List.getD_cons_succ, Bool.false_eq_true, if_false, if_true] at hj2
  simp only [heldI, Nat.zero_add, Nat.reduceAdd, and_true] at hk
  obtain ⟨q0, q1, q2, q3, q4, q6, q7, q8, q9, q10, q12⟩ := hk
  simp (maxSteps := 1000000) only [List.drop_succ_cons, List.drop_zero, Nat.zero_add, Nat.reduceAdd, List.take_succ_cons, List.take_zero, fillFrom, Act.put, List.setIfInBounds_toArray, List.set_cons_zero, List.set_cons_succ, q0, q1, q2, q3, q4, q6, q7, q8, q9, q10, q12]
  clear q0 q1 q2 q3 q4 q6 q7 q8 q9 q10 q12
  generalize xs 5 = x5 at *
  generalize xs 11 = x11 at *
  obtain ⟨rfl, rfl, hboth⟩ := hj2
  have HBO : Hid _ := hboth
  have hb2 := hboth.fr.row HB1.out (fun h => h.elim HNO.out.1 HNO.out.2)
  obtain ⟨-, -, -, -, -, -, c6, -⟩ := cellsAt8 hb2
  have HBI : Hid (IsBytes w2 (.slice ia data.length ic) data) := Row.keepB HIN.out HTI.out hboth.fr.keep
  have HBD : Hid (IsBytes w2 (.slice da data.length dc) data) := OldB.at HD0.out (Ext.of_fr HB0.out hboth.fr (fun k hk => hk.elim (HP.out.high k) (HP.out.rin.high k)))
  have HOW : Hid (w2.ownsRow wb.heap.size 5 1 (.slice ia data.length ic) data.length (data.map fun x => .int .u8 x.toNat)) := by
    refine ⟨HOI.out.1, HOI.out.2.imp id ?_⟩
    rintro ⟨g, cap, cur, h1, h2, h3, h4⟩
    exact ⟨g, cap, cur, h1, h2, (hboth.fr.keep.2 _ ⟨_, _, _, h3, byt_u8⟩).trans h3, h4⟩
  have hdl := HD1.out.len
  have HIB : Hid (∀ k, (Value.slice ia data.length ic).ownBlock = some k → w.heap.size ≤ k ∧ k < w1.heap.size) := fun k hk => by
    have := World.ownsRow.lt HOI.out k hk
    omega
  clear hb2 hboth
  go_upto_region 37 with fail
  go_wp2_with fail
  go_at_call 35
  refine (bytesEq_any _ _ _ _ _ HBI.out HBD.out).mono ?_
  rw [beq_self_eq_true]
  rintro e w3 ⟨rfl, rfl⟩
  clear c6
  go_wp2_with fail
  go_loopw [17] (fun i wr => ∃ (k : Nat) (xs : List Value), k ≤ data.length ∧ i = .int .i64 k ∧ wr.ownsRow wb.heap.size 5 1 (.slice ia data.length ic) data.length xs ∧ U8s xs ∧ w3.grownBy wr (Value.slice ia data.length ic).ownBlock) (fun i _ => data.length - (intOf i).toNat)
  case atStart => exact ⟨0, _, Nat.zero_le _, rfl, HOW.out, U8s.map _, ⟨rfl, rfl, rfl, Nat.le_refl _, fun _ _ _ => rfl⟩⟩
  case round =>
    obtain ⟨k, ys, hk, rfl, hown, hu8, hgr⟩ := hrel
    have HOW3 : Hid _ := hown
    have HU : Hid _ := hu8
    have HGR : Hid _ := hgr
    have hyl : ys.length = data.length := by have := hown.1; omega
    clear hown hu8 hgr
    by_cases hlt : k < data.length
    · obtain ⟨g, cap', hge⟩ := owns_some HOW3.out (by omega)
      simp only [Value.slice.injEq, true_and] at hge
      obtain ⟨rfl, rfl⟩ := hge
      obtain ⟨u, hu⟩ : ∃ u, ys[k]? = some u := ⟨_, List.getElem?_eq_getElem (by omega)⟩
      obtain ⟨b, hb, rfl⟩ := HU.out k u hu
      have hcell : wr.cell? ⟨g, k, none⟩ = some (.int .u8 b) := by
        rw [World.ownsRow.cellAt HOW3.out k (by omega)]
        exact hu
      have hfz := World.ownsRow.frozenAt HOW3.out k
      clear hu
      go_wp2
      go_roundw
      case rel =>
        obtain ⟨ho3, hg3⟩ := World.ownsRow.stored HOW3.out k (.int .u8 (((b : Int) + 1) % 256))
        refine ⟨k + 1, ys.set k (.int .u8 (((b : Int) + 1) % 256)), by omega, by go_num, ho3, ?_, HGR.out.trans hg3⟩
        have he : ((b : Int) + 1) % 256 = (((b + 1) % 256 : Nat) : Int) := by omega
        rw [he]
        exact U8s.set HU.out k _ (by omega)
      case measure => simp [intOf]; omega
    · have hkk : k = data.length := by omega
      subst hkk
      go_wp2
      go_ret
      rw [HM.out, HM2.out]
      exact ⟨⟨_, rfl, HOKB.out⟩, Two2.done HT.out HX01.out HBO.out HIB.out HGR.out⟩

end Go.Proofs.YtoajnaopainpnaaGreatDoor

/-! marlaw5.Does: Remove. Conditions: as each theorem states. -/
namespace Go.Proofs.YtoajnaopainpnaaGreatDoor
open Go Go.RowKit
variable [Inhabited BaseW]

set_option maxRecDepth 100000 in
set_option maxHeartbeats 8000000 in
theorem does_k4 {w0 w : World} {S O O' : Nat → Prop} {fv xv : Value} {m m2 : Fs} {n : Nat} {cs : List Value} {mode keep torn : Int} {path dest data : B8} {plan : List Ev} (hT : Two2 w0 S O O' w fv xv m m2) (hE : Env w0) (hg : Good n m) (hg2 : Good n m2) (hn : n ≤ 1000) (ho : IsOpn w0 cs ⟨4, mode, keep, torn, path, dest, data, plan⟩) (hok : OpOk ⟨4, mode, keep, torn, path, dest, data, plan⟩) :
    Calls Tryz.prog 25 #[fv, xv, .agg cs.toArray] w (DoesPost2 w0 S O O' fv xv m m2 (removeM m path).1 (removeM m2 path).1 w) := by
  obtain ⟨vd, vp, rfl, hd, hpl⟩ := ho
  obtain ⟨da, dc, rfl, -⟩ := id hd.bytes
  obtain ⟨_, ⟨pa, pc, rfl, -⟩, -⟩ := id hpl
  simp only at hd hpl
  have hp := hok.path
  have hq := hok.dest
  have hkp := hok.keep
  have htn := hok.torn
  have hfw := hok.few
  simp only at hp hq hkp htn hfw
  have hx0 := hT.ext
  have hba := hT.base
  obtain ⟨gf, hgf⟩ : ∃ g, fv = .pointer (some ⟨g, 0, none⟩) := by
    obtain ⟨g, gm, gd, vp, vl, vu, L, c0, hpe, -⟩ := hT.fs
    exact ⟨g, hpe⟩
  subst hgf
  obtain ⟨gx, rfl⟩ := hT.ref.ptr
  obtain ⟨wb, hwb⟩ : ∃ wb, wb = w.alloc (.cells #[.int .i64 4, .int .i64 mode, .int .i64 keep, .int .i64 torn, S8 path, S8 dest, .slice da data.length dc, .slice pa plan.length pc] 48) := ⟨_, rfl⟩
  have hxb : Ext w wb := by rw [hwb]; exact (Ext.refl _).alloc _
  have hbb : wb.heap[w.heap.size]? = some (.cells #[.int .i64 4, .int .i64 mode, .int .i64 keep, .int .i64 torn, S8 path, S8 dest, .slice da data.length dc, .slice pa plan.length pc] 48 (0, 0)) := by rw [hwb]; exact alloc_at _ _
  obtain ⟨b0, b1, b2, b3, b4, b5, b6, b7⟩ := cellsAt8 hbb
  have hsb : w.heap.size < wb.heap.size := by rw [hwb]; simp
  have HT : Hid _ := hT
  have HE : Hid _ := hE
  have HG : Hid _ := hg
  have HG2 : Hid _ := hg2
  have HWB : Hid _ := hwb
  have HXB : Hid _ := hxb
  have HBB : Hid _ := hbb
  have HD0 : Hid (OldB (.slice da data.length dc) data) := hd
  have HBA : Hid _ := hba
  have HX0 : Hid _ := hx0
  have HPL : Hid (ReadO w0 IsEvI (.slice pa plan.length pc) plan) := hpl
  have HDB : Hid _ := OldB.at hd ((hba.trans hx0).trans hxb)
  have HOKK : Hid _ := hok
  clear hT hE hg hg2 hwb hxb hbb hd hx0 hba hpl hok
  go_enter Tryz.func25, Tryz.ntmps25
  go_upto_region 1 with fail
  rw [show w.alloc (.cells #[.int .i64 4, .int .i64 mode, .int .i64 keep, .int .i64 torn, S8 path, S8 dest, .slice da data.length dc, .slice pa plan.length pc] 48) = wb from HWB.out.symm]
  go_wp2_with fail
  go_at_call 52
  refine (copyB_own _ data _ HDB.out).mono ?_
  rintro e w1 ⟨⟨vin, rfl, hin⟩, hx1⟩
  obtain ⟨ia, ic, hie, -⟩ := Row.of_owns hin HD0.out.bytes.len
  subst hie
  have HIN : Hid (IsBytes w1 (.slice ia data.length ic) data) := Row.of_owns hin HD0.out.bytes.len
  have HTI : Hid (TypB w1 (.slice ia data.length ic)) := TypB.of_owns hin
  have HOI : Hid _ := hin
  have hx01 : Ext w w1 := Ext.trans HXB.out hx1
  have HP : Hid (Pair S O O' (fun k => k < w.heap.size) w1 (.pointer (some ⟨gf, 0, none⟩)) (.pointer (some ⟨gx, 0, none⟩)) m m2) := Two2.pair HT.out HE.out HG.out HG2.out hn hx01
  have HNG : Hid _ := (Two2.noG HT.out HE.out).2
  have HB1 : Hid _ := hx1.row HBB.out
  have HNO : Hid (¬ O w.heap.size ∧ ¬ O' w.heap.size) := ⟨fun h => by have := HT.out.lo _ h; omega, fun h => by have := HT.out.lo' _ h; omega⟩
  have HB0 : Hid (Ext baseW w1) := Ext.trans (Ext.trans HBA.out HX0.out) hx01
  have HD1 : Hid (IsBytes w1 (.slice da data.length dc) data) := OldB.at HD0.out HB0.out
  have HX01 : Hid _ := hx01
  have htm := HG.out.time
  have hcl := HG.out.calls
  have htm2 := HG2.out.time
  have hcl2 := HG2.out.calls
  obtain ⟨er, her⟩ : ∃ er, (removeM m path).2 = er := ⟨_, rfl⟩
  have HER : Hid _ := her
  obtain ⟨er2, her2⟩ : ∃ er, (removeM m2 path).2 = er := ⟨_, rfl⟩
  have HER2 : Hid _ := her2
  obtain ⟨okb, hokb⟩ : ∃ okb, (er == er2) = okb := ⟨_, rfl⟩
  have HOKB : Hid (m = m2 → okb = true) := fun h => by rw [← hokb, ← her, ← her2, h]; simp
  clear her her2
  obtain ⟨m', hm'⟩ : ∃ m', (removeM m path).1 = m' := ⟨_, rfl⟩
  have HM : Hid _ := hm'
  obtain ⟨m2', hm2'⟩ : ∃ m', (removeM m2 path).1 = m' := ⟨_, rfl⟩
  have HM2 : Hid _ := hm2'
  replace b0 := hx1.cell b0
  have hsz1 := hx1.size
  clear hin hx1 hx01 hm' hm2' b1 b2 b3 b4 b5 b6 b7
  go_upto_region 13 with fail
  apply wp_region_inv 9 (fun z w' => DJ S O O' (fun k => k < w.heap.size) w1 (.pointer (some ⟨gf, 0, none⟩)) (.pointer (some ⟨gx, 0, none⟩)) m' m2' (fun u => u = .int .i64 er) (fun u => u = .int .i64 er2) (z 3) (z 7) w') [false, false, false, true, false, false, false, true, false] [_, _, _, undef, _, _, _, undef, .bool okb] [none, none, none, none, none, none, none, none, none] [[], [], [1], [0, 2], [], [], [5], [4, 6], [3, 7]] (by kernel_rfl) (by kernel_rfl) rfl
  · exact DJ.start ⟨rfl, rfl, rfl, Nat.le_refl _, fun _ _ => rfl⟩
  · simp (maxSteps := 1000000) only [oblI, stepI, knowsI, getP, mixP, List.getD_cons_zero, List.getD_cons_succ, Bool.false_eq_true, if_false, if_true, and_true, true_and, forall_const, Nat.zero_add, Nat.reduceAdd, List.take_succ_cons, List.take_zero, fillFrom, Act.put, List.setIfInBounds_toArray, List.set_cons_zero, List.set_cons_succ]
    refine ⟨?_, ?_, ?_, ?_, ?_, ?_, ?_, ?_, ?_⟩
    · intro xs z wq hj R hR
      obtain ⟨c0, c1, c2, c3, c4, c5, c6, c7⟩ := cellsAt8 (hj.row HB1.out HNO.out.1 HNO.out.2)
      go_simp
      exact hR _ _ hj rfl
    · intro xs z wq hj R hR
      obtain ⟨c0, c1, c2, c3, c4, c5, c6, c7⟩ := cellsAt8 (hj.row HB1.out HNO.out.1 HNO.out.2)
      go_simp
      exact hR _ _ hj rfl
    · intro xs z wq hj hk R hR
      obtain ⟨c0, c1, c2, c3, c4, c5, c6, c7⟩ := cellsAt8 (hj.row HB1.out HNO.out.1 HNO.out.2)
      go_simp
      exact hR _ _ hj rfl
    · intro xs z wq hj hz hk R hR
      obtain ⟨hk0, hk1⟩ := hk
      rw [hz] at hj
      go_simp
      exact (remove_any path (DJ.fin HP.out HNG.out hj) hp).mono (by rintro e' w4 ⟨rfl, h4⟩; rw [HM.out] at h4; exact ⟨_, rfl, hR _ _ (DJ.setF HP.out hj (by rw [HER.out]) h4)⟩)
    · intro xs z wq hj R hR
      obtain ⟨c0, c1, c2, c3, c4, c5, c6, c7⟩ := cellsAt8 (hj.row HB1.out HNO.out.1 HNO.out.2)
      go_simp
      exact hR _ _ hj rfl
    · intro xs z wq hj R hR
      obtain ⟨c0, c1, c2, c3, c4, c5, c6, c7⟩ := cellsAt8 (hj.row HB1.out HNO.out.1 HNO.out.2)
      go_simp
      exact hR _ _ hj rfl
    · intro xs z wq hj hk R hR
      obtain ⟨c0, c1, c2, c3, c4, c5, c6, c7⟩ := cellsAt8 (hj.row HB1.out HNO.out.1 HNO.out.2)
      go_simp
      exact hR _ _ hj rfl
    · intro xs z wq hj hz hk R hR
      obtain ⟨hk0, hk1⟩ := hk
      rw [hz] at hj
      go_simp
      exact (removeR_any path (DJ.rin HP.out hj) hp).mono (by rintro e' w4 ⟨rfl, h4⟩; rw [HM2.out] at h4; exact ⟨_, rfl, hR _ _ (DJ.setR HP.out hj (by rw [HER2.out]) h4)⟩)
    · intro xs z wq hj hk R hR
      obtain ⟨hk0, hk1⟩ := hk
      rw [hk0, hk1] at hj
      obtain ⟨e1, e2, -⟩ := id hj
      go_simp
      exact hR _ _ (by rw [hk0, hk1]; exact hj) rfl
  intro xs w2 hj2 hk
  simp only [zAll, List.getD_cons_zero, List.getD_cons_succ, Bool.false_eq_true, if_false, if_true] at hj2
  simp only [heldI, Nat.zero_add, Nat.reduceAdd, and_true] at hk
  obtain ⟨q0, q1, q2, q4, q5, q6, q8⟩ := hk
  simp (maxSteps := 1000000) only [List.drop_succ_cons, List.drop_zero, Nat.zero_add, Nat.reduceAdd, List.take_succ_cons, List.take_zero, fillFrom, Act.put, List.setIfInBounds_toArray, List.set_cons_zero, List.set_cons_succ, q0, q1, q2, q4, q5, q6, q8]
  clear q0 q1 q2 q4 q5 q6 q8
  generalize xs 3 = x3 at *
  generalize xs 7 = x7 at *
  obtain ⟨rfl, rfl, hboth⟩ := hj2
  have HBO : Hid _ := hboth
  have hb2 := hboth.fr.row HB1.out (fun h => h.elim HNO.out.1 HNO.out.2)
  obtain ⟨-, -, -, -, -, -, c6, -⟩ := cellsAt8 hb2
  have HBI : Hid (IsBytes w2 (.slice ia data.length ic) data) := Row.keepB HIN.out HTI.out hboth.fr.keep
  have HBD : Hid (IsBytes w2 (.slice da data.length dc) data) := OldB.at HD0.out (Ext.of_fr HB0.out hboth.fr (fun k hk => hk.elim (HP.out.high k) (HP.out.rin.high k)))
  have HOW : Hid (w2.ownsRow wb.heap.size 5 1 (.slice ia data.length ic) data.length (data.map fun x => .int .u8 x.toNat)) := by
    refine ⟨HOI.out.1, HOI.out.2.imp id ?_⟩
    rintro ⟨g, cap, cur, h1, h2, h3, h4⟩
    exact ⟨g, cap, cur, h1, h2, (hboth.fr.keep.2 _ ⟨_, _, _, h3, byt_u8⟩).trans h3, h4⟩
  have hdl := HD1.out.len
  have HIB : Hid (∀ k, (Value.slice ia data.length ic).ownBlock = some k → w.heap.size ≤ k ∧ k < w1.heap.size) := fun k hk => by
    have := World.ownsRow.lt HOI.out k hk
    omega
  clear hb2 hboth
  go_upto_region 37 with fail
  go_wp2_with fail
  go_at_call 35
  refine (bytesEq_any _ _ _ _ _ HBI.out HBD.out).mono ?_
  rw [beq_self_eq_true]
  rintro e w3 ⟨rfl, rfl⟩
  clear c6
  go_wp2_with fail
  go_loopw [17] (fun i wr => ∃ (k : Nat) (xs : List Value), k ≤ data.length ∧ i = .int .i64 k ∧ wr.ownsRow wb.heap.size 5 1 (.slice ia data.length ic) data.length xs ∧ U8s xs ∧ w3.grownBy wr (Value.slice ia data.length ic).ownBlock) (fun i _ => data.length - (intOf i).toNat)
  case atStart => exact ⟨0, _, Nat.zero_le _, rfl, HOW.out, U8s.map _, ⟨rfl, rfl, rfl, Nat.le_refl _, fun _ _ _ => rfl⟩⟩
  case round =>
    obtain ⟨k, ys, hk, rfl, hown, hu8, hgr⟩ := hrel
    have HOW3 : Hid _ := hown
    have HU : Hid _ := hu8
    have HGR : Hid _ := hgr
    have hyl : ys.length = data.length := by have := hown.1; omega
    clear hown hu8 hgr
    by_cases hlt : k < data.length
    · obtain ⟨g, cap', hge⟩ := owns_some HOW3.out (by omega)
      simp only [Value.slice.injEq, true_and] at hge
      obtain ⟨rfl, rfl⟩ := hge
      obtain ⟨u, hu⟩ : ∃ u, ys[k]? = some u := ⟨_, List.getElem?_eq_getElem (by omega)⟩
      obtain ⟨b, hb, rfl⟩ := HU.out k u hu
      have hcell : wr.cell? ⟨g, k, none⟩ = some (.int .u8 b) := by
        rw [World.ownsRow.cellAt HOW3.out k (by omega)]
        exact hu
      have hfz := World.ownsRow.frozenAt HOW3.out k
      clear hu
      go_wp2
      go_roundw
      case rel =>
        obtain ⟨ho3, hg3⟩ := World.ownsRow.stored HOW3.out k (.int .u8 (((b : Int) + 1) % 256))
        refine ⟨k + 1, ys.set k (.int .u8 (((b : Int) + 1) % 256)), by omega, by go_num, ho3, ?_, HGR.out.trans hg3⟩
        have he : ((b : Int) + 1) % 256 = (((b + 1) % 256 : Nat) : Int) := by omega
        rw [he]
        exact U8s.set HU.out k _ (by omega)
      case measure => simp [intOf]; omega
    · have hkk : k = data.length := by omega
      subst hkk
      go_wp2
      go_ret
      rw [HM.out, HM2.out]
      exact ⟨⟨_, rfl, HOKB.out⟩, Two2.done HT.out HX01.out HBO.out HIB.out HGR.out⟩

end Go.Proofs.YtoajnaopainpnaaGreatDoor

/-! marlaw5.Does: Sync. Conditions: as each theorem states. -/
namespace Go.Proofs.YtoajnaopainpnaaGreatDoor
open Go Go.RowKit
variable [Inhabited BaseW]

set_option maxRecDepth 100000 in
set_option maxHeartbeats 8000000 in
theorem does_k5 {w0 w : World} {S O O' : Nat → Prop} {fv xv : Value} {m m2 : Fs} {n : Nat} {cs : List Value} {mode keep torn : Int} {path dest data : B8} {plan : List Ev} (hT : Two2 w0 S O O' w fv xv m m2) (hE : Env w0) (hg : Good n m) (hg2 : Good n m2) (hn : n ≤ 1000) (ho : IsOpn w0 cs ⟨5, mode, keep, torn, path, dest, data, plan⟩) (hok : OpOk ⟨5, mode, keep, torn, path, dest, data, plan⟩) :
    Calls Tryz.prog 25 #[fv, xv, .agg cs.toArray] w (DoesPost2 w0 S O O' fv xv m m2 (syncM m).1 (syncM m2).1 w) := by
  obtain ⟨vd, vp, rfl, hd, hpl⟩ := ho
  obtain ⟨da, dc, rfl, -⟩ := id hd.bytes
  obtain ⟨_, ⟨pa, pc, rfl, -⟩, -⟩ := id hpl
  simp only at hd hpl
  have hp := hok.path
  have hq := hok.dest
  have hkp := hok.keep
  have htn := hok.torn
  have hfw := hok.few
  simp only at hp hq hkp htn hfw
  have hx0 := hT.ext
  have hba := hT.base
  obtain ⟨gf, hgf⟩ : ∃ g, fv = .pointer (some ⟨g, 0, none⟩) := by
    obtain ⟨g, gm, gd, vp, vl, vu, L, c0, hpe, -⟩ := hT.fs
    exact ⟨g, hpe⟩
  subst hgf
  obtain ⟨gx, rfl⟩ := hT.ref.ptr
  obtain ⟨wb, hwb⟩ : ∃ wb, wb = w.alloc (.cells #[.int .i64 5, .int .i64 mode, .int .i64 keep, .int .i64 torn, S8 path, S8 dest, .slice da data.length dc, .slice pa plan.length pc] 48) := ⟨_, rfl⟩
  have hxb : Ext w wb := by rw [hwb]; exact (Ext.refl _).alloc _
  have hbb : wb.heap[w.heap.size]? = some (.cells #[.int .i64 5, .int .i64 mode, .int .i64 keep, .int .i64 torn, S8 path, S8 dest, .slice da data.length dc, .slice pa plan.length pc] 48 (0, 0)) := by rw [hwb]; exact alloc_at _ _
  obtain ⟨b0, b1, b2, b3, b4, b5, b6, b7⟩ := cellsAt8 hbb
  have hsb : w.heap.size < wb.heap.size := by rw [hwb]; simp
  have HT : Hid _ := hT
  have HE : Hid _ := hE
  have HG : Hid _ := hg
  have HG2 : Hid _ := hg2
  have HWB : Hid _ := hwb
  have HXB : Hid _ := hxb
  have HBB : Hid _ := hbb
  have HD0 : Hid (OldB (.slice da data.length dc) data) := hd
  have HBA : Hid _ := hba
  have HX0 : Hid _ := hx0
  have HPL : Hid (ReadO w0 IsEvI (.slice pa plan.length pc) plan) := hpl
  have HDB : Hid _ := OldB.at hd ((hba.trans hx0).trans hxb)
  have HOKK : Hid _ := hok
  clear hT hE hg hg2 hwb hxb hbb hd hx0 hba hpl hok
  go_enter Tryz.func25, Tryz.ntmps25
  go_upto_region 1 with fail
  rw [show w.alloc (.cells #[.int .i64 5, .int .i64 mode, .int .i64 keep, .int .i64 torn, S8 path, S8 dest, .slice da data.length dc, .slice pa plan.length pc] 48) = wb from HWB.out.symm]
  go_wp2_with fail
  go_at_call 52
  refine (copyB_own _ data _ HDB.out).mono ?_
  rintro e w1 ⟨⟨vin, rfl, hin⟩, hx1⟩
  obtain ⟨ia, ic, hie, -⟩ := Row.of_owns hin HD0.out.bytes.len
  subst hie
  have HIN : Hid (IsBytes w1 (.slice ia data.length ic) data) := Row.of_owns hin HD0.out.bytes.len
  have HTI : Hid (TypB w1 (.slice ia data.length ic)) := TypB.of_owns hin
  have HOI : Hid _ := hin
  have hx01 : Ext w w1 := Ext.trans HXB.out hx1
  have HP : Hid (Pair S O O' (fun k => k < w.heap.size) w1 (.pointer (some ⟨gf, 0, none⟩)) (.pointer (some ⟨gx, 0, none⟩)) m m2) := Two2.pair HT.out HE.out HG.out HG2.out hn hx01
  have HNG : Hid _ := (Two2.noG HT.out HE.out).2
  have HB1 : Hid _ := hx1.row HBB.out
  have HNO : Hid (¬ O w.heap.size ∧ ¬ O' w.heap.size) := ⟨fun h => by have := HT.out.lo _ h; omega, fun h => by have := HT.out.lo' _ h; omega⟩
  have HB0 : Hid (Ext baseW w1) := Ext.trans (Ext.trans HBA.out HX0.out) hx01
  have HD1 : Hid (IsBytes w1 (.slice da data.length dc) data) := OldB.at HD0.out HB0.out
  have HX01 : Hid _ := hx01
  have htm := HG.out.time
  have hcl := HG.out.calls
  have htm2 := HG2.out.time
  have hcl2 := HG2.out.calls
  obtain ⟨er, her⟩ : ∃ er, (syncM m).2 = er := ⟨_, rfl⟩
  have HER : Hid _ := her
  obtain ⟨er2, her2⟩ : ∃ er, (syncM m2).2 = er := ⟨_, rfl⟩
  have HER2 : Hid _ := her2
  obtain ⟨okb, hokb⟩ : ∃ okb, (er == er2) = okb := ⟨_, rfl⟩
  have HOKB : Hid (m = m2 → okb = true) := fun h => by rw [← hokb, ← her, ← her2, h]; simp
  clear her her2
  obtain ⟨m', hm'⟩ : ∃ m', (syncM m).1 = m' := ⟨_, rfl⟩
  have HM : Hid _ := hm'
  obtain ⟨m2', hm2'⟩ : ∃ m', (syncM m2).1 = m' := ⟨_, rfl⟩
  have HM2 : Hid _ := hm2'
  replace b0 := hx1.cell b0
  have hsz1 := hx1.size
  clear hin hx1 hx01 hm' hm2' b1 b2 b3 b4 b5 b6 b7
  go_upto_region 15 with fail
  have HJ0 : Hid (DJ S O O' (fun k => k < w.heap.size) w1 (.pointer (some ⟨gf, 0, none⟩)) (.pointer (some ⟨gx, 0, none⟩)) m' m2' (fun _ => True) (fun _ => True) none none w1) := DJ.start (Ext.refl _)
  obtain ⟨c0, c1, c2, c3, c4, c5, c6, c7⟩ := cellsAt8 HB1.out
  go_wp2_with fail
  go_at_call 29
  refine (sync_any (DJ.fin HP.out HNG.out HJ0.out)).mono ?_
  rw [HER.out]
  rintro e wf ⟨rfl, h4⟩
  rw [HM.out] at h4
  have HJF : Hid (DJ S O O' (fun k => k < w.heap.size) w1 (.pointer (some ⟨gf, 0, none⟩)) (.pointer (some ⟨gx, 0, none⟩)) m' m2' (fun _ => True) (fun _ => True) (some (.bool true)) none wf) := DJ.setF HP.out HJ0.out (by trivial) h4
  obtain ⟨c0, c1, c2, c3, c4, c5, c6, c7⟩ := cellsAt8 (DJ.row HJF.out HB1.out HNO.out.1 HNO.out.2)
  clear h4
  go_wp2_with fail
  go_at_call 59
  refine (syncR_any (DJ.rin HP.out HJF.out)).mono ?_
  rw [HER2.out]
  rintro e w2 ⟨rfl, h4⟩
  rw [HM2.out] at h4
  have hjx : DJ S O O' (fun k => k < w.heap.size) w1 (.pointer (some ⟨gf, 0, none⟩)) (.pointer (some ⟨gx, 0, none⟩)) m' m2' (fun _ => True) (fun _ => True) (some (.bool true)) (some (.bool true)) w2 := DJ.setR HP.out HJF.out (by trivial) h4
  obtain ⟨-, -, hboth⟩ := hjx
  clear h4 c0 c1 c2 c3 c4 c5 c6 c7
  have HBO : Hid _ := hboth
  have hb2 := hboth.fr.row HB1.out (fun h => h.elim HNO.out.1 HNO.out.2)
  obtain ⟨-, -, -, -, -, -, c6, -⟩ := cellsAt8 hb2
  have HBI : Hid (IsBytes w2 (.slice ia data.length ic) data) := Row.keepB HIN.out HTI.out hboth.fr.keep
  have HBD : Hid (IsBytes w2 (.slice da data.length dc) data) := OldB.at HD0.out (Ext.of_fr HB0.out hboth.fr (fun k hk => hk.elim (HP.out.high k) (HP.out.rin.high k)))
  have HOW : Hid (w2.ownsRow wb.heap.size 5 1 (.slice ia data.length ic) data.length (data.map fun x => .int .u8 x.toNat)) := by
    refine ⟨HOI.out.1, HOI.out.2.imp id ?_⟩
    rintro ⟨g, cap, cur, h1, h2, h3, h4⟩
    exact ⟨g, cap, cur, h1, h2, (hboth.fr.keep.2 _ ⟨_, _, _, h3, byt_u8⟩).trans h3, h4⟩
  have hdl := HD1.out.len
  have HIB : Hid (∀ k, (Value.slice ia data.length ic).ownBlock = some k → w.heap.size ≤ k ∧ k < w1.heap.size) := fun k hk => by
    have := World.ownsRow.lt HOI.out k hk
    omega
  clear hb2 hboth
  go_upto_region 37 with fail
  go_wp2_with fail
  go_at_call 35
  refine (bytesEq_any _ _ _ _ _ HBI.out HBD.out).mono ?_
  rw [beq_self_eq_true]
  rintro e w3 ⟨rfl, rfl⟩
  clear c6
  go_wp2_with fail
  go_loopw [17] (fun i wr => ∃ (k : Nat) (xs : List Value), k ≤ data.length ∧ i = .int .i64 k ∧ wr.ownsRow wb.heap.size 5 1 (.slice ia data.length ic) data.length xs ∧ U8s xs ∧ w3.grownBy wr (Value.slice ia data.length ic).ownBlock) (fun i _ => data.length - (intOf i).toNat)
  case atStart => exact ⟨0, _, Nat.zero_le _, rfl, HOW.out, U8s.map _, ⟨rfl, rfl, rfl, Nat.le_refl _, fun _ _ _ => rfl⟩⟩
  case round =>
    obtain ⟨k, ys, hk, rfl, hown, hu8, hgr⟩ := hrel
    have HOW3 : Hid _ := hown
    have HU : Hid _ := hu8
    have HGR : Hid _ := hgr
    have hyl : ys.length = data.length := by have := hown.1; omega
    clear hown hu8 hgr
    by_cases hlt : k < data.length
    · obtain ⟨g, cap', hge⟩ := owns_some HOW3.out (by omega)
      simp only [Value.slice.injEq, true_and] at hge
      obtain ⟨rfl, rfl⟩ := hge
      obtain ⟨u, hu⟩ : ∃ u, ys[k]? = some u := ⟨_, List.getElem?_eq_getElem (by omega)⟩
      obtain ⟨b, hb, rfl⟩ := HU.out k u hu
      have hcell : wr.cell? ⟨g, k, none⟩ = some (.int .u8 b) := by
        rw [World.ownsRow.cellAt HOW3.out k (by omega)]
        exact hu
      have hfz := World.ownsRow.frozenAt HOW3.out k
      clear hu
      go_wp2
      go_roundw
      case rel =>
        obtain ⟨ho3, hg3⟩ := World.ownsRow.stored HOW3.out k (.int .u8 (((b : Int) + 1) % 256))
        refine ⟨k + 1, ys.set k (.int .u8 (((b : Int) + 1) % 256)), by omega, by go_num, ho3, ?_, HGR.out.trans hg3⟩
        have he : ((b : Int) + 1) % 256 = (((b + 1) % 256 : Nat) : Int) := by omega
        rw [he]
        exact U8s.set HU.out k _ (by omega)
      case measure => simp [intOf]; omega
    · have hkk : k = data.length := by omega
      subst hkk
      go_wp2
      go_ret
      rw [HM.out, HM2.out]
      exact ⟨⟨_, rfl, HOKB.out⟩, Two2.done HT.out HX01.out HBO.out HIB.out HGR.out⟩

end Go.Proofs.YtoajnaopainpnaaGreatDoor

/-! marlaw5.Does: Read. Conditions: as each theorem states. -/
namespace Go.Proofs.YtoajnaopainpnaaGreatDoor
open Go Go.RowKit
variable [Inhabited BaseW]

set_option maxRecDepth 100000 in
set_option maxHeartbeats 8000000 in
theorem does_k6 {w0 w : World} {S O O' : Nat → Prop} {fv xv : Value} {m m2 : Fs} {n : Nat} {cs : List Value} {mode keep torn : Int} {path dest data : B8} {plan : List Ev} (hT : Two2 w0 S O O' w fv xv m m2) (hE : Env w0) (hg : Good n m) (hg2 : Good n m2) (hn : n ≤ 1000) (ho : IsOpn w0 cs ⟨6, mode, keep, torn, path, dest, data, plan⟩) (hok : OpOk ⟨6, mode, keep, torn, path, dest, data, plan⟩) :
    Calls Tryz.prog 25 #[fv, xv, .agg cs.toArray] w (DoesPost2 w0 S O O' fv xv m m2 (readM m path).1 (readM m2 path).1 w) := by
  obtain ⟨vd, vp, rfl, hd, hpl⟩ := ho
  obtain ⟨da, dc, rfl, -⟩ := id hd.bytes
  obtain ⟨_, ⟨pa, pc, rfl, -⟩, -⟩ := id hpl
  simp only at hd hpl
  have hp := hok.path
  have hq := hok.dest
  have hkp := hok.keep
  have htn := hok.torn
  have hfw := hok.few
  simp only at hp hq hkp htn hfw
  have hx0 := hT.ext
  have hba := hT.base
  obtain ⟨gf, hgf⟩ : ∃ g, fv = .pointer (some ⟨g, 0, none⟩) := by
    obtain ⟨g, gm, gd, vp, vl, vu, L, c0, hpe, -⟩ := hT.fs
    exact ⟨g, hpe⟩
  subst hgf
  obtain ⟨gx, rfl⟩ := hT.ref.ptr
  obtain ⟨wb, hwb⟩ : ∃ wb, wb = w.alloc (.cells #[.int .i64 6, .int .i64 mode, .int .i64 keep, .int .i64 torn, S8 path, S8 dest, .slice da data.length dc, .slice pa plan.length pc] 48) := ⟨_, rfl⟩
  have hxb : Ext w wb := by rw [hwb]; exact (Ext.refl _).alloc _
  have hbb : wb.heap[w.heap.size]? = some (.cells #[.int .i64 6, .int .i64 mode, .int .i64 keep, .int .i64 torn, S8 path, S8 dest, .slice da data.length dc, .slice pa plan.length pc] 48 (0, 0)) := by rw [hwb]; exact alloc_at _ _
  obtain ⟨b0, b1, b2, b3, b4, b5, b6, b7⟩ := cellsAt8 hbb
  have hsb : w.heap.size < wb.heap.size := by rw [hwb]; simp
  have HT : Hid _ := hT
  have HE : Hid _ := hE
  have HG : Hid _ := hg
  have HG2 : Hid _ := hg2
  have HWB : Hid _ := hwb
  have HXB : Hid _ := hxb
  have HBB : Hid _ := hbb
  have HD0 : Hid (OldB (.slice da data.length dc) data) := hd
  have HBA : Hid _ := hba
  have HX0 : Hid _ := hx0
  have HPL : Hid (ReadO w0 IsEvI (.slice pa plan.length pc) plan) := hpl
  have HDB : Hid _ := OldB.at hd ((hba.trans hx0).trans hxb)
  have HOKK : Hid _ := hok
  clear hT hE hg hg2 hwb hxb hbb hd hx0 hba hpl hok
  go_enter Tryz.func25, Tryz.ntmps25
  go_upto_region 1 with fail
  rw [show w.alloc (.cells #[.int .i64 6, .int .i64 mode, .int .i64 keep, .int .i64 torn, S8 path, S8 dest, .slice da data.length dc, .slice pa plan.length pc] 48) = wb from HWB.out.symm]
  go_wp2_with fail
  go_at_call 52
  refine (copyB_own _ data _ HDB.out).mono ?_
  rintro e w1 ⟨⟨vin, rfl, hin⟩, hx1⟩
  obtain ⟨ia, ic, hie, -⟩ := Row.of_owns hin HD0.out.bytes.len
  subst hie
  have HIN : Hid (IsBytes w1 (.slice ia data.length ic) data) := Row.of_owns hin HD0.out.bytes.len
  have HTI : Hid (TypB w1 (.slice ia data.length ic)) := TypB.of_owns hin
  have HOI : Hid _ := hin
  have hx01 : Ext w w1 := Ext.trans HXB.out hx1
  have HP : Hid (Pair S O O' (fun k => k < w.heap.size) w1 (.pointer (some ⟨gf, 0, none⟩)) (.pointer (some ⟨gx, 0, none⟩)) m m2) := Two2.pair HT.out HE.out HG.out HG2.out hn hx01
  have HNG : Hid _ := (Two2.noG HT.out HE.out).2
  have HB1 : Hid _ := hx1.row HBB.out
  have HNO : Hid (¬ O w.heap.size ∧ ¬ O' w.heap.size) := ⟨fun h => by have := HT.out.lo _ h; omega, fun h => by have := HT.out.lo' _ h; omega⟩
  have HB0 : Hid (Ext baseW w1) := Ext.trans (Ext.trans HBA.out HX0.out) hx01
  have HD1 : Hid (IsBytes w1 (.slice da data.length dc) data) := OldB.at HD0.out HB0.out
  have HX01 : Hid _ := hx01
  have htm := HG.out.time
  have hcl := HG.out.calls
  have htm2 := HG2.out.time
  have hcl2 := HG2.out.calls
  obtain ⟨er, her⟩ : ∃ er, (readM m path).2.2 = er := ⟨_, rfl⟩
  have HER : Hid _ := her
  obtain ⟨er2, her2⟩ : ∃ er, (readM m2 path).2.2 = er := ⟨_, rfl⟩
  have HER2 : Hid _ := her2
  obtain ⟨okb, hokb⟩ : ∃ okb, (er == er2) = okb := ⟨_, rfl⟩
  have HOKB : Hid (m = m2 → okb = true) := fun h => by rw [← hokb, ← her, ← her2, h]; simp
  clear her her2
  obtain ⟨m', hm'⟩ : ∃ m', (readM m path).1 = m' := ⟨_, rfl⟩
  have HM : Hid _ := hm'
  obtain ⟨m2', hm2'⟩ : ∃ m', (readM m2 path).1 = m' := ⟨_, rfl⟩
  have HM2 : Hid _ := hm2'
  replace b0 := hx1.cell b0
  have hsz1 := hx1.size
  clear hin hx1 hx01 hm' hm2' b1 b2 b3 b4 b5 b6 b7
  obtain ⟨fi, hfi⟩ : ∃ fi, (readM m path).2.1 = fi := ⟨_, rfl⟩
  have HFI : Hid _ := hfi
  obtain ⟨fj, hfj⟩ : ∃ fi, (readM m2 path).2.1 = fi := ⟨_, rfl⟩
  have HFJ : Hid _ := hfj
  have HFE : Hid (m = m2 → fi = fj) := fun h => by rw [← hfi, ← hfj, h]
  clear hfi hfj
  go_upto_region 17 with fail
  have HJ0 : Hid (DJ S O O' (fun k => k < w.heap.size) w1 (.pointer (some ⟨gf, 0, none⟩)) (.pointer (some ⟨gx, 0, none⟩)) m' m2' (fun _ => True) (fun _ => True) none none w1) := DJ.start (Ext.refl _)
  obtain ⟨c0, c1, c2, c3, c4, c5, c6, c7⟩ := cellsAt8 HB1.out
  go_wp2_with fail
  go_at_call 60
  refine (read_any path (DJ.fin HP.out HNG.out HJ0.out) hp).mono ?_
  rw [HFI.out, HER.out]
  rintro e wf ⟨⟨v, rfl, hv⟩, h4⟩
  rw [HM.out] at h4
  obtain ⟨va, vc, rfl, -⟩ := id hv.bytes
  have HJF : Hid (DJ S O O' (fun k => k < w.heap.size) w1 (.pointer (some ⟨gf, 0, none⟩)) (.pointer (some ⟨gx, 0, none⟩)) m' m2' (fun _ => True) (fun _ => True) (some (.bool true)) none wf) := DJ.setF HP.out HJ0.out trivial h4
  have hsf := h4.fr.size
  obtain ⟨wg, hwg⟩ : ∃ wg, wg = wf.alloc (.cells #[.int .i64 fi.mode, .slice va fi.data.length vc, .int .i64 fi.time] 30) := ⟨_, rfl⟩
  have hxg : Ext wf wg := by rw [hwg]; exact (Ext.refl _).alloc _
  have hbg : wg.heap[wf.heap.size]? = some (.cells #[.int .i64 fi.mode, .slice va fi.data.length vc, .int .i64 fi.time] 30 (0, 0)) := by rw [hwg]; exact alloc_at _ _
  have HJG : Hid (DJ S O O' (fun k => k < w.heap.size) w1 (.pointer (some ⟨gf, 0, none⟩)) (.pointer (some ⟨gx, 0, none⟩)) m' m2' (fun _ => True) (fun _ => True) (some (.bool true)) none wg) := DJ.more HJF.out hxg
  have HWG : Hid _ := hwg
  have HVG : Hid _ := IsData.ext hv hxg
  obtain ⟨c0, c1, c2, c3, c4, c5, c6, c7⟩ := cellsAt8 (DJ.row HJG.out HB1.out HNO.out.1 HNO.out.2)
  clear h4 hwg hv hxg
  go_upto_region 18 with fail
  rw [show wf.alloc (.cells #[.int .i64 fi.mode, .slice va fi.data.length vc, .int .i64 fi.time] 30) = wg from HWG.out.symm]
  go_wp2_with fail
  go_at_call 61
  refine (readR_any path (DJ.rin HP.out HJG.out) hp).mono ?_
  rw [HFJ.out, HER2.out]
  rintro e wr2 ⟨⟨v2, rfl, hv2⟩, h5⟩
  rw [HM2.out] at h5
  obtain ⟨ua, uc, rfl, -⟩ := id hv2.bytes
  have hbg2 := h5.fr.row hbg (fun ho => by have := HP.out.rin.low _ ho; omega)
  have HV2 : Hid (IsBytes wr2 (.slice va fi.data.length vc) fi.data) := Row.keepB HVG.out.bytes HVG.out.typed h5.fr.keep
  have HJX : Hid (DJ S O O' (fun k => k < w.heap.size) w1 (.pointer (some ⟨gf, 0, none⟩)) (.pointer (some ⟨gx, 0, none⟩)) m' m2' (fun _ => True) (fun _ => True) (some (.bool true)) (some (.bool true)) wr2) := DJ.setR HP.out HJG.out trivial h5
  obtain ⟨wh, hwh⟩ : ∃ wh, wh = wr2.alloc (.cells #[.int .i64 fj.mode, .slice ua fj.data.length uc, .int .i64 fj.time] 92) := ⟨_, rfl⟩
  have hxh : Ext wr2 wh := by rw [hwh]; exact (Ext.refl _).alloc _
  have hbh : wh.heap[wr2.heap.size]? = some (.cells #[.int .i64 fj.mode, .slice ua fj.data.length uc, .int .i64 fj.time] 92 (0, 0)) := by rw [hwh]; exact alloc_at _ _
  obtain ⟨y0, y1, y2⟩ := cellsAt3 hbh
  obtain ⟨q0, q1, q2⟩ := cellsAt3 (hxh.row hbg2)
  have HWH : Hid _ := hwh
  have HXH : Hid _ := hxh
  have HVH : Hid _ := IsBytes.ext HV2.out hxh
  have HUH : Hid _ := IsBytes.ext hv2.bytes hxh
  clear h5 hwh hv2 hxh hbg hbg2 hbh c0 c1 c2 c3 c4 c5 c6 c7
  go_upto_region 19 with fail
  rw [show wr2.alloc (.cells #[.int .i64 fj.mode, .slice ua fj.data.length uc, .int .i64 fj.time] 92) = wh from HWH.out.symm]
  go_wp2_with fail
  go_at_call 62
  refine (file_any fi fj _ _ _ HVH.out HUH.out).mono ?_
  rintro e w2 ⟨⟨r, rfl, hr⟩, hx2⟩
  have HRR : Hid (m = m2 → r = true) := fun h => hr (HFE.out h)
  obtain ⟨-, -, hboth⟩ := DJ.more HJX.out (Ext.trans HXH.out hx2)
  clear hx2 y0 y1 y2 q0 q1 q2
  cases r with
  | false =>
    have HBO : Hid _ := hboth
    have hb2 := hboth.fr.row HB1.out (fun h => h.elim HNO.out.1 HNO.out.2)
    obtain ⟨-, -, -, -, -, -, c6, -⟩ := cellsAt8 hb2
    have HBI : Hid (IsBytes w2 (.slice ia data.length ic) data) := Row.keepB HIN.out HTI.out hboth.fr.keep
    have HBD : Hid (IsBytes w2 (.slice da data.length dc) data) := OldB.at HD0.out (Ext.of_fr HB0.out hboth.fr (fun k hk => hk.elim (HP.out.high k) (HP.out.rin.high k)))
    have HOW : Hid (w2.ownsRow wb.heap.size 5 1 (.slice ia data.length ic) data.length (data.map fun x => .int .u8 x.toNat)) := by
      refine ⟨HOI.out.1, HOI.out.2.imp id ?_⟩
      rintro ⟨g, cap, cur, h1, h2, h3, h4⟩
      exact ⟨g, cap, cur, h1, h2, (hboth.fr.keep.2 _ ⟨_, _, _, h3, byt_u8⟩).trans h3, h4⟩
    have hdl := HD1.out.len
    have HIB : Hid (∀ k, (Value.slice ia data.length ic).ownBlock = some k → w.heap.size ≤ k ∧ k < w1.heap.size) := fun k hk => by
      have := World.ownsRow.lt HOI.out k hk
      omega
    clear hb2 hboth
    go_upto_region 37 with fail
    go_wp2_with fail
    go_at_call 35
    refine (bytesEq_any _ _ _ _ _ HBI.out HBD.out).mono ?_
    rw [beq_self_eq_true]
    rintro e w3 ⟨rfl, rfl⟩
    clear c6
    go_wp2_with fail
    go_loopw [17] (fun i wr => ∃ (k : Nat) (xs : List Value), k ≤ data.length ∧ i = .int .i64 k ∧ wr.ownsRow wb.heap.size 5 1 (.slice ia data.length ic) data.length xs ∧ U8s xs ∧ w3.grownBy wr (Value.slice ia data.length ic).ownBlock) (fun i _ => data.length - (intOf i).toNat)
    case atStart => exact ⟨0, _, Nat.zero_le _, rfl, HOW.out, U8s.map _, ⟨rfl, rfl, rfl, Nat.le_refl _, fun _ _ _ => rfl⟩⟩
    case round =>
      obtain ⟨k, ys, hk, rfl, hown, hu8, hgr⟩ := hrel
      have HOW3 : Hid _ := hown
      have HU : Hid _ := hu8
      have HGR : Hid _ := hgr
      have hyl : ys.length = data.length := by have := hown.1; omega
      clear hown hu8 hgr
      by_cases hlt : k < data.length
      · obtain ⟨g, cap', hge⟩ := owns_some HOW3.out (by omega)
        simp only [Value.slice.injEq, true_and] at hge
        obtain ⟨rfl, rfl⟩ := hge
        obtain ⟨u, hu⟩ : ∃ u, ys[k]? = some u := ⟨_, List.getElem?_eq_getElem (by omega)⟩
        obtain ⟨b, hb, rfl⟩ := HU.out k u hu
        have hcell : wr.cell? ⟨g, k, none⟩ = some (.int .u8 b) := by
          rw [World.ownsRow.cellAt HOW3.out k (by omega)]
          exact hu
        have hfz := World.ownsRow.frozenAt HOW3.out k
        clear hu
        go_wp2
        go_roundw
        case rel =>
          obtain ⟨ho3, hg3⟩ := World.ownsRow.stored HOW3.out k (.int .u8 (((b : Int) + 1) % 256))
          refine ⟨k + 1, ys.set k (.int .u8 (((b : Int) + 1) % 256)), by omega, by go_num, ho3, ?_, HGR.out.trans hg3⟩
          have he : ((b : Int) + 1) % 256 = (((b + 1) % 256 : Nat) : Int) := by omega
          rw [he]
          exact U8s.set HU.out k _ (by omega)
        case measure => simp [intOf]; omega
      · have hkk : k = data.length := by omega
        subst hkk
        go_wp2
        go_ret
        rw [HM.out, HM2.out]
        exact ⟨⟨_, rfl, HRR.out⟩, Two2.done HT.out HX01.out HBO.out HIB.out HGR.out⟩
  | true =>
    have HBO : Hid _ := hboth
    have hb2 := hboth.fr.row HB1.out (fun h => h.elim HNO.out.1 HNO.out.2)
    obtain ⟨-, -, -, -, -, -, c6, -⟩ := cellsAt8 hb2
    have HBI : Hid (IsBytes w2 (.slice ia data.length ic) data) := Row.keepB HIN.out HTI.out hboth.fr.keep
    have HBD : Hid (IsBytes w2 (.slice da data.length dc) data) := OldB.at HD0.out (Ext.of_fr HB0.out hboth.fr (fun k hk => hk.elim (HP.out.high k) (HP.out.rin.high k)))
    have HOW : Hid (w2.ownsRow wb.heap.size 5 1 (.slice ia data.length ic) data.length (data.map fun x => .int .u8 x.toNat)) := by
      refine ⟨HOI.out.1, HOI.out.2.imp id ?_⟩
      rintro ⟨g, cap, cur, h1, h2, h3, h4⟩
      exact ⟨g, cap, cur, h1, h2, (hboth.fr.keep.2 _ ⟨_, _, _, h3, byt_u8⟩).trans h3, h4⟩
    have hdl := HD1.out.len
    have HIB : Hid (∀ k, (Value.slice ia data.length ic).ownBlock = some k → w.heap.size ≤ k ∧ k < w1.heap.size) := fun k hk => by
      have := World.ownsRow.lt HOI.out k hk
      omega
    clear hb2 hboth
    go_upto_region 37 with fail
    go_wp2_with fail
    go_at_call 35
    refine (bytesEq_any _ _ _ _ _ HBI.out HBD.out).mono ?_
    rw [beq_self_eq_true]
    rintro e w3 ⟨rfl, rfl⟩
    clear c6
    go_wp2_with fail
    go_loopw [17] (fun i wr => ∃ (k : Nat) (xs : List Value), k ≤ data.length ∧ i = .int .i64 k ∧ wr.ownsRow wb.heap.size 5 1 (.slice ia data.length ic) data.length xs ∧ U8s xs ∧ w3.grownBy wr (Value.slice ia data.length ic).ownBlock) (fun i _ => data.length - (intOf i).toNat)
    case atStart => exact ⟨0, _, Nat.zero_le _, rfl, HOW.out, U8s.map _, ⟨rfl, rfl, rfl, Nat.le_refl _, fun _ _ _ => rfl⟩⟩
    case round =>
      obtain ⟨k, ys, hk, rfl, hown, hu8, hgr⟩ := hrel
      have HOW3 : Hid _ := hown
      have HU : Hid _ := hu8
      have HGR : Hid _ := hgr
      have hyl : ys.length = data.length := by have := hown.1; omega
      clear hown hu8 hgr
      by_cases hlt : k < data.length
      · obtain ⟨g, cap', hge⟩ := owns_some HOW3.out (by omega)
        simp only [Value.slice.injEq, true_and] at hge
        obtain ⟨rfl, rfl⟩ := hge
        obtain ⟨u, hu⟩ : ∃ u, ys[k]? = some u := ⟨_, List.getElem?_eq_getElem (by omega)⟩
        obtain ⟨b, hb, rfl⟩ := HU.out k u hu
        have hcell : wr.cell? ⟨g, k, none⟩ = some (.int .u8 b) := by
          rw [World.ownsRow.cellAt HOW3.out k (by omega)]
          exact hu
        have hfz := World.ownsRow.frozenAt HOW3.out k
        clear hu
        go_wp2
        go_roundw
        case rel =>
          obtain ⟨ho3, hg3⟩ := World.ownsRow.stored HOW3.out k (.int .u8 (((b : Int) + 1) % 256))
          refine ⟨k + 1, ys.set k (.int .u8 (((b : Int) + 1) % 256)), by omega, by go_num, ho3, ?_, HGR.out.trans hg3⟩
          have he : ((b : Int) + 1) % 256 = (((b + 1) % 256 : Nat) : Int) := by omega
          rw [he]
          exact U8s.set HU.out k _ (by omega)
        case measure => simp [intOf]; omega
      · have hkk : k = data.length := by omega
        subst hkk
        go_wp2
        go_ret
        rw [HM.out, HM2.out]
        exact ⟨⟨_, rfl, HOKB.out⟩, Two2.done HT.out HX01.out HBO.out HIB.out HGR.out⟩

end Go.Proofs.YtoajnaopainpnaaGreatDoor

/-! marlaw5.Does: List. Conditions: as each theorem states. -/
namespace Go.Proofs.YtoajnaopainpnaaGreatDoor
open Go Go.RowKit
variable [Inhabited BaseW]

set_option maxRecDepth 100000 in
set_option maxHeartbeats 8000000 in
theorem does_k7 {w0 w : World} {S O O' : Nat → Prop} {fv xv : Value} {m m2 : Fs} {n : Nat} {cs : List Value} {mode keep torn : Int} {path dest data : B8} {plan : List Ev} (hT : Two2 w0 S O O' w fv xv m m2) (hE : Env w0) (hg : Good n m) (hg2 : Good n m2) (hn : n ≤ 1000) (ho : IsOpn w0 cs ⟨7, mode, keep, torn, path, dest, data, plan⟩) (hok : OpOk ⟨7, mode, keep, torn, path, dest, data, plan⟩) :
    Calls Tryz.prog 25 #[fv, xv, .agg cs.toArray] w (DoesPost2 w0 S O O' fv xv m m2 (listM m path).1 (listM m2 path).1 w) := by
  obtain ⟨vd, vp, rfl, hd, hpl⟩ := ho
  obtain ⟨da, dc, rfl, -⟩ := id hd.bytes
  obtain ⟨_, ⟨pa, pc, rfl, -⟩, -⟩ := id hpl
  simp only at hd hpl
  have hp := hok.path
  have hq := hok.dest
  have hkp := hok.keep
  have htn := hok.torn
  have hfw := hok.few
  simp only at hp hq hkp htn hfw
  have hx0 := hT.ext
  have hba := hT.base
  obtain ⟨gf, hgf⟩ : ∃ g, fv = .pointer (some ⟨g, 0, none⟩) := by
    obtain ⟨g, gm, gd, vp, vl, vu, L, c0, hpe, -⟩ := hT.fs
    exact ⟨g, hpe⟩
  subst hgf
  obtain ⟨gx, rfl⟩ := hT.ref.ptr
  obtain ⟨wb, hwb⟩ : ∃ wb, wb = w.alloc (.cells #[.int .i64 7, .int .i64 mode, .int .i64 keep, .int .i64 torn, S8 path, S8 dest, .slice da data.length dc, .slice pa plan.length pc] 48) := ⟨_, rfl⟩
  have hxb : Ext w wb := by rw [hwb]; exact (Ext.refl _).alloc _
  have hbb : wb.heap[w.heap.size]? = some (.cells #[.int .i64 7, .int .i64 mode, .int .i64 keep, .int .i64 torn, S8 path, S8 dest, .slice da data.length dc, .slice pa plan.length pc] 48 (0, 0)) := by rw [hwb]; exact alloc_at _ _
  obtain ⟨b0, b1, b2, b3, b4, b5, b6, b7⟩ := cellsAt8 hbb
  have hsb : w.heap.size < wb.heap.size := by rw [hwb]; simp
  have HT : Hid _ := hT
  have HE : Hid _ := hE
  have HG : Hid _ := hg
  have HG2 : Hid _ := hg2
  have HWB : Hid _ := hwb
  have HXB : Hid _ := hxb
  have HBB : Hid _ := hbb
  have HD0 : Hid (OldB (.slice da data.length dc) data) := hd
  have HBA : Hid _ := hba
  have HX0 : Hid _ := hx0
  have HPL : Hid (ReadO w0 IsEvI (.slice pa plan.length pc) plan) := hpl
  have HDB : Hid _ := OldB.at hd ((hba.trans hx0).trans hxb)
  have HOKK : Hid _ := hok
  clear hT hE hg hg2 hwb hxb hbb hd hx0 hba hpl hok
  go_enter Tryz.func25, Tryz.ntmps25
  go_upto_region 1 with fail
  rw [show w.alloc (.cells #[.int .i64 7, .int .i64 mode, .int .i64 keep, .int .i64 torn, S8 path, S8 dest, .slice da data.length dc, .slice pa plan.length pc] 48) = wb from HWB.out.symm]
  go_wp2_with fail
  go_at_call 52
  refine (copyB_own _ data _ HDB.out).mono ?_
  rintro e w1 ⟨⟨vin, rfl, hin⟩, hx1⟩
  obtain ⟨ia, ic, hie, -⟩ := Row.of_owns hin HD0.out.bytes.len
  subst hie
  have HIN : Hid (IsBytes w1 (.slice ia data.length ic) data) := Row.of_owns hin HD0.out.bytes.len
  have HTI : Hid (TypB w1 (.slice ia data.length ic)) := TypB.of_owns hin
  have HOI : Hid _ := hin
  have hx01 : Ext w w1 := Ext.trans HXB.out hx1
  have HP : Hid (Pair S O O' (fun k => k < w.heap.size) w1 (.pointer (some ⟨gf, 0, none⟩)) (.pointer (some ⟨gx, 0, none⟩)) m m2) := Two2.pair HT.out HE.out HG.out HG2.out hn hx01
  have HNG : Hid _ := (Two2.noG HT.out HE.out).2
  have HB1 : Hid _ := hx1.row HBB.out
  have HNO : Hid (¬ O w.heap.size ∧ ¬ O' w.heap.size) := ⟨fun h => by have := HT.out.lo _ h; omega, fun h => by have := HT.out.lo' _ h; omega⟩
  have HB0 : Hid (Ext baseW w1) := Ext.trans (Ext.trans HBA.out HX0.out) hx01
  have HD1 : Hid (IsBytes w1 (.slice da data.length dc) data) := OldB.at HD0.out HB0.out
  have HX01 : Hid _ := hx01
  have htm := HG.out.time
  have hcl := HG.out.calls
  have htm2 := HG2.out.time
  have hcl2 := HG2.out.calls
  obtain ⟨er, her⟩ : ∃ er, (listM m path).2.2 = er := ⟨_, rfl⟩
  have HER : Hid _ := her
  obtain ⟨er2, her2⟩ : ∃ er, (listM m2 path).2.2 = er := ⟨_, rfl⟩
  have HER2 : Hid _ := her2
  obtain ⟨okb, hokb⟩ : ∃ okb, (er == er2) = okb := ⟨_, rfl⟩
  have HOKB : Hid (m = m2 → okb = true) := fun h => by rw [← hokb, ← her, ← her2, h]; simp
  clear her her2
  obtain ⟨m', hm'⟩ : ∃ m', (listM m path).1 = m' := ⟨_, rfl⟩
  have HM : Hid _ := hm'
  obtain ⟨m2', hm2'⟩ : ∃ m', (listM m2 path).1 = m' := ⟨_, rfl⟩
  have HM2 : Hid _ := hm2'
  replace b0 := hx1.cell b0
  have hsz1 := hx1.size
  clear hin hx1 hx01 hm' hm2' b1 b2 b3 b4 b5 b6 b7
  obtain ⟨ls, hls⟩ : ∃ ls, (listM m path).2.1 = ls := ⟨_, rfl⟩
  have HLS : Hid _ := hls
  obtain ⟨lt, hlt⟩ : ∃ ls, (listM m2 path).2.1 = ls := ⟨_, rfl⟩
  have HLT : Hid _ := hlt
  have HLE : Hid (m = m2 → ls = lt) := fun h => by rw [← hls, ← hlt, h]
  clear hls hlt
  go_upto_region 21 with fail
  have HJ0 : Hid (DJ S O O' (fun k => k < w.heap.size) w1 (.pointer (some ⟨gf, 0, none⟩)) (.pointer (some ⟨gx, 0, none⟩)) m' m2' (fun _ => True) (fun _ => True) none none w1) := DJ.start (Ext.refl _)
  obtain ⟨c0, c1, c2, c3, c4, c5, c6, c7⟩ := cellsAt8 HB1.out
  go_wp2_with fail
  go_at_call 63
  refine (list_any path (DJ.fin HP.out HNG.out HJ0.out) hp).mono ?_
  rw [HLS.out, HER.out]
  rintro e wf ⟨⟨v, rfl, hv, hvn⟩, h4⟩
  rw [HM.out] at h4
  obtain ⟨va, vc, rfl, -⟩ := id hv
  have HJF : Hid (DJ S O O' (fun k => k < w.heap.size) w1 (.pointer (some ⟨gf, 0, none⟩)) (.pointer (some ⟨gx, 0, none⟩)) m' m2' (fun _ => True) (fun _ => True) (some (.bool true)) none wf) := DJ.setF HP.out HJ0.out trivial h4
  have HV : Hid _ := hv
  have HVN : Hid _ := hvn
  obtain ⟨c0, c1, c2, c3, c4, c5, c6, c7⟩ := cellsAt8 (DJ.row HJF.out HB1.out HNO.out.1 HNO.out.2)
  clear h4 hv hvn
  go_wp2_with fail
  go_at_call 64
  refine (listR_any path (DJ.rin HP.out HJF.out) hp).mono ?_
  rw [HLT.out, HER2.out]
  rintro e wr2 ⟨⟨v2, rfl, hv2⟩, h5⟩
  rw [HM2.out] at h5
  obtain ⟨ua, uc, rfl, -⟩ := id hv2
  have HVR : Hid (IsStrs wr2 (.slice va ls.length vc) ls) := by
    obtain ⟨a9, c9, he9, k1, k2, k3, k4⟩ := HV.out
    refine ⟨a9, c9, he9, k1, k2, k3, fun hne => ?_⟩
    obtain ⟨b, o, rfl, hc⟩ := k4 hne
    refine ⟨b, o, rfl, fun i u hu => ?_⟩
    have hcu := hc i u hu
    have hbn := HVN.out b (by rw [he9]; rfl)
    rw [World.cell?_of_block (w := wf) (w' := wr2) (a := ⟨b, o + i, none⟩) (h5.fr.block b (World.block_lt_of_cell? _ _ hcu) (.inl (fun ho => by have := HP.out.rin.low _ ho; omega)))]
    exact hcu
  have HUR : Hid _ := hv2
  have HJX : Hid (DJ S O O' (fun k => k < w.heap.size) w1 (.pointer (some ⟨gf, 0, none⟩)) (.pointer (some ⟨gx, 0, none⟩)) m' m2' (fun _ => True) (fun _ => True) (some (.bool true)) (some (.bool true)) wr2) := DJ.setR HP.out HJF.out trivial h5
  clear h5 hv2 c0 c1 c2 c3 c4 c5 c6 c7
  go_wp2_with fail
  go_at_call 65
  refine (texts_any _ _ _ _ _ HVR.out HUR.out).mono ?_
  obtain ⟨r, hr⟩ : ∃ r, (ls == lt) = r := ⟨_, rfl⟩
  rw [hr]
  have HRR : Hid (m = m2 → r = true) := fun h => by rw [← hr, HLE.out h]; simp
  clear hr
  rintro e w2 ⟨rfl, hx2⟩
  obtain ⟨-, -, hboth⟩ := DJ.more HJX.out hx2
  clear hx2
  cases r with
  | false =>
    have HBO : Hid _ := hboth
    have hb2 := hboth.fr.row HB1.out (fun h => h.elim HNO.out.1 HNO.out.2)
    obtain ⟨-, -, -, -, -, -, c6, -⟩ := cellsAt8 hb2
    have HBI : Hid (IsBytes w2 (.slice ia data.length ic) data) := Row.keepB HIN.out HTI.out hboth.fr.keep
    have HBD : Hid (IsBytes w2 (.slice da data.length dc) data) := OldB.at HD0.out (Ext.of_fr HB0.out hboth.fr (fun k hk => hk.elim (HP.out.high k) (HP.out.rin.high k)))
    have HOW : Hid (w2.ownsRow wb.heap.size 5 1 (.slice ia data.length ic) data.length (data.map fun x => .int .u8 x.toNat)) := by
      refine ⟨HOI.out.1, HOI.out.2.imp id ?_⟩
      rintro ⟨g, cap, cur, h1, h2, h3, h4⟩
      exact ⟨g, cap, cur, h1, h2, (hboth.fr.keep.2 _ ⟨_, _, _, h3, byt_u8⟩).trans h3, h4⟩
    have hdl := HD1.out.len
    have HIB : Hid (∀ k, (Value.slice ia data.length ic).ownBlock = some k → w.heap.size ≤ k ∧ k < w1.heap.size) := fun k hk => by
      have := World.ownsRow.lt HOI.out k hk
      omega
    clear hb2 hboth
    go_upto_region 37 with fail
    go_wp2_with fail
    go_at_call 35
    refine (bytesEq_any _ _ _ _ _ HBI.out HBD.out).mono ?_
    rw [beq_self_eq_true]
    rintro e w3 ⟨rfl, rfl⟩
    clear c6
    go_wp2_with fail
    go_loopw [17] (fun i wr => ∃ (k : Nat) (xs : List Value), k ≤ data.length ∧ i = .int .i64 k ∧ wr.ownsRow wb.heap.size 5 1 (.slice ia data.length ic) data.length xs ∧ U8s xs ∧ w3.grownBy wr (Value.slice ia data.length ic).ownBlock) (fun i _ => data.length - (intOf i).toNat)
    case atStart => exact ⟨0, _, Nat.zero_le _, rfl, HOW.out, U8s.map _, ⟨rfl, rfl, rfl, Nat.le_refl _, fun _ _ _ => rfl⟩⟩
    case round =>
      obtain ⟨k, ys, hk, rfl, hown, hu8, hgr⟩ := hrel
      have HOW3 : Hid _ := hown
      have HU : Hid _ := hu8
      have HGR : Hid _ := hgr
      have hyl : ys.length = data.length := by have := hown.1; omega
      clear hown hu8 hgr
      by_cases hlt : k < data.length
      · obtain ⟨g, cap', hge⟩ := owns_some HOW3.out (by omega)
        simp only [Value.slice.injEq, true_and] at hge
        obtain ⟨rfl, rfl⟩ := hge
        obtain ⟨u, hu⟩ : ∃ u, ys[k]? = some u := ⟨_, List.getElem?_eq_getElem (by omega)⟩
        obtain ⟨b, hb, rfl⟩ := HU.out k u hu
        have hcell : wr.cell? ⟨g, k, none⟩ = some (.int .u8 b) := by
          rw [World.ownsRow.cellAt HOW3.out k (by omega)]
          exact hu
        have hfz := World.ownsRow.frozenAt HOW3.out k
        clear hu
        go_wp2
        go_roundw
        case rel =>
          obtain ⟨ho3, hg3⟩ := World.ownsRow.stored HOW3.out k (.int .u8 (((b : Int) + 1) % 256))
          refine ⟨k + 1, ys.set k (.int .u8 (((b : Int) + 1) % 256)), by omega, by go_num, ho3, ?_, HGR.out.trans hg3⟩
          have he : ((b : Int) + 1) % 256 = (((b + 1) % 256 : Nat) : Int) := by omega
          rw [he]
          exact U8s.set HU.out k _ (by omega)
        case measure => simp [intOf]; omega
      · have hkk : k = data.length := by omega
        subst hkk
        go_wp2
        go_ret
        rw [HM.out, HM2.out]
        exact ⟨⟨_, rfl, HRR.out⟩, Two2.done HT.out HX01.out HBO.out HIB.out HGR.out⟩
  | true =>
    have HBO : Hid _ := hboth
    have hb2 := hboth.fr.row HB1.out (fun h => h.elim HNO.out.1 HNO.out.2)
    obtain ⟨-, -, -, -, -, -, c6, -⟩ := cellsAt8 hb2
    have HBI : Hid (IsBytes w2 (.slice ia data.length ic) data) := Row.keepB HIN.out HTI.out hboth.fr.keep
    have HBD : Hid (IsBytes w2 (.slice da data.length dc) data) := OldB.at HD0.out (Ext.of_fr HB0.out hboth.fr (fun k hk => hk.elim (HP.out.high k) (HP.out.rin.high k)))
    have HOW : Hid (w2.ownsRow wb.heap.size 5 1 (.slice ia data.length ic) data.length (data.map fun x => .int .u8 x.toNat)) := by
      refine ⟨HOI.out.1, HOI.out.2.imp id ?_⟩
      rintro ⟨g, cap, cur, h1, h2, h3, h4⟩
      exact ⟨g, cap, cur, h1, h2, (hboth.fr.keep.2 _ ⟨_, _, _, h3, byt_u8⟩).trans h3, h4⟩
    have hdl := HD1.out.len
    have HIB : Hid (∀ k, (Value.slice ia data.length ic).ownBlock = some k → w.heap.size ≤ k ∧ k < w1.heap.size) := fun k hk => by
      have := World.ownsRow.lt HOI.out k hk
      omega
    clear hb2 hboth
    go_upto_region 37 with fail
    go_wp2_with fail
    go_at_call 35
    refine (bytesEq_any _ _ _ _ _ HBI.out HBD.out).mono ?_
    rw [beq_self_eq_true]
    rintro e w3 ⟨rfl, rfl⟩
    clear c6
    go_wp2_with fail
    go_loopw [17] (fun i wr => ∃ (k : Nat) (xs : List Value), k ≤ data.length ∧ i = .int .i64 k ∧ wr.ownsRow wb.heap.size 5 1 (.slice ia data.length ic) data.length xs ∧ U8s xs ∧ w3.grownBy wr (Value.slice ia data.length ic).ownBlock) (fun i _ => data.length - (intOf i).toNat)
    case atStart => exact ⟨0, _, Nat.zero_le _, rfl, HOW.out, U8s.map _, ⟨rfl, rfl, rfl, Nat.le_refl _, fun _ _ _ => rfl⟩⟩
    case round =>
      obtain ⟨k, ys, hk, rfl, hown, hu8, hgr⟩ := hrel
      have HOW3 : Hid _ := hown
      have HU : Hid _ := hu8
      have HGR : Hid _ := hgr
      have hyl : ys.length = data.length := by have := hown.1; omega
      clear hown hu8 hgr
      by_cases hlt : k < data.length
      · obtain ⟨g, cap', hge⟩ := owns_some HOW3.out (by omega)
        simp only [Value.slice.injEq, true_and] at hge
        obtain ⟨rfl, rfl⟩ := hge
        obtain ⟨u, hu⟩ : ∃ u, ys[k]? = some u := ⟨_, List.getElem?_eq_getElem (by omega)⟩
        obtain ⟨b, hb, rfl⟩ := HU.out k u hu
        have hcell : wr.cell? ⟨g, k, none⟩ = some (.int .u8 b) := by
          rw [World.ownsRow.cellAt HOW3.out k (by omega)]
          exact hu
        have hfz := World.ownsRow.frozenAt HOW3.out k
        clear hu
        go_wp2
        go_roundw
        case rel =>
          obtain ⟨ho3, hg3⟩ := World.ownsRow.stored HOW3.out k (.int .u8 (((b : Int) + 1) % 256))
          refine ⟨k + 1, ys.set k (.int .u8 (((b : Int) + 1) % 256)), by omega, by go_num, ho3, ?_, HGR.out.trans hg3⟩
          have he : ((b : Int) + 1) % 256 = (((b + 1) % 256 : Nat) : Int) := by omega
          rw [he]
          exact U8s.set HU.out k _ (by omega)
        case measure => simp [intOf]; omega
      · have hkk : k = data.length := by omega
        subst hkk
        go_wp2
        go_ret
        rw [HM.out, HM2.out]
        exact ⟨⟨_, rfl, HOKB.out⟩, Two2.done HT.out HX01.out HBO.out HIB.out HGR.out⟩

end Go.Proofs.YtoajnaopainpnaaGreatDoor

/-! marlaw5.Does: UserWrite. Conditions: as each theorem states. -/
namespace Go.Proofs.YtoajnaopainpnaaGreatDoor
open Go Go.RowKit
variable [Inhabited BaseW]

set_option maxRecDepth 100000 in
set_option maxHeartbeats 8000000 in
theorem does_k8 {w0 w : World} {S O O' : Nat → Prop} {fv xv : Value} {m m2 : Fs} {n : Nat} {cs : List Value} {mode keep torn : Int} {path dest data : B8} {plan : List Ev} (hT : Two2 w0 S O O' w fv xv m m2) (hE : Env w0) (hg : Good n m) (hg2 : Good n m2) (hn : n ≤ 1000) (ho : IsOpn w0 cs ⟨8, mode, keep, torn, path, dest, data, plan⟩) (hok : OpOk ⟨8, mode, keep, torn, path, dest, data, plan⟩) :
    Calls Tryz.prog 25 #[fv, xv, .agg cs.toArray] w (DoesPost2 w0 S O O' fv xv m m2 (userWrite m path mode data).1 (userWrite m2 path mode data).1 w) := by
  obtain ⟨vd, vp, rfl, hd, hpl⟩ := ho
  obtain ⟨da, dc, rfl, -⟩ := id hd.bytes
  obtain ⟨_, ⟨pa, pc, rfl, -⟩, -⟩ := id hpl
  simp only at hd hpl
  have hp := hok.path
  have hq := hok.dest
  have hkp := hok.keep
  have htn := hok.torn
  have hfw := hok.few
  simp only at hp hq hkp htn hfw
  have hx0 := hT.ext
  have hba := hT.base
  obtain ⟨gf, hgf⟩ : ∃ g, fv = .pointer (some ⟨g, 0, none⟩) := by
    obtain ⟨g, gm, gd, vp, vl, vu, L, c0, hpe, -⟩ := hT.fs
    exact ⟨g, hpe⟩
  subst hgf
  obtain ⟨gx, rfl⟩ := hT.ref.ptr
  obtain ⟨wb, hwb⟩ : ∃ wb, wb = w.alloc (.cells #[.int .i64 8, .int .i64 mode, .int .i64 keep, .int .i64 torn, S8 path, S8 dest, .slice da data.length dc, .slice pa plan.length pc] 48) := ⟨_, rfl⟩
  have hxb : Ext w wb := by rw [hwb]; exact (Ext.refl _).alloc _
  have hbb : wb.heap[w.heap.size]? = some (.cells #[.int .i64 8, .int .i64 mode, .int .i64 keep, .int .i64 torn, S8 path, S8 dest, .slice da data.length dc, .slice pa plan.length pc] 48 (0, 0)) := by rw [hwb]; exact alloc_at _ _
  obtain ⟨b0, b1, b2, b3, b4, b5, b6, b7⟩ := cellsAt8 hbb
  have hsb : w.heap.size < wb.heap.size := by rw [hwb]; simp
  have HT : Hid _ := hT
  have HE : Hid _ := hE
  have HG : Hid _ := hg
  have HG2 : Hid _ := hg2
  have HWB : Hid _ := hwb
  have HXB : Hid _ := hxb
  have HBB : Hid _ := hbb
  have HD0 : Hid (OldB (.slice da data.length dc) data) := hd
  have HBA : Hid _ := hba
  have HX0 : Hid _ := hx0
  have HPL : Hid (ReadO w0 IsEvI (.slice pa plan.length pc) plan) := hpl
  have HDB : Hid _ := OldB.at hd ((hba.trans hx0).trans hxb)
  have HOKK : Hid _ := hok
  clear hT hE hg hg2 hwb hxb hbb hd hx0 hba hpl hok
  go_enter Tryz.func25, Tryz.ntmps25
  go_upto_region 1 with fail
  rw [show w.alloc (.cells #[.int .i64 8, .int .i64 mode, .int .i64 keep, .int .i64 torn, S8 path, S8 dest, .slice da data.length dc, .slice pa plan.length pc] 48) = wb from HWB.out.symm]
  go_wp2_with fail
  go_at_call 52
  refine (copyB_own _ data _ HDB.out).mono ?_
  rintro e w1 ⟨⟨vin, rfl, hin⟩, hx1⟩
  obtain ⟨ia, ic, hie, -⟩ := Row.of_owns hin HD0.out.bytes.len
  subst hie
  have HIN : Hid (IsBytes w1 (.slice ia data.length ic) data) := Row.of_owns hin HD0.out.bytes.len
  have HTI : Hid (TypB w1 (.slice ia data.length ic)) := TypB.of_owns hin
  have HOI : Hid _ := hin
  have hx01 : Ext w w1 := Ext.trans HXB.out hx1
  have HP : Hid (Pair S O O' (fun k => k < w.heap.size) w1 (.pointer (some ⟨gf, 0, none⟩)) (.pointer (some ⟨gx, 0, none⟩)) m m2) := Two2.pair HT.out HE.out HG.out HG2.out hn hx01
  have HNG : Hid _ := (Two2.noG HT.out HE.out).2
  have HB1 : Hid _ := hx1.row HBB.out
  have HNO : Hid (¬ O w.heap.size ∧ ¬ O' w.heap.size) := ⟨fun h => by have := HT.out.lo _ h; omega, fun h => by have := HT.out.lo' _ h; omega⟩
  have HB0 : Hid (Ext baseW w1) := Ext.trans (Ext.trans HBA.out HX0.out) hx01
  have HD1 : Hid (IsBytes w1 (.slice da data.length dc) data) := OldB.at HD0.out HB0.out
  have HX01 : Hid _ := hx01
  have htm := HG.out.time
  have hcl := HG.out.calls
  have htm2 := HG2.out.time
  have hcl2 := HG2.out.calls
  obtain ⟨er, her⟩ : ∃ er, (userWrite m path mode data).2 = er := ⟨_, rfl⟩
  have HER : Hid _ := her
  obtain ⟨er2, her2⟩ : ∃ er, (userWrite m2 path mode data).2 = er := ⟨_, rfl⟩
  have HER2 : Hid _ := her2
  obtain ⟨okb, hokb⟩ : ∃ okb, (er == er2) = okb := ⟨_, rfl⟩
  have HOKB : Hid (m = m2 → okb = true) := fun h => by rw [← hokb, ← her, ← her2, h]; simp
  clear her her2
  obtain ⟨m', hm'⟩ : ∃ m', (userWrite m path mode data).1 = m' := ⟨_, rfl⟩
  have HM : Hid _ := hm'
  obtain ⟨m2', hm2'⟩ : ∃ m', (userWrite m2 path mode data).1 = m' := ⟨_, rfl⟩
  have HM2 : Hid _ := hm2'
  replace b0 := hx1.cell b0
  have hsz1 := hx1.size
  clear hin hx1 hx01 hm' hm2' b1 b2 b3 b4 b5 b6 b7
  go_upto_region 25 with fail
  apply wp_region_inv 16 (fun z w' => DJ S O O' (fun k => k < w.heap.size) w1 (.pointer (some ⟨gf, 0, none⟩)) (.pointer (some ⟨gx, 0, none⟩)) m' m2' (fun u => u = .int .i64 er) (fun u => u = .int .i64 er2) (z 6) (z 14) w') [false, false, false, false, false, false, true, false, false, false, false, false, false, false, true, false] [_, _, _, _, _, _, undef, _, _, _, _, _, _, _, undef, .bool okb] [none, none, none, none, none, none, none, none, none, none, none, none, none, none, none, none] [[], [], [1], [], [3], [], [0, 2, 4, 5], [], [], [8], [], [10], [], [12], [7, 9, 11, 13], [6, 14]] (by kernel_rfl) (by kernel_rfl) rfl
  · exact DJ.start ⟨rfl, rfl, rfl, Nat.le_refl _, fun _ _ => rfl⟩
  · simp (maxSteps := 1000000) only [oblI, stepI, knowsI, getP, mixP, List.getD_cons_zero, List.getD_cons_succ, Bool.false_eq_true, if_false, if_true, and_true, true_and, forall_const, Nat.zero_add, Nat.reduceAdd, List.take_succ_cons, List.take_zero, fillFrom, Act.put, List.setIfInBounds_toArray, List.set_cons_zero, List.set_cons_succ]
    refine ⟨?_, ?_, ?_, ?_, ?_, ?_, ?_, ?_, ?_, ?_, ?_, ?_, ?_, ?_, ?_, ?_⟩
    · intro xs z wq hj R hR
      obtain ⟨c0, c1, c2, c3, c4, c5, c6, c7⟩ := cellsAt8 (hj.row HB1.out HNO.out.1 HNO.out.2)
      go_simp
      exact hR _ _ hj rfl
    · intro xs z wq hj R hR
      obtain ⟨c0, c1, c2, c3, c4, c5, c6, c7⟩ := cellsAt8 (hj.row HB1.out HNO.out.1 HNO.out.2)
      go_simp
      exact hR _ _ hj rfl
    · intro xs z wq hj hk R hR
      obtain ⟨c0, c1, c2, c3, c4, c5, c6, c7⟩ := cellsAt8 (hj.row HB1.out HNO.out.1 HNO.out.2)
      go_simp
      exact hR _ _ hj rfl
    · intro xs z wq hj R hR
      obtain ⟨c0, c1, c2, c3, c4, c5, c6, c7⟩ := cellsAt8 (hj.row HB1.out HNO.out.1 HNO.out.2)
      go_simp
      exact hR _ _ hj rfl
    · intro xs z wq hj hk R hR
      obtain ⟨c0, c1, c2, c3, c4, c5, c6, c7⟩ := cellsAt8 (hj.row HB1.out HNO.out.1 HNO.out.2)
      go_simp
      exact hR _ _ hj rfl
    · intro xs z wq hj R hR
      obtain ⟨c0, c1, c2, c3, c4, c5, c6, c7⟩ := cellsAt8 (hj.row HB1.out HNO.out.1 HNO.out.2)
      go_simp
      exact hR _ _ hj rfl
    · intro xs z wq hj hz hk R hR
      obtain ⟨hk0, hk1, hk2, hk3⟩ := hk
      rw [hz] at hj
      go_simp
      exact (userWrite_any path mode _ data (DJ.fin HP.out HNG.out hj).env (DJ.fin HP.out HNG.out hj).fs HG.out.ok (by omega) hp (hj.bytes HIN.out HTI.out) HD0.out.bytes.len (fun hh => may_eq _ hh) (typed_out (hj.typed HTI.out) ⟨_, _, _, rfl⟩)).mono (by rintro e' w4 ⟨rfl, h4⟩; rw [HM.out] at h4; exact ⟨_, rfl, hR _ _ (DJ.setF HP.out hj (by rw [HER.out]) h4)⟩)
    · intro xs z wq hj R hR
      obtain ⟨c0, c1, c2, c3, c4, c5, c6, c7⟩ := cellsAt8 (hj.row HB1.out HNO.out.1 HNO.out.2)
      go_simp
      exact hR _ _ hj rfl
    · intro xs z wq hj R hR
      obtain ⟨c0, c1, c2, c3, c4, c5, c6, c7⟩ := cellsAt8 (hj.row HB1.out HNO.out.1 HNO.out.2)
      go_simp
      exact hR _ _ hj rfl
    · intro xs z wq hj hk R hR
      obtain ⟨c0, c1, c2, c3, c4, c5, c6, c7⟩ := cellsAt8 (hj.row HB1.out HNO.out.1 HNO.out.2)
      go_simp
      exact hR _ _ hj rfl
    · intro xs z wq hj R hR
      obtain ⟨c0, c1, c2, c3, c4, c5, c6, c7⟩ := cellsAt8 (hj.row HB1.out HNO.out.1 HNO.out.2)
      go_simp
      exact hR _ _ hj rfl
    · intro xs z wq hj hk R hR
      obtain ⟨c0, c1, c2, c3, c4, c5, c6, c7⟩ := cellsAt8 (hj.row HB1.out HNO.out.1 HNO.out.2)
      go_simp
      exact hR _ _ hj rfl
    · intro xs z wq hj R hR
      obtain ⟨c0, c1, c2, c3, c4, c5, c6, c7⟩ := cellsAt8 (hj.row HB1.out HNO.out.1 HNO.out.2)
      go_simp
      exact hR _ _ hj rfl
    · intro xs z wq hj hk R hR
      obtain ⟨c0, c1, c2, c3, c4, c5, c6, c7⟩ := cellsAt8 (hj.row HB1.out HNO.out.1 HNO.out.2)
      go_simp
      exact hR _ _ hj rfl
    · intro xs z wq hj hz hk R hR
      obtain ⟨hk0, hk1, hk2, hk3⟩ := hk
      rw [hz] at hj
      go_simp
      exact (userWriteR_any path mode _ data (DJ.rin HP.out hj).fs HG2.out.ok (by omega) hp (OldB.at HD0.out (DJ.base HP.out HB0.out hj)) (OldB.out HD0.out HP.out.rin.high)).mono (by rintro e' w4 ⟨rfl, h4⟩; rw [HM2.out] at h4; exact ⟨_, rfl, hR _ _ (DJ.setR HP.out hj (by rw [HER2.out]) h4)⟩)
    · intro xs z wq hj hk R hR
      obtain ⟨hk0, hk1⟩ := hk
      rw [hk0, hk1] at hj
      obtain ⟨e1, e2, -⟩ := id hj
      go_simp
      exact hR _ _ (by rw [hk0, hk1]; exact hj) rfl
  intro xs w2 hj2 hk
  simp only [zAll, List.getD_cons_zero, List.getD_cons_succ, Bool.false_eq_true, if_false, if_true] at hj2
  simp only [heldI, Nat.zero_add, Nat.reduceAdd, and_true] at hk
  obtain ⟨q0, q1, q2, q3, q4, q5, q7, q8, q9, q10, q11, q12, q13, q15⟩ := hk
  simp (maxSteps := 1000000) only [List.drop_succ_cons, List.drop_zero, Nat.zero_add, Nat.reduceAdd, List.take_succ_cons, List.take_zero, fillFrom, Act.put, List.setIfInBounds_toArray, List.set_cons_zero, List.set_cons_succ, q0, q1, q2, q3, q4, q5, q7, q8, q9, q10, q11, q12, q13, q15]
  clear q0 q1 q2 q3 q4 q5 q7 q8 q9 q10 q11 q12 q13 q15
  generalize xs 6 = x6 at *
  generalize xs 14 = x14 at *
  obtain ⟨rfl, rfl, hboth⟩ := hj2
  have HBO : Hid _ := hboth
  have hb2 := hboth.fr.row HB1.out (fun h => h.elim HNO.out.1 HNO.out.2)
  obtain ⟨-, -, -, -, -, -, c6, -⟩ := cellsAt8 hb2
  have HBI : Hid (IsBytes w2 (.slice ia data.length ic) data) := Row.keepB HIN.out HTI.out hboth.fr.keep
  have HBD : Hid (IsBytes w2 (.slice da data.length dc) data) := OldB.at HD0.out (Ext.of_fr HB0.out hboth.fr (fun k hk => hk.elim (HP.out.high k) (HP.out.rin.high k)))
  have HOW : Hid (w2.ownsRow wb.heap.size 5 1 (.slice ia data.length ic) data.length (data.map fun x => .int .u8 x.toNat)) := by
    refine ⟨HOI.out.1, HOI.out.2.imp id ?_⟩
    rintro ⟨g, cap, cur, h1, h2, h3, h4⟩
    exact ⟨g, cap, cur, h1, h2, (hboth.fr.keep.2 _ ⟨_, _, _, h3, byt_u8⟩).trans h3, h4⟩
  have hdl := HD1.out.len
  have HIB : Hid (∀ k, (Value.slice ia data.length ic).ownBlock = some k → w.heap.size ≤ k ∧ k < w1.heap.size) := fun k hk => by
    have := World.ownsRow.lt HOI.out k hk
    omega
  clear hb2 hboth
  go_upto_region 37 with fail
  go_wp2_with fail
  go_at_call 35
  refine (bytesEq_any _ _ _ _ _ HBI.out HBD.out).mono ?_
  rw [beq_self_eq_true]
  rintro e w3 ⟨rfl, rfl⟩
  clear c6
  go_wp2_with fail
  go_loopw [17] (fun i wr => ∃ (k : Nat) (xs : List Value), k ≤ data.length ∧ i = .int .i64 k ∧ wr.ownsRow wb.heap.size 5 1 (.slice ia data.length ic) data.length xs ∧ U8s xs ∧ w3.grownBy wr (Value.slice ia data.length ic).ownBlock) (fun i _ => data.length - (intOf i).toNat)
  case atStart => exact ⟨0, _, Nat.zero_le _, rfl, HOW.out, U8s.map _, ⟨rfl, rfl, rfl, Nat.le_refl _, fun _ _ _ => rfl⟩⟩
  case round =>
    obtain ⟨k, ys, hk, rfl, hown, hu8, hgr⟩ := hrel
    have HOW3 : Hid _ := hown
    have HU : Hid _ := hu8
    have HGR : Hid _ := hgr
    have hyl : ys.length = data.length := by have := hown.1; omega
    clear hown hu8 hgr
    by_cases hlt : k < data.length
    · obtain ⟨g, cap', hge⟩ := owns_some HOW3.out (by omega)
      simp only [Value.slice.injEq, true_and] at hge
      obtain ⟨rfl, rfl⟩ := hge
      obtain ⟨u, hu⟩ : ∃ u, ys[k]? = some u := ⟨_, List.getElem?_eq_getElem (by omega)⟩
      obtain ⟨b, hb, rfl⟩ := HU.out k u hu
      have hcell : wr.cell? ⟨g, k, none⟩ = some (.int .u8 b) := by
        rw [World.ownsRow.cellAt HOW3.out k (by omega)]
        exact hu
      have hfz := World.ownsRow.frozenAt HOW3.out k
      clear hu
      go_wp2
      go_roundw
      case rel =>
        obtain ⟨ho3, hg3⟩ := World.ownsRow.stored HOW3.out k (.int .u8 (((b : Int) + 1) % 256))
        refine ⟨k + 1, ys.set k (.int .u8 (((b : Int) + 1) % 256)), by omega, by go_num, ho3, ?_, HGR.out.trans hg3⟩
        have he : ((b : Int) + 1) % 256 = (((b + 1) % 256 : Nat) : Int) := by omega
        rw [he]
        exact U8s.set HU.out k _ (by omega)
      case measure => simp [intOf]; omega
    · have hkk : k = data.length := by omega
      subst hkk
      go_wp2
      go_ret
      rw [HM.out, HM2.out]
      exact ⟨⟨_, rfl, HOKB.out⟩, Two2.done HT.out HX01.out HBO.out HIB.out HGR.out⟩

end Go.Proofs.YtoajnaopainpnaaGreatDoor

/-! marlaw5.Does: UserRemove. Conditions: as each theorem states. -/
namespace Go.Proofs.YtoajnaopainpnaaGreatDoor
open Go Go.RowKit
variable [Inhabited BaseW]

set_option maxRecDepth 100000 in
set_option maxHeartbeats 8000000 in
theorem does_k9 {w0 w : World} {S O O' : Nat → Prop} {fv xv : Value} {m m2 : Fs} {n : Nat} {cs : List Value} {mode keep torn : Int} {path dest data : B8} {plan : List Ev} (hT : Two2 w0 S O O' w fv xv m m2) (hE : Env w0) (hg : Good n m) (hg2 : Good n m2) (hn : n ≤ 1000) (ho : IsOpn w0 cs ⟨9, mode, keep, torn, path, dest, data, plan⟩) (hok : OpOk ⟨9, mode, keep, torn, path, dest, data, plan⟩) :
    Calls Tryz.prog 25 #[fv, xv, .agg cs.toArray] w (DoesPost2 w0 S O O' fv xv m m2 (userRemove m path).1 (userRemove m2 path).1 w) := by
  obtain ⟨vd, vp, rfl, hd, hpl⟩ := ho
  obtain ⟨da, dc, rfl, -⟩ := id hd.bytes
  obtain ⟨_, ⟨pa, pc, rfl, -⟩, -⟩ := id hpl
  simp only at hd hpl
  have hp := hok.path
  have hq := hok.dest
  have hkp := hok.keep
  have htn := hok.torn
  have hfw := hok.few
  simp only at hp hq hkp htn hfw
  have hx0 := hT.ext
  have hba := hT.base
  obtain ⟨gf, hgf⟩ : ∃ g, fv = .pointer (some ⟨g, 0, none⟩) := by
    obtain ⟨g, gm, gd, vp, vl, vu, L, c0, hpe, -⟩ := hT.fs
    exact ⟨g, hpe⟩
  subst hgf
  obtain ⟨gx, rfl⟩ := hT.ref.ptr
  obtain ⟨wb, hwb⟩ : ∃ wb, wb = w.alloc (.cells #[.int .i64 9, .int .i64 mode, .int .i64 keep, .int .i64 torn, S8 path, S8 dest, .slice da data.length dc, .slice pa plan.length pc] 48) := ⟨_, rfl⟩
  have hxb : Ext w wb := by rw [hwb]; exact (Ext.refl _).alloc _
  have hbb : wb.heap[w.heap.size]? = some (.cells #[.int .i64 9, .int .i64 mode, .int .i64 keep, .int .i64 torn, S8 path, S8 dest, .slice da data.length dc, .slice pa plan.length pc] 48 (0, 0)) := by rw [hwb]; exact alloc_at _ _
  obtain ⟨b0, b1, b2, b3, b4, b5, b6, b7⟩ := cellsAt8 hbb
  have hsb : w.heap.size < wb.heap.size := by rw [hwb]; simp
  have HT : Hid _ := hT
  have HE : Hid _ := hE
  have HG : Hid _ := hg
  have HG2 : Hid _ := hg2
  have HWB : Hid _ := hwb
  have HXB : Hid _ := hxb
  have HBB : Hid _ := hbb
  have HD0 : Hid (OldB (.slice da data.length dc) data) := hd
  have HBA : Hid _ := hba
  have HX0 : Hid _ := hx0
  have HPL : Hid (ReadO w0 IsEvI (.slice pa plan.length pc) plan) := hpl
  have HDB : Hid _ := OldB.at hd ((hba.trans hx0).trans hxb)
  have HOKK : Hid _ := hok
  clear hT hE hg hg2 hwb hxb hbb hd hx0 hba hpl hok
  go_enter Tryz.func25, Tryz.ntmps25
  go_upto_region 1 with fail
  rw [show w.alloc (.cells #[.int .i64 9, .int .i64 mode, .int .i64 keep, .int .i64 torn, S8 path, S8 dest, .slice da data.length dc, .slice pa plan.length pc] 48) = wb from HWB.out.symm]
  go_wp2_with fail
  go_at_call 52
  refine (copyB_own _ data _ HDB.out).mono ?_
  rintro e w1 ⟨⟨vin, rfl, hin⟩, hx1⟩
  obtain ⟨ia, ic, hie, -⟩ := Row.of_owns hin HD0.out.bytes.len
  subst hie
  have HIN : Hid (IsBytes w1 (.slice ia data.length ic) data) := Row.of_owns hin HD0.out.bytes.len
  have HTI : Hid (TypB w1 (.slice ia data.length ic)) := TypB.of_owns hin
  have HOI : Hid _ := hin
  have hx01 : Ext w w1 := Ext.trans HXB.out hx1
  have HP : Hid (Pair S O O' (fun k => k < w.heap.size) w1 (.pointer (some ⟨gf, 0, none⟩)) (.pointer (some ⟨gx, 0, none⟩)) m m2) := Two2.pair HT.out HE.out HG.out HG2.out hn hx01
  have HNG : Hid _ := (Two2.noG HT.out HE.out).2
  have HB1 : Hid _ := hx1.row HBB.out
  have HNO : Hid (¬ O w.heap.size ∧ ¬ O' w.heap.size) := ⟨fun h => by have := HT.out.lo _ h; omega, fun h => by have := HT.out.lo' _ h; omega⟩
  have HB0 : Hid (Ext baseW w1) := Ext.trans (Ext.trans HBA.out HX0.out) hx01
  have HD1 : Hid (IsBytes w1 (.slice da data.length dc) data) := OldB.at HD0.out HB0.out
  have HX01 : Hid _ := hx01
  have htm := HG.out.time
  have hcl := HG.out.calls
  have htm2 := HG2.out.time
  have hcl2 := HG2.out.calls
  obtain ⟨er, her⟩ : ∃ er, (userRemove m path).2 = er := ⟨_, rfl⟩
  have HER : Hid _ := her
  obtain ⟨er2, her2⟩ : ∃ er, (userRemove m2 path).2 = er := ⟨_, rfl⟩
  have HER2 : Hid _ := her2
  obtain ⟨okb, hokb⟩ : ∃ okb, (er == er2) = okb := ⟨_, rfl⟩
  have HOKB : Hid (m = m2 → okb = true) := fun h => by rw [← hokb, ← her, ← her2, h]; simp
  clear her her2
  obtain ⟨m', hm'⟩ : ∃ m', (userRemove m path).1 = m' := ⟨_, rfl⟩
  have HM : Hid _ := hm'
  obtain ⟨m2', hm2'⟩ : ∃ m', (userRemove m2 path).1 = m' := ⟨_, rfl⟩
  have HM2 : Hid _ := hm2'
  replace b0 := hx1.cell b0
  have hsz1 := hx1.size
  clear hin hx1 hx01 hm' hm2' b1 b2 b3 b4 b5 b6 b7
  go_upto_region 27 with fail
  apply wp_region_inv 9 (fun z w' => DJ S O O' (fun k => k < w.heap.size) w1 (.pointer (some ⟨gf, 0, none⟩)) (.pointer (some ⟨gx, 0, none⟩)) m' m2' (fun u => u = .int .i64 er) (fun u => u = .int .i64 er2) (z 3) (z 7) w') [false, false, false, true, false, false, false, true, false] [_, _, _, undef, _, _, _, undef, .bool okb] [none, none, none, none, none, none, none, none, none] [[], [], [1], [0, 2], [], [], [5], [4, 6], [3, 7]] (by kernel_rfl) (by kernel_rfl) rfl
  · exact DJ.start ⟨rfl, rfl, rfl, Nat.le_refl _, fun _ _ => rfl⟩
  · simp (maxSteps := 1000000) only [oblI, stepI, knowsI, getP, mixP, List.getD_cons_zero, List.getD_cons_succ, Bool.false_eq_true, if_false, if_true, and_true, true_and, forall_const, Nat.zero_add, Nat.reduceAdd, List.take_succ_cons, List.take_zero, fillFrom, Act.put, List.setIfInBounds_toArray, List.set_cons_zero, List.set_cons_succ]
    refine ⟨?_, ?_, ?_, ?_, ?_, ?_, ?_, ?_, ?_⟩
    · intro xs z wq hj R hR
      obtain ⟨c0, c1, c2, c3, c4, c5, c6, c7⟩ := cellsAt8 (hj.row HB1.out HNO.out.1 HNO.out.2)
      go_simp
      exact hR _ _ hj rfl
    · intro xs z wq hj R hR
      obtain ⟨c0, c1, c2, c3, c4, c5, c6, c7⟩ := cellsAt8 (hj.row HB1.out HNO.out.1 HNO.out.2)
      go_simp
      exact hR _ _ hj rfl
    · intro xs z wq hj hk R hR
      obtain ⟨c0, c1, c2, c3, c4, c5, c6, c7⟩ := cellsAt8 (hj.row HB1.out HNO.out.1 HNO.out.2)
      go_simp
      exact hR _ _ hj rfl
    · intro xs z wq hj hz hk R hR
      obtain ⟨hk0, hk1⟩ := hk
      rw [hz] at hj
      go_simp
      exact (userRemove_any path (DJ.fin HP.out HNG.out hj).env (DJ.fin HP.out HNG.out hj).fs HG.out.ok (by omega) hp).mono (by rintro e' w4 ⟨rfl, h4⟩; rw [HM.out] at h4; exact ⟨_, rfl, hR _ _ (DJ.setF HP.out hj (by rw [HER.out]) h4)⟩)
    · intro xs z wq hj R hR
      obtain ⟨c0, c1, c2, c3, c4, c5, c6, c7⟩ := cellsAt8 (hj.row HB1.out HNO.out.1 HNO.out.2)
      go_simp
      exact hR _ _ hj rfl
    · intro xs z wq hj R hR
      obtain ⟨c0, c1, c2, c3, c4, c5, c6, c7⟩ := cellsAt8 (hj.row HB1.out HNO.out.1 HNO.out.2)
      go_simp
      exact hR _ _ hj rfl
    · intro xs z wq hj hk R hR
      obtain ⟨c0, c1, c2, c3, c4, c5, c6, c7⟩ := cellsAt8 (hj.row HB1.out HNO.out.1 HNO.out.2)
      go_simp
      exact hR _ _ hj rfl
    · intro xs z wq hj hz hk R hR
      obtain ⟨hk0, hk1⟩ := hk
      rw [hz] at hj
      go_simp
      exact (userRemoveR_any path (DJ.rin HP.out hj).fs HG2.out.ok (by omega) hp).mono (by rintro e' w4 ⟨rfl, h4⟩; rw [HM2.out] at h4; exact ⟨_, rfl, hR _ _ (DJ.setR HP.out hj (by rw [HER2.out]) h4)⟩)
    · intro xs z wq hj hk R hR
      obtain ⟨hk0, hk1⟩ := hk
      rw [hk0, hk1] at hj
      obtain ⟨e1, e2, -⟩ := id hj
      go_simp
      exact hR _ _ (by rw [hk0, hk1]; exact hj) rfl
  intro xs w2 hj2 hk
  simp only [zAll, List.getD_cons_zero, List.getD_cons_succ, Bool.false_eq_true, if_false, if_true] at hj2
  simp only [heldI, Nat.zero_add, Nat.reduceAdd, and_true] at hk
  obtain ⟨q0, q1, q2, q4, q5, q6, q8⟩ := hk
  simp (maxSteps := 1000000) only [List.drop_succ_cons, List.drop_zero, Nat.zero_add, Nat.reduceAdd, List.take_succ_cons, List.take_zero, fillFrom, Act.put, List.setIfInBounds_toArray, List.set_cons_zero, List.set_cons_succ, q0, q1, q2, q4, q5, q6, q8]
  clear q0 q1 q2 q4 q5 q6 q8
  generalize xs 3 = x3 at *
  generalize xs 7 = x7 at *
  obtain ⟨rfl, rfl, hboth⟩ := hj2
  have HBO : Hid _ := hboth
  have hb2 := hboth.fr.row HB1.out (fun h => h.elim HNO.out.1 HNO.out.2)
  obtain ⟨-, -, -, -, -, -, c6, -⟩ := cellsAt8 hb2
  have HBI : Hid (IsBytes w2 (.slice ia data.length ic) data) := Row.keepB HIN.out HTI.out hboth.fr.keep
  have HBD : Hid (IsBytes w2 (.slice da data.length dc) data) := OldB.at HD0.out (Ext.of_fr HB0.out hboth.fr (fun k hk => hk.elim (HP.out.high k) (HP.out.rin.high k)))
  have HOW : Hid (w2.ownsRow wb.heap.size 5 1 (.slice ia data.length ic) data.length (data.map fun x => .int .u8 x.toNat)) := by
    refine ⟨HOI.out.1, HOI.out.2.imp id ?_⟩
    rintro ⟨g, cap, cur, h1, h2, h3, h4⟩
    exact ⟨g, cap, cur, h1, h2, (hboth.fr.keep.2 _ ⟨_, _, _, h3, byt_u8⟩).trans h3, h4⟩
  have hdl := HD1.out.len
  have HIB : Hid (∀ k, (Value.slice ia data.length ic).ownBlock = some k → w.heap.size ≤ k ∧ k < w1.heap.size) := fun k hk => by
    have := World.ownsRow.lt HOI.out k hk
    omega
  clear hb2 hboth
  go_upto_region 37 with fail
  go_wp2_with fail
  go_at_call 35
  refine (bytesEq_any _ _ _ _ _ HBI.out HBD.out).mono ?_
  rw [beq_self_eq_true]
  rintro e w3 ⟨rfl, rfl⟩
  clear c6
  go_wp2_with fail
  go_loopw [17] (fun i wr => ∃ (k : Nat) (xs : List Value), k ≤ data.length ∧ i = .int .i64 k ∧ wr.ownsRow wb.heap.size 5 1 (.slice ia data.length ic) data.length xs ∧ U8s xs ∧ w3.grownBy wr (Value.slice ia data.length ic).ownBlock) (fun i _ => data.length - (intOf i).toNat)
  case atStart => exact ⟨0, _, Nat.zero_le _, rfl, HOW.out, U8s.map _, ⟨rfl, rfl, rfl, Nat.le_refl _, fun _ _ _ => rfl⟩⟩
  case round =>
    obtain ⟨k, ys, hk, rfl, hown, hu8, hgr⟩ := hrel
    have HOW3 : Hid _ := hown
    have HU : Hid _ := hu8
    have HGR : Hid _ := hgr
    have hyl : ys.length = data.length := by have := hown.1; omega
    clear hown hu8 hgr
    by_cases hlt : k < data.length
    · obtain ⟨g, cap', hge⟩ := owns_some HOW3.out (by omega)
      simp only [Value.slice.injEq, true_and] at hge
      obtain ⟨rfl, rfl⟩ := hge
      obtain ⟨u, hu⟩ : ∃ u, ys[k]? = some u := ⟨_, List.getElem?_eq_getElem (by omega)⟩
      obtain ⟨b, hb, rfl⟩ := HU.out k u hu
      have hcell : wr.cell? ⟨g, k, none⟩ = some (.int .u8 b) := by
        rw [World.ownsRow.cellAt HOW3.out k (by omega)]
        exact hu
      have hfz := World.ownsRow.frozenAt HOW3.out k
      clear hu
      go_wp2
      go_roundw
      case rel =>
        obtain ⟨ho3, hg3⟩ := World.ownsRow.stored HOW3.out k (.int .u8 (((b : Int) + 1) % 256))
        refine ⟨k + 1, ys.set k (.int .u8 (((b : Int) + 1) % 256)), by omega, by go_num, ho3, ?_, HGR.out.trans hg3⟩
        have he : ((b : Int) + 1) % 256 = (((b + 1) % 256 : Nat) : Int) := by omega
        rw [he]
        exact U8s.set HU.out k _ (by omega)
      case measure => simp [intOf]; omega
    · have hkk : k = data.length := by omega
      subst hkk
      go_wp2
      go_ret
      rw [HM.out, HM2.out]
      exact ⟨⟨_, rfl, HOKB.out⟩, Two2.done HT.out HX01.out HBO.out HIB.out HGR.out⟩

end Go.Proofs.YtoajnaopainpnaaGreatDoor

/-! marlaw5.Does: Crash. Conditions: as each theorem states. -/
namespace Go.Proofs.YtoajnaopainpnaaGreatDoor
open Go Go.RowKit
variable [Inhabited BaseW]

set_option maxRecDepth 100000 in
set_option maxHeartbeats 8000000 in
theorem does_k10 {w0 w : World} {S O O' : Nat → Prop} {fv xv : Value} {m m2 : Fs} {n : Nat} {cs : List Value} {mode keep torn : Int} {path dest data : B8} {plan : List Ev} (hT : Two2 w0 S O O' w fv xv m m2) (hE : Env w0) (hg : Good n m) (hg2 : Good n m2) (hn : n ≤ 1000) (ho : IsOpn w0 cs ⟨10, mode, keep, torn, path, dest, data, plan⟩) (hok : OpOk ⟨10, mode, keep, torn, path, dest, data, plan⟩) :
    Calls Tryz.prog 25 #[fv, xv, .agg cs.toArray] w (DoesPost2 w0 S O O' fv xv m m2 (crash m keep torn) (crash m2 keep torn) w) := by
  obtain ⟨vd, vp, rfl, hd, hpl⟩ := ho
  obtain ⟨da, dc, rfl, -⟩ := id hd.bytes
  obtain ⟨_, ⟨pa, pc, rfl, -⟩, -⟩ := id hpl
  simp only at hd hpl
  have hp := hok.path
  have hq := hok.dest
  have hkp := hok.keep
  have htn := hok.torn
  have hfw := hok.few
  simp only at hp hq hkp htn hfw
  have hx0 := hT.ext
  have hba := hT.base
  obtain ⟨gf, hgf⟩ : ∃ g, fv = .pointer (some ⟨g, 0, none⟩) := by
    obtain ⟨g, gm, gd, vp, vl, vu, L, c0, hpe, -⟩ := hT.fs
    exact ⟨g, hpe⟩
  subst hgf
  obtain ⟨gx, rfl⟩ := hT.ref.ptr
  obtain ⟨wb, hwb⟩ : ∃ wb, wb = w.alloc (.cells #[.int .i64 10, .int .i64 mode, .int .i64 keep, .int .i64 torn, S8 path, S8 dest, .slice da data.length dc, .slice pa plan.length pc] 48) := ⟨_, rfl⟩
  have hxb : Ext w wb := by rw [hwb]; exact (Ext.refl _).alloc _
  have hbb : wb.heap[w.heap.size]? = some (.cells #[.int .i64 10, .int .i64 mode, .int .i64 keep, .int .i64 torn, S8 path, S8 dest, .slice da data.length dc, .slice pa plan.length pc] 48 (0, 0)) := by rw [hwb]; exact alloc_at _ _
  obtain ⟨b0, b1, b2, b3, b4, b5, b6, b7⟩ := cellsAt8 hbb
  have hsb : w.heap.size < wb.heap.size := by rw [hwb]; simp
  have HT : Hid _ := hT
  have HE : Hid _ := hE
  have HG : Hid _ := hg
  have HG2 : Hid _ := hg2
  have HWB : Hid _ := hwb
  have HXB : Hid _ := hxb
  have HBB : Hid _ := hbb
  have HD0 : Hid (OldB (.slice da data.length dc) data) := hd
  have HBA : Hid _ := hba
  have HX0 : Hid _ := hx0
  have HPL : Hid (ReadO w0 IsEvI (.slice pa plan.length pc) plan) := hpl
  have HDB : Hid _ := OldB.at hd ((hba.trans hx0).trans hxb)
  have HOKK : Hid _ := hok
  clear hT hE hg hg2 hwb hxb hbb hd hx0 hba hpl hok
  go_enter Tryz.func25, Tryz.ntmps25
  go_upto_region 1 with fail
  rw [show w.alloc (.cells #[.int .i64 10, .int .i64 mode, .int .i64 keep, .int .i64 torn, S8 path, S8 dest, .slice da data.length dc, .slice pa plan.length pc] 48) = wb from HWB.out.symm]
  go_wp2_with fail
  go_at_call 52
  refine (copyB_own _ data _ HDB.out).mono ?_
  rintro e w1 ⟨⟨vin, rfl, hin⟩, hx1⟩
  obtain ⟨ia, ic, hie, -⟩ := Row.of_owns hin HD0.out.bytes.len
  subst hie
  have HIN : Hid (IsBytes w1 (.slice ia data.length ic) data) := Row.of_owns hin HD0.out.bytes.len
  have HTI : Hid (TypB w1 (.slice ia data.length ic)) := TypB.of_owns hin
  have HOI : Hid _ := hin
  have hx01 : Ext w w1 := Ext.trans HXB.out hx1
  have HP : Hid (Pair S O O' (fun k => k < w.heap.size) w1 (.pointer (some ⟨gf, 0, none⟩)) (.pointer (some ⟨gx, 0, none⟩)) m m2) := Two2.pair HT.out HE.out HG.out HG2.out hn hx01
  have HNG : Hid _ := (Two2.noG HT.out HE.out).2
  have HB1 : Hid _ := hx1.row HBB.out
  have HNO : Hid (¬ O w.heap.size ∧ ¬ O' w.heap.size) := ⟨fun h => by have := HT.out.lo _ h; omega, fun h => by have := HT.out.lo' _ h; omega⟩
  have HB0 : Hid (Ext baseW w1) := Ext.trans (Ext.trans HBA.out HX0.out) hx01
  have HD1 : Hid (IsBytes w1 (.slice da data.length dc) data) := OldB.at HD0.out HB0.out
  have HX01 : Hid _ := hx01
  have htm := HG.out.time
  have hcl := HG.out.calls
  have htm2 := HG2.out.time
  have hcl2 := HG2.out.calls
  obtain ⟨m', hm'⟩ : ∃ m', (crash m keep torn) = m' := ⟨_, rfl⟩
  have HM : Hid _ := hm'
  obtain ⟨m2', hm2'⟩ : ∃ m', (crash m2 keep torn) = m' := ⟨_, rfl⟩
  have HM2 : Hid _ := hm2'
  replace b0 := hx1.cell b0
  have hsz1 := hx1.size
  clear hin hx1 hx01 hm' hm2' b1 b2 b3 b4 b5 b6 b7
  go_upto_region 29 with fail
  have HJ0 : Hid (DJ S O O' (fun k => k < w.heap.size) w1 (.pointer (some ⟨gf, 0, none⟩)) (.pointer (some ⟨gx, 0, none⟩)) m' m2' (fun _ => True) (fun _ => True) none none w1) := DJ.start (Ext.refl _)
  obtain ⟨c0, c1, c2, c3, c4, c5, c6, c7⟩ := cellsAt8 HB1.out
  go_wp2_with fail
  go_at_call 32
  refine (crash_any keep torn (DJ.fin HP.out HNG.out HJ0.out).fs HG.out.ok (by omega) hkp htn).mono ?_
  rintro e wf ⟨rfl, h4⟩
  rw [HM.out] at h4
  have HJF : Hid (DJ S O O' (fun k => k < w.heap.size) w1 (.pointer (some ⟨gf, 0, none⟩)) (.pointer (some ⟨gx, 0, none⟩)) m' m2' (fun _ => True) (fun _ => True) (some (.bool true)) none wf) := DJ.setF HP.out HJ0.out (by trivial) h4
  obtain ⟨c0, c1, c2, c3, c4, c5, c6, c7⟩ := cellsAt8 (DJ.row HJF.out HB1.out HNO.out.1 HNO.out.2)
  clear h4
  go_wp2_with fail
  go_at_call 69
  refine (crashR_any keep torn (DJ.rin HP.out HJF.out).fs HG2.out.ok (by omega) hkp htn).mono ?_
  rintro e w2 ⟨rfl, h4⟩
  rw [HM2.out] at h4
  have hjx : DJ S O O' (fun k => k < w.heap.size) w1 (.pointer (some ⟨gf, 0, none⟩)) (.pointer (some ⟨gx, 0, none⟩)) m' m2' (fun _ => True) (fun _ => True) (some (.bool true)) (some (.bool true)) w2 := DJ.setR HP.out HJF.out (by trivial) h4
  obtain ⟨-, -, hboth⟩ := hjx
  clear h4 c0 c1 c2 c3 c4 c5 c6 c7
  have HBO : Hid _ := hboth
  have hb2 := hboth.fr.row HB1.out (fun h => h.elim HNO.out.1 HNO.out.2)
  obtain ⟨-, -, -, -, -, -, c6, -⟩ := cellsAt8 hb2
  have HBI : Hid (IsBytes w2 (.slice ia data.length ic) data) := Row.keepB HIN.out HTI.out hboth.fr.keep
  have HBD : Hid (IsBytes w2 (.slice da data.length dc) data) := OldB.at HD0.out (Ext.of_fr HB0.out hboth.fr (fun k hk => hk.elim (HP.out.high k) (HP.out.rin.high k)))
  have HOW : Hid (w2.ownsRow wb.heap.size 5 1 (.slice ia data.length ic) data.length (data.map fun x => .int .u8 x.toNat)) := by
    refine ⟨HOI.out.1, HOI.out.2.imp id ?_⟩
    rintro ⟨g, cap, cur, h1, h2, h3, h4⟩
    exact ⟨g, cap, cur, h1, h2, (hboth.fr.keep.2 _ ⟨_, _, _, h3, byt_u8⟩).trans h3, h4⟩
  have hdl := HD1.out.len
  have HIB : Hid (∀ k, (Value.slice ia data.length ic).ownBlock = some k → w.heap.size ≤ k ∧ k < w1.heap.size) := fun k hk => by
    have := World.ownsRow.lt HOI.out k hk
    omega
  clear hb2 hboth
  go_upto_region 37 with fail
  go_wp2_with fail
  go_at_call 35
  refine (bytesEq_any _ _ _ _ _ HBI.out HBD.out).mono ?_
  rw [beq_self_eq_true]
  rintro e w3 ⟨rfl, rfl⟩
  clear c6
  go_wp2_with fail
  go_loopw [17] (fun i wr => ∃ (k : Nat) (xs : List Value), k ≤ data.length ∧ i = .int .i64 k ∧ wr.ownsRow wb.heap.size 5 1 (.slice ia data.length ic) data.length xs ∧ U8s xs ∧ w3.grownBy wr (Value.slice ia data.length ic).ownBlock) (fun i _ => data.length - (intOf i).toNat)
  case atStart => exact ⟨0, _, Nat.zero_le _, rfl, HOW.out, U8s.map _, ⟨rfl, rfl, rfl, Nat.le_refl _, fun _ _ _ => rfl⟩⟩
  case round =>
    obtain ⟨k, ys, hk, rfl, hown, hu8, hgr⟩ := hrel
    have HOW3 : Hid _ := hown
    have HU : Hid _ := hu8
    have HGR : Hid _ := hgr
    have hyl : ys.length = data.length := by have := hown.1; omega
    clear hown hu8 hgr
    by_cases hlt : k < data.length
    · obtain ⟨g, cap', hge⟩ := owns_some HOW3.out (by omega)
      simp only [Value.slice.injEq, true_and] at hge
      obtain ⟨rfl, rfl⟩ := hge
      obtain ⟨u, hu⟩ : ∃ u, ys[k]? = some u := ⟨_, List.getElem?_eq_getElem (by omega)⟩
      obtain ⟨b, hb, rfl⟩ := HU.out k u hu
      have hcell : wr.cell? ⟨g, k, none⟩ = some (.int .u8 b) := by
        rw [World.ownsRow.cellAt HOW3.out k (by omega)]
        exact hu
      have hfz := World.ownsRow.frozenAt HOW3.out k
      clear hu
      go_wp2
      go_roundw
      case rel =>
        obtain ⟨ho3, hg3⟩ := World.ownsRow.stored HOW3.out k (.int .u8 (((b : Int) + 1) % 256))
        refine ⟨k + 1, ys.set k (.int .u8 (((b : Int) + 1) % 256)), by omega, by go_num, ho3, ?_, HGR.out.trans hg3⟩
        have he : ((b : Int) + 1) % 256 = (((b + 1) % 256 : Nat) : Int) := by omega
        rw [he]
        exact U8s.set HU.out k _ (by omega)
      case measure => simp [intOf]; omega
    · have hkk : k = data.length := by omega
      subst hkk
      go_wp2
      go_ret
      rw [HM.out, HM2.out]
      exact ⟨⟨_, rfl, fun _ => rfl⟩, Two2.done HT.out HX01.out HBO.out HIB.out HGR.out⟩

end Go.Proofs.YtoajnaopainpnaaGreatDoor

/-! marlaw5.Does: Reboot. Conditions: as each theorem states. -/
namespace Go.Proofs.YtoajnaopainpnaaGreatDoor
open Go Go.RowKit
variable [Inhabited BaseW]

set_option maxRecDepth 100000 in
set_option maxHeartbeats 8000000 in
theorem does_k11 {w0 w : World} {S O O' : Nat → Prop} {fv xv : Value} {m m2 : Fs} {n : Nat} {cs : List Value} {mode keep torn : Int} {path dest data : B8} {plan : List Ev} (hT : Two2 w0 S O O' w fv xv m m2) (hE : Env w0) (hg : Good n m) (hg2 : Good n m2) (hn : n ≤ 1000) (ho : IsOpn w0 cs ⟨11, mode, keep, torn, path, dest, data, plan⟩) (hok : OpOk ⟨11, mode, keep, torn, path, dest, data, plan⟩) :
    Calls Tryz.prog 25 #[fv, xv, .agg cs.toArray] w (DoesPost2 w0 S O O' fv xv m m2 (rebootM m) (rebootM m2) w) := by
  obtain ⟨vd, vp, rfl, hd, hpl⟩ := ho
  obtain ⟨da, dc, rfl, -⟩ := id hd.bytes
  obtain ⟨_, ⟨pa, pc, rfl, -⟩, -⟩ := id hpl
  simp only at hd hpl
  have hp := hok.path
  have hq := hok.dest
  have hkp := hok.keep
  have htn := hok.torn
  have hfw := hok.few
  simp only at hp hq hkp htn hfw
  have hx0 := hT.ext
  have hba := hT.base
  obtain ⟨gf, hgf⟩ : ∃ g, fv = .pointer (some ⟨g, 0, none⟩) := by
    obtain ⟨g, gm, gd, vp, vl, vu, L, c0, hpe, -⟩ := hT.fs
    exact ⟨g, hpe⟩
  subst hgf
  obtain ⟨gx, rfl⟩ := hT.ref.ptr
  obtain ⟨wb, hwb⟩ : ∃ wb, wb = w.alloc (.cells #[.int .i64 11, .int .i64 mode, .int .i64 keep, .int .i64 torn, S8 path, S8 dest, .slice da data.length dc, .slice pa plan.length pc] 48) := ⟨_, rfl⟩
  have hxb : Ext w wb := by rw [hwb]; exact (Ext.refl _).alloc _
  have hbb : wb.heap[w.heap.size]? = some (.cells #[.int .i64 11, .int .i64 mode, .int .i64 keep, .int .i64 torn, S8 path, S8 dest, .slice da data.length dc, .slice pa plan.length pc] 48 (0, 0)) := by rw [hwb]; exact alloc_at _ _
  obtain ⟨b0, b1, b2, b3, b4, b5, b6, b7⟩ := cellsAt8 hbb
  have hsb : w.heap.size < wb.heap.size := by rw [hwb]; simp
  have HT : Hid _ := hT
  have HE : Hid _ := hE
  have HG : Hid _ := hg
  have HG2 : Hid _ := hg2
  have HWB : Hid _ := hwb
  have HXB : Hid _ := hxb
  have HBB : Hid _ := hbb
  have HD0 : Hid (OldB (.slice da data.length dc) data) := hd
  have HBA : Hid _ := hba
  have HX0 : Hid _ := hx0
  have HPL : Hid (ReadO w0 IsEvI (.slice pa plan.length pc) plan) := hpl
  have HDB : Hid _ := OldB.at hd ((hba.trans hx0).trans hxb)
  have HOKK : Hid _ := hok
  clear hT hE hg hg2 hwb hxb hbb hd hx0 hba hpl hok
  go_enter Tryz.func25, Tryz.ntmps25
  go_upto_region 1 with fail
  rw [show w.alloc (.cells #[.int .i64 11, .int .i64 mode, .int .i64 keep, .int .i64 torn, S8 path, S8 dest, .slice da data.length dc, .slice pa plan.length pc] 48) = wb from HWB.out.symm]
  go_wp2_with fail
  go_at_call 52
  refine (copyB_own _ data _ HDB.out).mono ?_
  rintro e w1 ⟨⟨vin, rfl, hin⟩, hx1⟩
  obtain ⟨ia, ic, hie, -⟩ := Row.of_owns hin HD0.out.bytes.len
  subst hie
  have HIN : Hid (IsBytes w1 (.slice ia data.length ic) data) := Row.of_owns hin HD0.out.bytes.len
  have HTI : Hid (TypB w1 (.slice ia data.length ic)) := TypB.of_owns hin
  have HOI : Hid _ := hin
  have hx01 : Ext w w1 := Ext.trans HXB.out hx1
  have HP : Hid (Pair S O O' (fun k => k < w.heap.size) w1 (.pointer (some ⟨gf, 0, none⟩)) (.pointer (some ⟨gx, 0, none⟩)) m m2) := Two2.pair HT.out HE.out HG.out HG2.out hn hx01
  have HNG : Hid _ := (Two2.noG HT.out HE.out).2
  have HB1 : Hid _ := hx1.row HBB.out
  have HNO : Hid (¬ O w.heap.size ∧ ¬ O' w.heap.size) := ⟨fun h => by have := HT.out.lo _ h; omega, fun h => by have := HT.out.lo' _ h; omega⟩
  have HB0 : Hid (Ext baseW w1) := Ext.trans (Ext.trans HBA.out HX0.out) hx01
  have HD1 : Hid (IsBytes w1 (.slice da data.length dc) data) := OldB.at HD0.out HB0.out
  have HX01 : Hid _ := hx01
  have htm := HG.out.time
  have hcl := HG.out.calls
  have htm2 := HG2.out.time
  have hcl2 := HG2.out.calls
  obtain ⟨m', hm'⟩ : ∃ m', (rebootM m) = m' := ⟨_, rfl⟩
  have HM : Hid _ := hm'
  obtain ⟨m2', hm2'⟩ : ∃ m', (rebootM m2) = m' := ⟨_, rfl⟩
  have HM2 : Hid _ := hm2'
  replace b0 := hx1.cell b0
  have hsz1 := hx1.size
  clear hin hx1 hx01 hm' hm2' b1 b2 b3 b4 b5 b6 b7
  go_upto_region 32 with fail
  have HJ0 : Hid (DJ S O O' (fun k => k < w.heap.size) w1 (.pointer (some ⟨gf, 0, none⟩)) (.pointer (some ⟨gx, 0, none⟩)) m' m2' (fun _ => True) (fun _ => True) none none w1) := DJ.start (Ext.refl _)
  obtain ⟨c0, c1, c2, c3, c4, c5, c6, c7⟩ := cellsAt8 HB1.out
  go_wp2_with fail
  go_at_call 28
  refine (reboot_any (DJ.fin HP.out HNG.out HJ0.out).fs).mono ?_
  rintro e wf ⟨rfl, h4⟩
  rw [HM.out] at h4
  have HJF : Hid (DJ S O O' (fun k => k < w.heap.size) w1 (.pointer (some ⟨gf, 0, none⟩)) (.pointer (some ⟨gx, 0, none⟩)) m' m2' (fun _ => True) (fun _ => True) (some (.bool true)) none wf) := DJ.setF HP.out HJ0.out (by trivial) h4
  obtain ⟨c0, c1, c2, c3, c4, c5, c6, c7⟩ := cellsAt8 (DJ.row HJF.out HB1.out HNO.out.1 HNO.out.2)
  clear h4
  go_wp2_with fail
  go_at_call 70
  refine (rebootR_any (DJ.rin HP.out HJF.out).fs).mono ?_
  rintro e w2 ⟨rfl, h4⟩
  rw [HM2.out] at h4
  have hjx : DJ S O O' (fun k => k < w.heap.size) w1 (.pointer (some ⟨gf, 0, none⟩)) (.pointer (some ⟨gx, 0, none⟩)) m' m2' (fun _ => True) (fun _ => True) (some (.bool true)) (some (.bool true)) w2 := DJ.setR HP.out HJF.out (by trivial) h4
  obtain ⟨-, -, hboth⟩ := hjx
  clear h4 c0 c1 c2 c3 c4 c5 c6 c7
  have HBO : Hid _ := hboth
  have hb2 := hboth.fr.row HB1.out (fun h => h.elim HNO.out.1 HNO.out.2)
  obtain ⟨-, -, -, -, -, -, c6, -⟩ := cellsAt8 hb2
  have HBI : Hid (IsBytes w2 (.slice ia data.length ic) data) := Row.keepB HIN.out HTI.out hboth.fr.keep
  have HBD : Hid (IsBytes w2 (.slice da data.length dc) data) := OldB.at HD0.out (Ext.of_fr HB0.out hboth.fr (fun k hk => hk.elim (HP.out.high k) (HP.out.rin.high k)))
  have HOW : Hid (w2.ownsRow wb.heap.size 5 1 (.slice ia data.length ic) data.length (data.map fun x => .int .u8 x.toNat)) := by
    refine ⟨HOI.out.1, HOI.out.2.imp id ?_⟩
    rintro ⟨g, cap, cur, h1, h2, h3, h4⟩
    exact ⟨g, cap, cur, h1, h2, (hboth.fr.keep.2 _ ⟨_, _, _, h3, byt_u8⟩).trans h3, h4⟩
  have hdl := HD1.out.len
  have HIB : Hid (∀ k, (Value.slice ia data.length ic).ownBlock = some k → w.heap.size ≤ k ∧ k < w1.heap.size) := fun k hk => by
    have := World.ownsRow.lt HOI.out k hk
    omega
  clear hb2 hboth
  go_upto_region 37 with fail
  go_wp2_with fail
  go_at_call 35
  refine (bytesEq_any _ _ _ _ _ HBI.out HBD.out).mono ?_
  rw [beq_self_eq_true]
  rintro e w3 ⟨rfl, rfl⟩
  clear c6
  go_wp2_with fail
  go_loopw [17] (fun i wr => ∃ (k : Nat) (xs : List Value), k ≤ data.length ∧ i = .int .i64 k ∧ wr.ownsRow wb.heap.size 5 1 (.slice ia data.length ic) data.length xs ∧ U8s xs ∧ w3.grownBy wr (Value.slice ia data.length ic).ownBlock) (fun i _ => data.length - (intOf i).toNat)
  case atStart => exact ⟨0, _, Nat.zero_le _, rfl, HOW.out, U8s.map _, ⟨rfl, rfl, rfl, Nat.le_refl _, fun _ _ _ => rfl⟩⟩
  case round =>
    obtain ⟨k, ys, hk, rfl, hown, hu8, hgr⟩ := hrel
    have HOW3 : Hid _ := hown
    have HU : Hid _ := hu8
    have HGR : Hid _ := hgr
    have hyl : ys.length = data.length := by have := hown.1; omega
    clear hown hu8 hgr
    by_cases hlt : k < data.length
    · obtain ⟨g, cap', hge⟩ := owns_some HOW3.out (by omega)
      simp only [Value.slice.injEq, true_and] at hge
      obtain ⟨rfl, rfl⟩ := hge
      obtain ⟨u, hu⟩ : ∃ u, ys[k]? = some u := ⟨_, List.getElem?_eq_getElem (by omega)⟩
      obtain ⟨b, hb, rfl⟩ := HU.out k u hu
      have hcell : wr.cell? ⟨g, k, none⟩ = some (.int .u8 b) := by
        rw [World.ownsRow.cellAt HOW3.out k (by omega)]
        exact hu
      have hfz := World.ownsRow.frozenAt HOW3.out k
      clear hu
      go_wp2
      go_roundw
      case rel =>
        obtain ⟨ho3, hg3⟩ := World.ownsRow.stored HOW3.out k (.int .u8 (((b : Int) + 1) % 256))
        refine ⟨k + 1, ys.set k (.int .u8 (((b : Int) + 1) % 256)), by omega, by go_num, ho3, ?_, HGR.out.trans hg3⟩
        have he : ((b : Int) + 1) % 256 = (((b + 1) % 256 : Nat) : Int) := by omega
        rw [he]
        exact U8s.set HU.out k _ (by omega)
      case measure => simp [intOf]; omega
    · have hkk : k = data.length := by omega
      subst hkk
      go_wp2
      go_ret
      rw [HM.out, HM2.out]
      exact ⟨⟨_, rfl, fun _ => rfl⟩, Two2.done HT.out HX01.out HBO.out HIB.out HGR.out⟩

end Go.Proofs.YtoajnaopainpnaaGreatDoor

/-! marlaw5: Plain, FewEvents: events for the document; are events few and small? Conditions: at most 1000 events for the one. -/
namespace Go.Proofs.YtoajnaopainpnaaGreatDoor
open Go Go.RowKit
variable [Inhabited BaseW]

theorem ReadO.dRead {w : World} {v : Value} {L : List Ev} (h : ReadO w IsEvD v L) (hx : Ext baseW w) : ReadB w v L := by
  obtain ⟨css, h1, _, h2⟩ := h
  exact ⟨css, h1, h2.imp (fun c x hc => hc.read hx)⟩
theorem ReadO.dExt {p : List Value → Ev → Prop} {w w' : World} {v : Value} {L : List Ev} (h : ReadO w p v L) (hx : Ext w w') : ReadO w' p v L := h.stay hx.size (fun hn k hk => hx.block k (h.lt hn k hk))
theorem ReadO.dUp {w : World} {v : Value} {L : List Ev} (h : ReadO w IsEvI v L) (hp : ∀ e ∈ L, e.path.length ≤ 400) : ReadO w IsEvD v L := by
  obtain ⟨css, h1, h2, h3, h4⟩ := h
  exact ⟨css, h1, h2, h3, fun i c x hc hx => (h4 i c x hc hx).up (hp x (List.mem_of_getElem? hx))⟩

set_option maxRecDepth 100000 in
set_option maxHeartbeats 1000000 in
theorem plainEvs_any {w : World} {v : Value} {L : List Ev} (hv : ReadO w IsEvD v L) (hn : L.length ≤ 9000000) :
    Calls Tryz.prog 72 #[v] w fun e w' => (∃ v', e = .returned v' ∧ (∃ css : List (List Value), w'.ownsRow w.heap.size 116 7 v' L.length css.flatten ∧ Each IsEvD css L)) ∧ Ext w w' := by
  obtain ⟨a, cap, rfl, h1, h2, h3, h4⟩ := readO_get 7 (fun c x hx => hx.length.1) (by omega) hv
  have H4 : Hid _ := h4
  clear h4 hv
  go_enter Tryz.func72, Tryz.ntmps72
  go_wp2
  go_loopw [3, 4] (fun v i wr => ∃ (k : Nat) (css : List (List Value)), k ≤ L.length ∧ i = .int .i64 k ∧ wr.ownsRow w.heap.size 116 7 v k css.flatten ∧ Each IsEvD css (L.take k) ∧ Ext w wr) (fun _ i _ => L.length - (intOf i).toNat)
  case atStart => exact ⟨0, [], Nat.zero_le _, rfl, World.ownsRow_nil _ _ _ _, Each.nil _, Ext.refl _⟩
  case round =>
    obtain ⟨k, css, hk, rfl, hown, heach, hx⟩ := hrel
    have HEA : Hid _ := heach
    clear heach
    by_cases hlt : k < L.length
    · obtain ⟨e, hke⟩ : ∃ e, L[k]? = some e := ⟨_, List.getElem?_eq_getElem hlt⟩
      obtain ⟨b, o, cs, rfl, hev, hc⟩ := H4.out k e hke
      have HEV : Hid _ := hev
      obtain ⟨vd, rfl, hd, -⟩ := id hev
      obtain ⟨d1, d2, rfl, -⟩ := id hd.bytes
      have HTK : Hid (L.take (k + 1) = L.take k ++ [e]) := by unfold Hid; rw [List.take_add_one, hke]; rfl
      have c0 := hx.cell (hc 0 _ rfl)
      have c1 := hx.cell (hc 1 _ rfl)
      have c2 := hx.cell (hc 2 _ rfl)
      have c3 := hx.cell (hc 3 _ rfl)
      have c4 := hx.cell (hc 4 _ rfl)
      have c5 := hx.cell (hc 5 _ rfl)
      have c6 := hx.cell (hc 6 _ rfl)
      simp only [Nat.add_zero] at c0
      have hsz := hx.size
      clear hev hd hc hke
      go_wp2_with (at_builtin; go_must (refine app_re rfl _ _ rfl w.heap.size _ k _ rfl ((hown.alloc _).alloc _) (wr.heap.size + 1) 1 [.int .i64 e.t, .int .i64 e.kind, .int .i64 e.mode, .int .i64 e.keep, .int .i64 e.torn, S8 e.path, .slice d1 e.data.length d2] rfl rfl (alloc_at1 _ _ _) (by simp [Value.oneCell']) (by omega) (by simp; omega) ?_; intro v' w3 hown3 hg3 _))
      go_roundw
      case rel =>
        refine ⟨k + 1, css ++ [[.int .i64 e.t, .int .i64 e.kind, .int .i64 e.mode, .int .i64 e.keep, .int .i64 e.torn, S8 e.path, .slice d1 e.data.length d2]], by omega, by go_num, ?_, by rw [HTK.out]; exact Each.snoc HEA.out HEV.out, owns_ext_app ((hx.alloc _).alloc _) ((hown.alloc _).alloc _) hg3⟩
        rw [List.flatten_append]
        simpa using hown3
      case measure => simp [intOf]; omega
    · have hkk : k = L.length := by omega
      subst hkk
      have he := HEA.out
      rw [List.take_length] at he
      have hres : ∃ css : List (List Value), wr.ownsRow w.heap.size 116 7 u3 L.length css.flatten ∧ Each IsEvD css L := ⟨css, hown, he⟩
      have HR : Hid _ := hres
      clear hres hown he
      go_wp2
      go_ret
      exact ⟨⟨_, rfl, HR.out⟩, hx⟩

/-! ### FewEvents -/
def evW (n : Nat) (e : Ev) : Nat := min (n + min e.data.length 40000 + min e.path.length 1000) 160000
def fewEv (es : List Ev) : Bool := decide (es.length ≤ 60) && (es.all (fun e => decide (e.path.length ≤ 400)) && decide (es.foldl evW 0 ≤ 40000))
theorem evW_snoc {l : List Ev} {k : Nat} {e : Ev} (h : l[k]? = some e) : (l.take (k + 1)).foldl evW 0 = evW ((l.take k).foldl evW 0) e := by
  have hk := (List.getElem?_eq_some_iff.1 h)
  obtain ⟨hlt, rfl⟩ := hk
  rw [List.take_succ_eq_append_getElem hlt, List.foldl_append]
  rfl
theorem few_snoc {l : List Ev} {k : Nat} {e : Ev} (h : l[k]? = some e) (h0 : (l.take k).all (fun e => decide (e.path.length ≤ 400)) = true) (h1 : e.path.length ≤ 400) : (l.take (k + 1)).all (fun e => decide (e.path.length ≤ 400)) = true := by
  obtain ⟨hlt, rfl⟩ := (List.getElem?_eq_some_iff.1 h)
  rw [List.take_succ_eq_append_getElem hlt]
  simp only [List.all_append, h0, List.all_cons, List.all_nil, Bool.and_true, Bool.true_and, decide_eq_true_eq]
  exact h1
theorem few_no {l : List Ev} {k : Nat} {e : Ev} (h : l[k]? = some e) (h1 : ¬ e.path.length ≤ 400) : fewEv l = false := by
  have : l.all (fun e => decide (e.path.length ≤ 400)) = false := by
    rw [List.all_eq_false]
    exact ⟨e, List.mem_of_getElem? h, by simpa using h1⟩
  unfold fewEv
  rw [this]
  simp

set_option maxRecDepth 100000 in
set_option maxHeartbeats 2000000 in
theorem fewEvents_any {w : World} {v : Value} {l : List Ev} (hv : ReadO w IsEvI v l) :
    Calls Tryz.prog 50 #[v] w fun e w' => e = .returned (.bool (fewEv l)) ∧ Ext w w' := by
  obtain ⟨a, cap, rfl, h1, h2, h3, h4⟩ := readO_get 7 (fun c x hx => hx.length.1) (by omega) hv
  have H4 : Hid _ := h4
  clear h4 hv
  go_enter Tryz.func50, Tryz.ntmps50
  go_wp2
  go_loopw [3, 4] (fun n i wr => ∃ k m : Nat, Ext w wr ∧ k ≤ l.length ∧ k ≤ 60 ∧ i = .int .i64 k ∧ n = .int .i64 m ∧ m ≤ 160000 ∧ (l.take k).foldl evW 0 = m ∧ (l.take k).all (fun e => decide (e.path.length ≤ 400)) = true) (fun _ i _ => l.length - (intOf i).toNat)
  case atStart => exact ⟨0, 0, Ext.refl _, Nat.zero_le _, by omega, rfl, rfl, by omega, rfl, rfl⟩
  case round =>
    obtain ⟨k, m, hx, hk, hk6, rfl, rfl, hm, hfd, hal⟩ := hrel
    have HX : Hid _ := hx
    have HF : Hid _ := hfd
    have HA : Hid _ := hal
    clear hfd hal
    by_cases hlt : k < l.length
    · by_cases h60 : k < 60
      · obtain ⟨E, he⟩ : ∃ e, l[k]? = some e := ⟨_, List.getElem?_eq_getElem hlt⟩
        obtain ⟨b, o, cs, rfl, hev, hc⟩ := H4.out k E he
        obtain ⟨vd, rfl, hd⟩ := hev
        obtain ⟨s1, s2, rfl, -⟩ := id hd.bytes
        have c5 := hx.cell (hc 5 _ rfl)
        have c6 := hx.cell (hc 6 _ rfl)
        have HE : Hid _ := he
        have hdl := hd.bytes.len
        obtain ⟨d', hd'⟩ : ∃ d', min E.data.length 40000 = d' := ⟨_, rfl⟩
        obtain ⟨p', hp'⟩ : ∃ p', min E.path.length 1000 = p' := ⟨_, rfl⟩
        obtain ⟨n', hn'⟩ : ∃ n', min (m + d' + p') 160000 = n' := ⟨_, rfl⟩
        have hmd : min (E.data.length : Int) 40000 = (d' : Int) := by omega
        have hmp : min (E.path.length : Int) 1000 = (p' : Int) := by omega
        have hmn : min ((m : Int) + d' + p') 160000 = (n' : Int) := by omega
        have hdl' : d' ≤ 40000 := by omega
        have hpl' : p' ≤ 1000 := by omega
        have hnl : n' ≤ 160000 := by omega
        have hw1 : IntKind.i64.wrap ((m : Int) + (d' : Int)) = (m : Int) + d' := IntWalk.i64_in _ (by omega)
        have hw2 : IntKind.i64.wrap ((m : Int) + (d' : Int) + (p' : Int)) = (m : Int) + d' + p' := IntWalk.i64_in _ (by omega)
        have HN : Hid (evW m E = n') := by unfold Hid evW; rw [hd', hp', hn']
        clear hd he hd' hp' hn' hc
        by_cases h4 : E.path.length ≤ 400
        · have h4i : ¬ (400 : Int) < (E.path.length : Int) := by omega
          have H40 : Hid _ := h4
          clear h4
          go_wp2_with fail
          apply wp_region_mix 18 [_, _, _, _, _, _, _, _, _, _, _, _, _, _, _, _, _, .int .i64 n'] [none, none, none, none, none, none, none, none, none, none, none, none, none, none, none, none, none, none] [[], [], [], [1, 2], [3], [4], [5], [6], [0, 7], [], [], [9, 10], [11], [12], [13], [14], [8, 15], [16]] (by kernel_rfl) (by kernel_rfl) (by simp [mixV])
          · trivial
          · simp (maxSteps := 1000000) only [List.take_succ_cons, List.take_zero, oblFrom, stepObl, fillFrom, Act.put, List.setIfInBounds_toArray, List.set_cons_zero, List.set_cons_succ, knows, getV, mixV, List.getD_cons_zero, List.getD_cons_succ, and_true, true_and, forall_const]
            refine ⟨?_, ?_, ?_, ?_, ?_, ?_, ?_, ?_, ?_, ?_, ?_, ?_, ?_, ?_, ?_, ?_, ?_, ?_⟩
            · intro xs wq hq R hR
              have f5 := hq.cell c5; have f6 := hq.cell c6
              go_simp
              exact hR _ _ (Ext.refl _) rfl
            · intro xs wq hq R hR
              have f5 := hq.cell c5; have f6 := hq.cell c6
              go_simp
              exact hR _ _ (Ext.refl _) rfl
            · intro xs wq hq R hR
              have f5 := hq.cell c5; have f6 := hq.cell c6
              go_simp
              exact hR _ _ (Ext.refl _) rfl
            · intro xs wq hq hk R hR
              obtain ⟨hk0, hk1⟩ := hk
              have f5 := hq.cell c5; have f6 := hq.cell c6
              go_simp
              exact hR _ _ (Ext.refl _) rfl
            · intro xs wq hq hk R hR
              have f5 := hq.cell c5; have f6 := hq.cell c6
              go_simp
              exact hR _ _ (Ext.refl _) rfl
            · intro xs wq hq hk R hR
              have f5 := hq.cell c5; have f6 := hq.cell c6
              go_simp
              exact hR _ _ (Ext.refl _) rfl
            · intro xs wq hq hk R hR
              have f5 := hq.cell c5; have f6 := hq.cell c6
              go_simp
              exact hR _ _ (Ext.refl _) rfl
            · intro xs wq hq hk R hR
              have f5 := hq.cell c5; have f6 := hq.cell c6
              go_simp
              exact hR _ _ (Ext.refl _) rfl
            · intro xs wq hq hk R hR
              obtain ⟨hk0, hk1⟩ := hk
              have f5 := hq.cell c5; have f6 := hq.cell c6
              go_simp
              exact hR _ _ (Ext.refl _) rfl
            · intro xs wq hq R hR
              have f5 := hq.cell c5; have f6 := hq.cell c6
              go_simp
              exact hR _ _ (Ext.refl _) rfl
            · intro xs wq hq R hR
              have f5 := hq.cell c5; have f6 := hq.cell c6
              go_simp
              exact hR _ _ (Ext.refl _) rfl
            · intro xs wq hq hk R hR
              obtain ⟨hk0, hk1⟩ := hk
              have f5 := hq.cell c5; have f6 := hq.cell c6
              go_simp
              exact hR _ _ (Ext.refl _) rfl
            · intro xs wq hq hk R hR
              have f5 := hq.cell c5; have f6 := hq.cell c6
              go_simp
              exact hR _ _ (Ext.refl _) rfl
            · intro xs wq hq hk R hR
              have f5 := hq.cell c5; have f6 := hq.cell c6
              go_simp
              exact hR _ _ (Ext.refl _) rfl
            · intro xs wq hq hk R hR
              have f5 := hq.cell c5; have f6 := hq.cell c6
              go_simp
              exact hR _ _ (Ext.refl _) rfl
            · intro xs wq hq hk R hR
              have f5 := hq.cell c5; have f6 := hq.cell c6
              go_simp
              exact hR _ _ (Ext.refl _) rfl
            · intro xs wq hq hk R hR
              obtain ⟨hk0, hk1⟩ := hk
              have f5 := hq.cell c5; have f6 := hq.cell c6
              go_simp
              exact hR _ _ (Ext.refl _) rfl
            · intro xs wq hq hk R hR
              have f5 := hq.cell c5; have f6 := hq.cell c6
              go_simp
              exact hR _ _ (Ext.refl _) rfl
          intro xs w2 hx2 hk
          simp only [heldV, Nat.zero_add, Nat.reduceAdd, and_true] at hk
          obtain ⟨q0, q1, q2, q3, q4, q5, q6, q7, q8, q9, q10, q11, q12, q13, q14, q15, q16, q17⟩ := hk
          simp (maxSteps := 1000000) only [List.take_succ_cons, List.take_zero, List.drop_succ_cons, List.drop_zero, fillFrom, Act.put, List.setIfInBounds_toArray, List.set_cons_zero, List.set_cons_succ, Nat.zero_add, Nat.reduceAdd, q0, q1, q2, q3, q4, q5, q6, q7, q8, q9, q10, q11, q12, q13, q14, q15, q16, q17]
          clear q0 q1 q2 q3 q4 q5 q6 q7 q8 q9 q10 q11 q12 q13 q14 q15 q16 q17
          have hxr := Ext.trans HX.out hx2
          replace c5 := hx2.cell c5
          replace c6 := hx2.cell c6
          go_wp2
          go_roundw
          case rel => exact ⟨k + 1, n', hxr, by omega, by omega, by go_num, rfl, hnl, by rw [evW_snoc HE.out, HF.out, HN.out], few_snoc HE.out HA.out H40.out⟩
          case measure => simp [intOf]; omega
        · have h4i : (400 : Int) < (E.path.length : Int) := by omega
          have H40 : Hid _ := few_no HE.out h4
          clear h4
          go_wp2_with fail
          apply wp_region_mix 18 [_, _, _, _, _, _, _, _, _, _, _, _, _, _, _, _, _, .int .i64 n'] [none, none, none, none, none, none, none, none, none, none, none, none, none, none, none, none, none, none] [[], [], [], [1, 2], [3], [4], [5], [6], [0, 7], [], [], [9, 10], [11], [12], [13], [14], [8, 15], [16]] (by kernel_rfl) (by kernel_rfl) (by simp [mixV])
          · trivial
          · simp (maxSteps := 1000000) only [List.take_succ_cons, List.take_zero, oblFrom, stepObl, fillFrom, Act.put, List.setIfInBounds_toArray, List.set_cons_zero, List.set_cons_succ, knows, getV, mixV, List.getD_cons_zero, List.getD_cons_succ, and_true, true_and, forall_const]
            refine ⟨?_, ?_, ?_, ?_, ?_, ?_, ?_, ?_, ?_, ?_, ?_, ?_, ?_, ?_, ?_, ?_, ?_, ?_⟩
            · intro xs wq hq R hR
              have f5 := hq.cell c5; have f6 := hq.cell c6
              go_simp
              exact hR _ _ (Ext.refl _) rfl
            · intro xs wq hq R hR
              have f5 := hq.cell c5; have f6 := hq.cell c6
              go_simp
              exact hR _ _ (Ext.refl _) rfl
            · intro xs wq hq R hR
              have f5 := hq.cell c5; have f6 := hq.cell c6
              go_simp
              exact hR _ _ (Ext.refl _) rfl
            · intro xs wq hq hk R hR
              obtain ⟨hk0, hk1⟩ := hk
              have f5 := hq.cell c5; have f6 := hq.cell c6
              go_simp
              exact hR _ _ (Ext.refl _) rfl
            · intro xs wq hq hk R hR
              have f5 := hq.cell c5; have f6 := hq.cell c6
              go_simp
              exact hR _ _ (Ext.refl _) rfl
            · intro xs wq hq hk R hR
              have f5 := hq.cell c5; have f6 := hq.cell c6
              go_simp
              exact hR _ _ (Ext.refl _) rfl
            · intro xs wq hq hk R hR
              have f5 := hq.cell c5; have f6 := hq.cell c6
              go_simp
              exact hR _ _ (Ext.refl _) rfl
            · intro xs wq hq hk R hR
              have f5 := hq.cell c5; have f6 := hq.cell c6
              go_simp
              exact hR _ _ (Ext.refl _) rfl
            · intro xs wq hq hk R hR
              obtain ⟨hk0, hk1⟩ := hk
              have f5 := hq.cell c5; have f6 := hq.cell c6
              go_simp
              exact hR _ _ (Ext.refl _) rfl
            · intro xs wq hq R hR
              have f5 := hq.cell c5; have f6 := hq.cell c6
              go_simp
              exact hR _ _ (Ext.refl _) rfl
            · intro xs wq hq R hR
              have f5 := hq.cell c5; have f6 := hq.cell c6
              go_simp
              exact hR _ _ (Ext.refl _) rfl
            · intro xs wq hq hk R hR
              obtain ⟨hk0, hk1⟩ := hk
              have f5 := hq.cell c5; have f6 := hq.cell c6
              go_simp
              exact hR _ _ (Ext.refl _) rfl
            · intro xs wq hq hk R hR
              have f5 := hq.cell c5; have f6 := hq.cell c6
              go_simp
              exact hR _ _ (Ext.refl _) rfl
            · intro xs wq hq hk R hR
              have f5 := hq.cell c5; have f6 := hq.cell c6
              go_simp
              exact hR _ _ (Ext.refl _) rfl
            · intro xs wq hq hk R hR
              have f5 := hq.cell c5; have f6 := hq.cell c6
              go_simp
              exact hR _ _ (Ext.refl _) rfl
            · intro xs wq hq hk R hR
              have f5 := hq.cell c5; have f6 := hq.cell c6
              go_simp
              exact hR _ _ (Ext.refl _) rfl
            · intro xs wq hq hk R hR
              obtain ⟨hk0, hk1⟩ := hk
              have f5 := hq.cell c5; have f6 := hq.cell c6
              go_simp
              exact hR _ _ (Ext.refl _) rfl
            · intro xs wq hq hk R hR
              have f5 := hq.cell c5; have f6 := hq.cell c6
              go_simp
              exact hR _ _ (Ext.refl _) rfl
          intro xs w2 hx2 hk
          simp only [heldV, Nat.zero_add, Nat.reduceAdd, and_true] at hk
          obtain ⟨q0, q1, q2, q3, q4, q5, q6, q7, q8, q9, q10, q11, q12, q13, q14, q15, q16, q17⟩ := hk
          simp (maxSteps := 1000000) only [List.take_succ_cons, List.take_zero, List.drop_succ_cons, List.drop_zero, fillFrom, Act.put, List.setIfInBounds_toArray, List.set_cons_zero, List.set_cons_succ, Nat.zero_add, Nat.reduceAdd, q0, q1, q2, q3, q4, q5, q6, q7, q8, q9, q10, q11, q12, q13, q14, q15, q16, q17]
          clear q0 q1 q2 q3 q4 q5 q6 q7 q8 q9 q10 q11 q12 q13 q14 q15 q16 q17
          have hxr := Ext.trans HX.out hx2
          replace c5 := hx2.cell c5
          replace c6 := hx2.cell c6
          go_wp2
          go_ret
          exact ⟨by rw [H40.out]; rfl, hxr⟩
      · have hkk : k = 60 := by omega
        subst hkk
        have hl60 : ¬ (l.length : Int) ≤ 60 := by omega
        have HB : Hid (fewEv l = false) := by
          unfold Hid fewEv
          rw [decide_eq_false (by omega)]
          rfl
        go_wp2
        go_ret
        exact ⟨by rw [HB.out]; rfl, HX.out⟩
    · have hkk : k = l.length := by omega
      subst hkk
      have hfd := HF.out
      have hal := HA.out
      rw [List.take_length] at hfd hal
      have hl60 : (l.length : Int) ≤ 60 := by omega
      have HB : Hid (fewEv l = decide ((m : Int) ≤ 40000)) := by
        unfold Hid fewEv
        rw [decide_eq_true hk6, hal, hfd]
        simp only [Bool.true_and, decide_eq_decide]
        omega
      clear hfd hal
      go_wp2
      go_ret
      exact ⟨by rw [HB.out]; rfl, HX.out⟩

end Go.Proofs.YtoajnaopainpnaaGreatDoor
