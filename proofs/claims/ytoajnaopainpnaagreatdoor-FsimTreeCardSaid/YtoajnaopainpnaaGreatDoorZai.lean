/- marlaw5.calm: the operations that are calls alone. Conditions: at most 1000 operations. -/
import Derived.Test.YtoajnaopainpnaaGreatDoorZag
import Derived.Test.YtoajnaopainpnaaGreatDoorZah
import Derived.Test.YtoajnaopainpnaaGreatDoorZae
import Derived.Deep.DeepCutAuto
import Derived.Lib.SlBytesConst
import Derived.Test.YtoajnaopainpnaaGreatDoorZaa
import Derived.Deep.QuietTactic
import Derived.Lib.QuietBelow
import Derived.Test.YtoajnaopainpnaaGreatDoorZad
import Derived.Test.YtoajnaopainpnaaGreatDoorCards
import Derived.Test.YtoajnaopainpnaaGreatDoorTie
import Derived.OpenShut
import Derived.LaidMore
import Derived.Lay
import Derived.Deep.DeepHandedRow
import Derived.Lib.LaidTab
import Derived.Stop.LaidErr
import Derived.ProofKit
import Derived.SizedLaws
import Derived.Deep.Slices
import Derived.Deep.Fields
import Derived.ChangeSame

set_option linter.unusedVariables false
set_option linter.unusedSimpArgs false
set_option linter.unusedSectionVars false

/-! marlaw5.Does: Plan. Conditions: as each theorem states. -/
namespace Go.Proofs.YtoajnaopainpnaaGreatDoor
open Go Go.RowKit
variable [Inhabited BaseW]

set_option maxRecDepth 100000 in
set_option maxHeartbeats 8000000 in
theorem does_k12 {w0 w : World} {S O O' : Nat → Prop} {fv xv : Value} {m m2 : Fs} {n : Nat} {cs : List Value} {mode keep torn : Int} {path dest data : B8} {plan : List Ev} (hT : Two2 w0 S O O' w fv xv m m2) (hE : Env w0) (hg : Good n m) (hg2 : Good n m2) (hn : n ≤ 1000) (ho : IsOpn w0 cs ⟨12, mode, keep, torn, path, dest, data, plan⟩) (hok : OpOk ⟨12, mode, keep, torn, path, dest, data, plan⟩) :
    Calls Tryz.prog 25 #[fv, xv, .agg cs.toArray] w (DoesPost2 w0 S O O' fv xv m m2 (planM m plan) (planM m2 plan) w) := by
  obtain ⟨vd, vp, rfl, hd, hpl⟩ := ho
  obtain ⟨da, dc, rfl, -⟩ := id hd.bytes
  obtain ⟨_, ⟨pa, pc, rfl, -⟩, -⟩ := id hpl
  simp only at hd hpl
  have hp := hok.path
  have hq := hok.dest
  have hkp := hok.keep
  have htn := hok.torn
  have hfw := hok.few
  simp only at hp hq hkp htn hfw
  have hx0 := hT.ext
  have hba := hT.base
  obtain ⟨gf, hgf⟩ : ∃ g, fv = .pointer (some ⟨g, 0, none⟩) := by
    obtain ⟨g, gm, gd, vp, vl, vu, L, c0, hpe, -⟩ := hT.fs
    exact ⟨g, hpe⟩
  subst hgf
  obtain ⟨gx, rfl⟩ := hT.ref.ptr
  obtain ⟨wb, hwb⟩ : ∃ wb, wb = w.alloc (.cells #[.int .i64 12, .int .i64 mode, .int .i64 keep, .int .i64 torn, S8 path, S8 dest, .slice da data.length dc, .slice pa plan.length pc] 48) := ⟨_, rfl⟩
  have hxb : Ext w wb := by rw [hwb]; exact (Ext.refl _).alloc _
  have hbb : wb.heap[w.heap.size]? = some (.cells #[.int .i64 12, .int .i64 mode, .int .i64 keep, .int .i64 torn, S8 path, S8 dest, .slice da data.length dc, .slice pa plan.length pc] 48 (0, 0)) := by rw [hwb]; exact alloc_at _ _
  obtain ⟨b0, b1, b2, b3, b4, b5, b6, b7⟩ := cellsAt8 hbb
  have hsb : w.heap.size < wb.heap.size := by rw [hwb]; simp
  have HT : Hid _ := hT
  have HE : Hid _ := hE
  have HG : Hid _ := hg
  have HG2 : Hid _ := hg2
  have HWB : Hid _ := hwb
  have HXB : Hid _ := hxb
  have HBB : Hid _ := hbb
  have HD0 : Hid (OldB (.slice da data.length dc) data) := hd
  have HBA : Hid _ := hba
  have HX0 : Hid _ := hx0
  have HPL : Hid (ReadO w0 IsEvI (.slice pa plan.length pc) plan) := hpl
  have HDB : Hid _ := OldB.at hd ((hba.trans hx0).trans hxb)
  have HOKK : Hid _ := hok
  clear hT hE hg hg2 hwb hxb hbb hd hx0 hba hpl hok
  go_enter Tryz.func25, Tryz.ntmps25
  go_upto_region 1 with fail
  rw [show w.alloc (.cells #[.int .i64 12, .int .i64 mode, .int .i64 keep, .int .i64 torn, S8 path, S8 dest, .slice da data.length dc, .slice pa plan.length pc] 48) = wb from HWB.out.symm]
  go_wp2_with fail
  go_at_call 52
  refine (copyB_own _ data _ HDB.out).mono ?_
  rintro e w1 ⟨⟨vin, rfl, hin⟩, hx1⟩
  obtain ⟨ia, ic, hie, -⟩ := Row.of_owns hin HD0.out.bytes.len
  subst hie
  have HIN : Hid (IsBytes w1 (.slice ia data.length ic) data) := Row.of_owns hin HD0.out.bytes.len
  have HTI : Hid (TypB w1 (.slice ia data.length ic)) := TypB.of_owns hin
  have HOI : Hid _ := hin
  have hx01 : Ext w w1 := Ext.trans HXB.out hx1
  have HP : Hid (Pair S O O' (fun k => k < w.heap.size) w1 (.pointer (some ⟨gf, 0, none⟩)) (.pointer (some ⟨gx, 0, none⟩)) m m2) := Two2.pair HT.out HE.out HG.out HG2.out hn hx01
  have HNG : Hid _ := (Two2.noG HT.out HE.out).2
  have HB1 : Hid _ := hx1.row HBB.out
  have HNO : Hid (¬ O w.heap.size ∧ ¬ O' w.heap.size) := ⟨fun h => by have := HT.out.lo _ h; omega, fun h => by have := HT.out.lo' _ h; omega⟩
  have HB0 : Hid (Ext baseW w1) := Ext.trans (Ext.trans HBA.out HX0.out) hx01
  have HD1 : Hid (IsBytes w1 (.slice da data.length dc) data) := OldB.at HD0.out HB0.out
  have HX01 : Hid _ := hx01
  have htm := HG.out.time
  have hcl := HG.out.calls
  have htm2 := HG2.out.time
  have hcl2 := HG2.out.calls
  obtain ⟨m', hm'⟩ : ∃ m', (planM m plan) = m' := ⟨_, rfl⟩
  have HM : Hid _ := hm'
  obtain ⟨m2', hm2'⟩ : ∃ m', (planM m2 plan) = m' := ⟨_, rfl⟩
  have HM2 : Hid _ := hm2'
  replace b0 := hx1.cell b0
  have hsz1 := hx1.size
  clear hin hx1 hx01 hm' hm2' b1 b2 b3 b4 b5 b6 b7
  have HPB : Hid (ReadO w1 IsEvD (.slice pa plan.length pc) plan) := ReadO.dExt (ReadO.dUp HPL.out (fun e he => (HOKK.out.ev e he).2.2)) (Ext.trans HX0.out HX01.out)
  have HRB : Hid (ReadB w1 (.slice pa plan.length pc) plan) := ReadO.dRead HPB.out HB0.out
  have HPB0 : Hid (plan ≠ [] → ∀ k, (Value.slice pa plan.length pc).ownBlock = some k → k < w0.heap.size) := fun hn k hk => HPL.out.lt hn k hk
  have hw0 : w0.heap.size ≤ w.heap.size := Below.size HX0.out
  have hw1 : w.heap.size ≤ w1.heap.size := Below.size HX01.out
  have HLOW : Hid (∀ k, O k → w0.heap.size ≤ k ∧ k < w.heap.size) := HT.out.lo
  have HLOW' : Hid (∀ k, O' k → w0.heap.size ≤ k ∧ k < w.heap.size) := HT.out.lo'
  have HDIS : Hid (∀ k, O k → ¬ O' k) := HT.out.dis
  go_upto_region 35 with fail
  obtain ⟨c0, c1, c2, c3, c4, c5, c6, c7⟩ := cellsAt8 HB1.out
  go_wp2_with fail
  go_at_call 27
  refine (plan_any HP.out.fin.fs HP.out.fin.low HRB.out (by omega)).mono ?_
  rintro e wf ⟨rfl, hf4, hfr4⟩
  have HF4 : Hid (IsFs (Nu w1 wf) O (Nw (fun k => k < w.heap.size) w1 wf) wf (.pointer (some ⟨gf, 0, none⟩)) (planM m plan)) := hf4
  have HFR4 : Hid (Fr O w1 wf) := hfr4
  have hs4 := hfr4.size
  obtain ⟨c0, c1, c2, c3, c4, c5, c6, c7⟩ := cellsAt8 (hfr4.row HB1.out HNO.out.1)
  have HEV : Hid (ReadO wf IsEvD (.slice pa plan.length pc) plan) := ReadO.stay HPB.out hfr4.size (fun hn k hk => hfr4.block k (by have := HPB0.out hn k hk; omega) (.inl (fun ho => by have := HLOW.out k ho; have := HPB0.out hn k hk; omega)))
  have HR4 : Hid (RefIn O' (fun k => k < w.heap.size) wf (.pointer (some ⟨gx, 0, none⟩)) m2) := RefIn.other HP.out.rin hfr4 (fun k h1 h2 => HDIS.out k h2 h1) HP.out.high
  clear hf4 hfr4
  go_wp2_with fail
  go_at_call 72
  refine (plainEvs_any HEV.out (by omega)).mono ?_
  rintro e wg ⟨⟨vq, rfl, css, hown, heach⟩, hxg⟩
  obtain ⟨qa, qc, rfl, -⟩ := Row.of_owns hown (by omega)
  have HROW : Hid (Row wg (.slice qa plan.length qc) plan.length css.flatten) := Row.of_owns hown (by omega)
  have HEA : Hid _ := heach
  have HLT : Hid (∀ k, (Value.slice qa plan.length qc).ownBlock = some k → k < wg.heap.size ∧ ¬ O' k) := fun k hk => by
    have h9 := World.ownsRow.lt hown k hk
    exact ⟨h9.2, fun ho => by have := HLOW'.out k ho; omega⟩
  have HXG : Hid _ := hxg
  have hsg := hxg.size
  clear hown heach hxg c0 c1 c2 c3 c4 c5 c6 c7
  go_wp2_with fail
  go_at_call 71
  refine (planR_any (IsRef.ext HR4.out.fs HXG.out) HROW.out HEA.out HLT.out (by omega)).mono ?_
  rintro e w2 ⟨rfl, h5⟩
  have hs5 := h5.fr.size
  have hboth : Both S O O' (fun k => k < w.heap.size) w1 (.pointer (some ⟨gf, 0, none⟩)) (.pointer (some ⟨gx, 0, none⟩)) m' m2' w2 := by
    rw [← HM.out, ← HM2.out]
    refine ⟨⟨Nu w1 wf, O, Nw O' wg w2, ?_, ?_, fun k hk => ⟨.inr hk.1, by have := hk.2; omega, fun ho => by have := HLOW.out k ho; have := hk.1; omega, fun ho => ?_⟩, fun k hk => ⟨.inl hk, by have := HLOW.out k hk; omega⟩, fun k hk => ⟨hk.imp id (fun h => by omega), ?_⟩, fun k hk ho => ?_⟩, ?_⟩
    · exact ((HF4.out.ext HXG.out).other h5.fr HDIS.out (fun k hk ho => by have := HLOW'.out k ho; have := hk.1; omega)).mono (fun _ h => h) (fun k hk => hk.fst (by omega))
    · exact h5.fs.mono (fun _ h => h) (fun k hk => hk.imp id (fun h => ⟨by omega, h.2⟩))
    · rcases ho with ho | ho
      · have := HLOW'.out k ho; have := hk.1; omega
      · have := hk.2; omega
    · rcases hk with hk | hk
      · have := HLOW'.out k hk; omega
      · exact hk.2
    · rcases ho with ho | ho
      · exact HDIS.out k hk ho
      · have := HLOW.out k hk; omega
    · exact ((HFR4.out.ext HXG.out).mono (fun k hk => .inl hk)).trans (h5.fr.mono (fun k hk => .inl (.inr hk)))
  clear h5
  have HBO : Hid _ := hboth
  have hb2 := hboth.fr.row HB1.out (fun h => h.elim HNO.out.1 HNO.out.2)
  obtain ⟨-, -, -, -, -, -, c6, -⟩ := cellsAt8 hb2
  have HBI : Hid (IsBytes w2 (.slice ia data.length ic) data) := Row.keepB HIN.out HTI.out hboth.fr.keep
  have HBD : Hid (IsBytes w2 (.slice da data.length dc) data) := OldB.at HD0.out (Ext.of_fr HB0.out hboth.fr (fun k hk => hk.elim (HP.out.high k) (HP.out.rin.high k)))
  have HOW : Hid (w2.ownsRow wb.heap.size 5 1 (.slice ia data.length ic) data.length (data.map fun x => .int .u8 x.toNat)) := by
    refine ⟨HOI.out.1, HOI.out.2.imp id ?_⟩
    rintro ⟨g, cap, cur, h1, h2, h3, h4⟩
    exact ⟨g, cap, cur, h1, h2, (hboth.fr.keep.2 _ ⟨_, _, _, h3, byt_u8⟩).trans h3, h4⟩
  have hdl := HD1.out.len
  have HIB : Hid (∀ k, (Value.slice ia data.length ic).ownBlock = some k → w.heap.size ≤ k ∧ k < w1.heap.size) := fun k hk => by
    have := World.ownsRow.lt HOI.out k hk
    omega
  clear hb2 hboth
  go_upto_region 37 with fail
  go_wp2_with fail
  go_at_call 35
  refine (bytesEq_any _ _ _ _ _ HBI.out HBD.out).mono ?_
  rw [beq_self_eq_true]
  rintro e w3 ⟨rfl, rfl⟩
  clear c6
  go_wp2_with fail
  go_loopw [17] (fun i wr => ∃ (k : Nat) (xs : List Value), k ≤ data.length ∧ i = .int .i64 k ∧ wr.ownsRow wb.heap.size 5 1 (.slice ia data.length ic) data.length xs ∧ U8s xs ∧ w3.grownBy wr (Value.slice ia data.length ic).ownBlock) (fun i _ => data.length - (intOf i).toNat)
  case atStart => exact ⟨0, _, Nat.zero_le _, rfl, HOW.out, U8s.map _, ⟨rfl, rfl, rfl, Nat.le_refl _, fun _ _ _ => rfl⟩⟩
  case round =>
    obtain ⟨k, ys, hk, rfl, hown, hu8, hgr⟩ := hrel
    have HOW3 : Hid _ := hown
    have HU : Hid _ := hu8
    have HGR : Hid _ := hgr
    have hyl : ys.length = data.length := by have := hown.1; omega
    clear hown hu8 hgr
    by_cases hlt : k < data.length
    · obtain ⟨g, cap', hge⟩ := owns_some HOW3.out (by omega)
      simp only [Value.slice.injEq, true_and] at hge
      obtain ⟨rfl, rfl⟩ := hge
      obtain ⟨u, hu⟩ : ∃ u, ys[k]? = some u := ⟨_, List.getElem?_eq_getElem (by omega)⟩
      obtain ⟨b, hb, rfl⟩ := HU.out k u hu
      have hcell : wr.cell? ⟨g, k, none⟩ = some (.int .u8 b) := by
        rw [World.ownsRow.cellAt HOW3.out k (by omega)]
        exact hu
      have hfz := World.ownsRow.frozenAt HOW3.out k
      clear hu
      go_wp2
      go_roundw
      case rel =>
        obtain ⟨ho3, hg3⟩ := World.ownsRow.stored HOW3.out k (.int .u8 (((b : Int) + 1) % 256))
        refine ⟨k + 1, ys.set k (.int .u8 (((b : Int) + 1) % 256)), by omega, by go_num, ho3, ?_, HGR.out.trans hg3⟩
        have he : ((b : Int) + 1) % 256 = (((b + 1) % 256 : Nat) : Int) := by omega
        rw [he]
        exact U8s.set HU.out k _ (by omega)
      case measure => simp [intOf]; omega
    · have hkk : k = data.length := by omega
      subst hkk
      go_wp2
      go_ret
      rw [HM.out, HM2.out]
      exact ⟨⟨_, rfl, fun _ => rfl⟩, Two2.done HT.out HX01.out HBO.out HIB.out HGR.out⟩

end Go.Proofs.YtoajnaopainpnaaGreatDoor

/-! marlaw5.Does: another kind. Conditions: as each theorem states. -/
namespace Go.Proofs.YtoajnaopainpnaaGreatDoor
open Go Go.RowKit
variable [Inhabited BaseW]

set_option maxRecDepth 100000 in
set_option maxHeartbeats 8000000 in
theorem does_k13 {w0 w : World} {S O O' : Nat → Prop} {fv xv : Value} {m m2 : Fs} {n : Nat} {cs : List Value} {kind mode keep torn : Int} {path dest data : B8} {plan : List Ev} (hT : Two2 w0 S O O' w fv xv m m2) (hE : Env w0) (hg : Good n m) (hg2 : Good n m2) (hn : n ≤ 1000) (ho : IsOpn w0 cs ⟨kind, mode, keep, torn, path, dest, data, plan⟩) (hok : OpOk ⟨kind, mode, keep, torn, path, dest, data, plan⟩) (hkd : kind < 0 ∨ 12 < kind) :
    Calls Tryz.prog 25 #[fv, xv, .agg cs.toArray] w (DoesPost2 w0 S O O' fv xv m m2 m m2 w) := by
  obtain ⟨vd, vp, rfl, hd, hpl⟩ := ho
  obtain ⟨da, dc, rfl, -⟩ := id hd.bytes
  obtain ⟨_, ⟨pa, pc, rfl, -⟩, -⟩ := id hpl
  simp only at hd hpl
  have hp := hok.path
  have hq := hok.dest
  have hkp := hok.keep
  have htn := hok.torn
  have hfw := hok.few
  simp only at hp hq hkp htn hfw
  have hx0 := hT.ext
  have hba := hT.base
  obtain ⟨gf, hgf⟩ : ∃ g, fv = .pointer (some ⟨g, 0, none⟩) := by
    obtain ⟨g, gm, gd, vp, vl, vu, L, c0, hpe, -⟩ := hT.fs
    exact ⟨g, hpe⟩
  subst hgf
  obtain ⟨gx, rfl⟩ := hT.ref.ptr
  obtain ⟨wb, hwb⟩ : ∃ wb, wb = w.alloc (.cells #[.int .i64 kind, .int .i64 mode, .int .i64 keep, .int .i64 torn, S8 path, S8 dest, .slice da data.length dc, .slice pa plan.length pc] 48) := ⟨_, rfl⟩
  have hxb : Ext w wb := by rw [hwb]; exact (Ext.refl _).alloc _
  have hbb : wb.heap[w.heap.size]? = some (.cells #[.int .i64 kind, .int .i64 mode, .int .i64 keep, .int .i64 torn, S8 path, S8 dest, .slice da data.length dc, .slice pa plan.length pc] 48 (0, 0)) := by rw [hwb]; exact alloc_at _ _
  obtain ⟨b0, b1, b2, b3, b4, b5, b6, b7⟩ := cellsAt8 hbb
  have hsb : w.heap.size < wb.heap.size := by rw [hwb]; simp
  have HT : Hid _ := hT
  have HE : Hid _ := hE
  have HG : Hid _ := hg
  have HG2 : Hid _ := hg2
  have HWB : Hid _ := hwb
  have HXB : Hid _ := hxb
  have HBB : Hid _ := hbb
  have HD0 : Hid (OldB (.slice da data.length dc) data) := hd
  have HBA : Hid _ := hba
  have HX0 : Hid _ := hx0
  have HPL : Hid (ReadO w0 IsEvI (.slice pa plan.length pc) plan) := hpl
  have HDB : Hid _ := OldB.at hd ((hba.trans hx0).trans hxb)
  have HOKK : Hid _ := hok
  clear hT hE hg hg2 hwb hxb hbb hd hx0 hba hpl hok
  go_enter Tryz.func25, Tryz.ntmps25
  go_upto_region 1 with fail
  rw [show w.alloc (.cells #[.int .i64 kind, .int .i64 mode, .int .i64 keep, .int .i64 torn, S8 path, S8 dest, .slice da data.length dc, .slice pa plan.length pc] 48) = wb from HWB.out.symm]
  go_wp2_with fail
  go_at_call 52
  refine (copyB_own _ data _ HDB.out).mono ?_
  rintro e w1 ⟨⟨vin, rfl, hin⟩, hx1⟩
  obtain ⟨ia, ic, hie, -⟩ := Row.of_owns hin HD0.out.bytes.len
  subst hie
  have HIN : Hid (IsBytes w1 (.slice ia data.length ic) data) := Row.of_owns hin HD0.out.bytes.len
  have HTI : Hid (TypB w1 (.slice ia data.length ic)) := TypB.of_owns hin
  have HOI : Hid _ := hin
  have hx01 : Ext w w1 := Ext.trans HXB.out hx1
  have HP : Hid (Pair S O O' (fun k => k < w.heap.size) w1 (.pointer (some ⟨gf, 0, none⟩)) (.pointer (some ⟨gx, 0, none⟩)) m m2) := Two2.pair HT.out HE.out HG.out HG2.out hn hx01
  have HNG : Hid _ := (Two2.noG HT.out HE.out).2
  have HB1 : Hid _ := hx1.row HBB.out
  have HNO : Hid (¬ O w.heap.size ∧ ¬ O' w.heap.size) := ⟨fun h => by have := HT.out.lo _ h; omega, fun h => by have := HT.out.lo' _ h; omega⟩
  have HB0 : Hid (Ext baseW w1) := Ext.trans (Ext.trans HBA.out HX0.out) hx01
  have HD1 : Hid (IsBytes w1 (.slice da data.length dc) data) := OldB.at HD0.out HB0.out
  have HX01 : Hid _ := hx01
  have htm := HG.out.time
  have hcl := HG.out.calls
  have htm2 := HG2.out.time
  have hcl2 := HG2.out.calls
  obtain ⟨m', hm'⟩ : ∃ m', m = m' := ⟨_, rfl⟩
  have HM : Hid _ := hm'
  obtain ⟨m2', hm2'⟩ : ∃ m', m2 = m' := ⟨_, rfl⟩
  have HM2 : Hid _ := hm2'
  replace b0 := hx1.cell b0
  have hsz1 := hx1.size
  clear hin hx1 hx01 hm' hm2' b1 b2 b3 b4 b5 b6 b7
  have hboth : Both S O O' (fun k => k < w.heap.size) w1 (.pointer (some ⟨gf, 0, none⟩)) (.pointer (some ⟨gx, 0, none⟩)) m' m2' w1 := by
    rw [← HM.out, ← HM2.out]
    exact Both.same HP.out (Ext.refl _)
  have e0 : (kind == 0) = false := by rw [beq_eq_false_iff_ne]; omega
  have e1 : (kind == 1) = false := by rw [beq_eq_false_iff_ne]; omega
  have e2 : (kind == 2) = false := by rw [beq_eq_false_iff_ne]; omega
  have e3 : (kind == 3) = false := by rw [beq_eq_false_iff_ne]; omega
  have e4 : (kind == 4) = false := by rw [beq_eq_false_iff_ne]; omega
  have e5 : (kind == 5) = false := by rw [beq_eq_false_iff_ne]; omega
  have e6 : (kind == 6) = false := by rw [beq_eq_false_iff_ne]; omega
  have e7 : (kind == 7) = false := by rw [beq_eq_false_iff_ne]; omega
  have e8 : (kind == 8) = false := by rw [beq_eq_false_iff_ne]; omega
  have e9 : (kind == 9) = false := by rw [beq_eq_false_iff_ne]; omega
  have e10 : (kind == 10) = false := by rw [beq_eq_false_iff_ne]; omega
  have e11 : (kind == 11) = false := by rw [beq_eq_false_iff_ne]; omega
  have e12 : (kind == 12) = false := by rw [beq_eq_false_iff_ne]; omega
  have HBO : Hid _ := hboth
  have hb2 := hboth.fr.row HB1.out (fun h => h.elim HNO.out.1 HNO.out.2)
  obtain ⟨-, -, -, -, -, -, c6, -⟩ := cellsAt8 hb2
  have HBI : Hid (IsBytes w1 (.slice ia data.length ic) data) := Row.keepB HIN.out HTI.out hboth.fr.keep
  have HBD : Hid (IsBytes w1 (.slice da data.length dc) data) := OldB.at HD0.out (Ext.of_fr HB0.out hboth.fr (fun k hk => hk.elim (HP.out.high k) (HP.out.rin.high k)))
  have HOW : Hid (w1.ownsRow wb.heap.size 5 1 (.slice ia data.length ic) data.length (data.map fun x => .int .u8 x.toNat)) := by
    refine ⟨HOI.out.1, HOI.out.2.imp id ?_⟩
    rintro ⟨g, cap, cur, h1, h2, h3, h4⟩
    exact ⟨g, cap, cur, h1, h2, (hboth.fr.keep.2 _ ⟨_, _, _, h3, byt_u8⟩).trans h3, h4⟩
  have hdl := HD1.out.len
  have HIB : Hid (∀ k, (Value.slice ia data.length ic).ownBlock = some k → w.heap.size ≤ k ∧ k < w1.heap.size) := fun k hk => by
    have := World.ownsRow.lt HOI.out k hk
    omega
  clear hb2 hboth
  go_upto_region 37 with fail
  go_wp2_with fail
  go_at_call 35
  refine (bytesEq_any _ _ _ _ _ HBI.out HBD.out).mono ?_
  rw [beq_self_eq_true]
  rintro e w3 ⟨rfl, rfl⟩
  clear c6
  go_wp2_with fail
  go_loopw [17] (fun i wr => ∃ (k : Nat) (xs : List Value), k ≤ data.length ∧ i = .int .i64 k ∧ wr.ownsRow wb.heap.size 5 1 (.slice ia data.length ic) data.length xs ∧ U8s xs ∧ w3.grownBy wr (Value.slice ia data.length ic).ownBlock) (fun i _ => data.length - (intOf i).toNat)
  case atStart => exact ⟨0, _, Nat.zero_le _, rfl, HOW.out, U8s.map _, ⟨rfl, rfl, rfl, Nat.le_refl _, fun _ _ _ => rfl⟩⟩
  case round =>
    obtain ⟨k, ys, hk, rfl, hown, hu8, hgr⟩ := hrel
    have HOW3 : Hid _ := hown
    have HU : Hid _ := hu8
    have HGR : Hid _ := hgr
    have hyl : ys.length = data.length := by have := hown.1; omega
    clear hown hu8 hgr
    by_cases hlt : k < data.length
    · obtain ⟨g, cap', hge⟩ := owns_some HOW3.out (by omega)
      simp only [Value.slice.injEq, true_and] at hge
      obtain ⟨rfl, rfl⟩ := hge
      obtain ⟨u, hu⟩ : ∃ u, ys[k]? = some u := ⟨_, List.getElem?_eq_getElem (by omega)⟩
      obtain ⟨b, hb, rfl⟩ := HU.out k u hu
      have hcell : wr.cell? ⟨g, k, none⟩ = some (.int .u8 b) := by
        rw [World.ownsRow.cellAt HOW3.out k (by omega)]
        exact hu
      have hfz := World.ownsRow.frozenAt HOW3.out k
      clear hu
      go_wp2
      go_roundw
      case rel =>
        obtain ⟨ho3, hg3⟩ := World.ownsRow.stored HOW3.out k (.int .u8 (((b : Int) + 1) % 256))
        refine ⟨k + 1, ys.set k (.int .u8 (((b : Int) + 1) % 256)), by omega, by go_num, ho3, ?_, HGR.out.trans hg3⟩
        have he : ((b : Int) + 1) % 256 = (((b + 1) % 256 : Nat) : Int) := by omega
        rw [he]
        exact U8s.set HU.out k _ (by omega)
      case measure => simp [intOf]; omega
    · have hkk : k = data.length := by omega
      subst hkk
      go_wp2
      go_ret
      rw [HM.out, HM2.out]
      exact ⟨⟨_, rfl, fun _ => rfl⟩, Two2.done HT.out HX01.out HBO.out HIB.out HGR.out⟩

end Go.Proofs.YtoajnaopainpnaaGreatDoor

/-! marlaw5: Does, of any kind; Few. Conditions: as each theorem states. -/
namespace Go.Proofs.YtoajnaopainpnaaGreatDoor
open Go Go.RowKit
variable [Inhabited BaseW]

theorem doesOp_gen {w0 w : World} {S O O' : Nat → Prop} {fv xv : Value} {m m2 : Fs} {n : Nat} {cs : List Value} {o : Opn} (hT : Two2 w0 S O O' w fv xv m m2) (hE : Env w0) (hg : Good n m) (hg2 : Good n m2) (hn : n ≤ 1000) (ho : IsOpn w0 cs o) (hok : OpOk o) :
    Calls Tryz.prog 25 #[fv, xv, .agg cs.toArray] w (DoesPost2 w0 S O O' fv xv m m2 (stepM m o) (stepM m2 o) w) := by
  obtain ⟨kind, mode, keep, torn, path, dest, data, plan⟩ := o
  by_cases h0 : kind = 0
  · subst h0; exact does_k0 hT hE hg hg2 hn ho hok
  by_cases h1 : kind = 1
  · subst h1; exact does_k1 hT hE hg hg2 hn ho hok
  by_cases h2 : kind = 2
  · subst h2; exact does_k2 hT hE hg hg2 hn ho hok
  by_cases h3 : kind = 3
  · subst h3; exact does_k3 hT hE hg hg2 hn ho hok
  by_cases h4 : kind = 4
  · subst h4; exact does_k4 hT hE hg hg2 hn ho hok
  by_cases h5 : kind = 5
  · subst h5; exact does_k5 hT hE hg hg2 hn ho hok
  by_cases h6 : kind = 6
  · subst h6; exact does_k6 hT hE hg hg2 hn ho hok
  by_cases h7 : kind = 7
  · subst h7; exact does_k7 hT hE hg hg2 hn ho hok
  by_cases h8 : kind = 8
  · subst h8; exact does_k8 hT hE hg hg2 hn ho hok
  by_cases h9 : kind = 9
  · subst h9; exact does_k9 hT hE hg hg2 hn ho hok
  by_cases h10 : kind = 10
  · subst h10; exact does_k10 hT hE hg hg2 hn ho hok
  by_cases h11 : kind = 11
  · subst h11; exact does_k11 hT hE hg hg2 hn ho hok
  by_cases h12 : kind = 12
  · subst h12; exact does_k12 hT hE hg hg2 hn ho hok
  have hst : ∀ m, stepM m ⟨kind, mode, keep, torn, path, dest, data, plan⟩ = m := by
    intro m
    unfold stepM
    rw [if_neg h0, if_neg h1, if_neg h2, if_neg h3, if_neg h4, if_neg h5, if_neg h6, if_neg h7, if_neg h8, if_neg h9, if_neg h10, if_neg h11, if_neg h12]
  rw [hst, hst]
  exact does_k13 hT hE hg hg2 hn ho hok (by omega)

theorem doesOp_any {w0 w : World} {S O O' : Nat → Prop} {fv xv : Value} {m : Fs} {n : Nat} {cs : List Value} {o : Opn} (hT : Two w0 S O O' w fv xv m) (hE : Env w0) (hg : Good n m) (hn : n ≤ 1000) (ho : IsOpn w0 cs o) (hok : OpOk o) :
    Calls Tryz.prog 25 #[fv, xv, .agg cs.toArray] w (DoesPost w0 S O O' fv xv (stepM m o) w) :=
  (doesOp_gen hT hE hg hg hn ho hok).mono (by rintro e w' ⟨⟨b, rfl, hb⟩, h⟩; rw [hb rfl]; exact ⟨rfl, h⟩)

/-! ### Few -/
def opW (n : Nat) (o : Opn) : Nat := min (n + min o.data.length 40000) 160000
def okOp (o : Opn) : Bool := fewEv o.plan && (decide (o.path.length ≤ 400) && decide (o.dest.length ≤ 400))
def fewOps (l : List Opn) : Bool := decide (l.length ≤ 100) && (l.all okOp && decide (l.foldl opW 0 ≤ 40000))
theorem opW_snoc {l : List Opn} {k : Nat} {e : Opn} (h : l[k]? = some e) : (l.take (k + 1)).foldl opW 0 = opW ((l.take k).foldl opW 0) e := by
  obtain ⟨hlt, rfl⟩ := (List.getElem?_eq_some_iff.1 h)
  rw [List.take_succ_eq_append_getElem hlt, List.foldl_append]
  rfl
theorem okOp_snoc {l : List Opn} {k : Nat} {e : Opn} (h : l[k]? = some e) (h0 : (l.take k).all okOp = true) (h1 : okOp e = true) : (l.take (k + 1)).all okOp = true := by
  obtain ⟨hlt, rfl⟩ := (List.getElem?_eq_some_iff.1 h)
  rw [List.take_succ_eq_append_getElem hlt]
  simp only [List.all_append, h0, List.all_cons, List.all_nil, Bool.and_true, Bool.true_and, h1]
theorem okOp_no {l : List Opn} {k : Nat} {e : Opn} (h : l[k]? = some e) (h1 : okOp e = false) : fewOps l = false := by
  have : l.all okOp = false := by
    rw [List.all_eq_false]
    exact ⟨e, List.mem_of_getElem? h, by simpa using h1⟩
  unfold fewOps
  rw [this]
  simp
theorem IsOpn.length {w : World} {cs : List Value} {o : Opn} (h : IsOpn w cs o) : cs.length = 8 ∧ cs.all (·.oneCell') = true := by
  obtain ⟨vd, vp, rfl, h1, h3⟩ := h
  obtain ⟨_, _, rfl, _⟩ := h1.bytes
  obtain ⟨_, ⟨_, _, rfl, _⟩, _⟩ := h3
  exact ⟨rfl, by simp [Value.oneCell']⟩
abbrev IsOps (w : World) (v : Value) (l : List Opn) : Prop := ReadO w (IsOpn w) v l
theorem ops_cells {w : World} {v : Value} {l : List Opn} (h : IsOps w v l) : ∃ a cap, v = .slice a l.length cap ∧ l.length ≤ cap ∧ l.length ≤ 140737488355328 ∧ cap ≤ 9223372036854775807 ∧
    ∀ (k : Nat) x, l[k]? = some x → ∃ b o cs, a = some ⟨b, o, none⟩ ∧ IsOpn w cs x ∧ ∀ j u, cs[j]? = some u → w.cell? ⟨b, o + k * 8 + j, none⟩ = some u :=
  readO_get 8 (fun c x hx => hx.length.1) (by omega) h

set_option maxRecDepth 100000 in
set_option maxHeartbeats 2000000 in
theorem fewOps_any {w0 w : World} {v : Value} {l : List Opn} (hx0 : Ext w0 w) (hv : IsOps w0 v l) :
    Calls Tryz.prog 22 #[v] w fun e w' => e = .returned (.bool (fewOps l)) ∧ Ext w w' := by
  obtain ⟨a, cap, rfl, h1, h2, h3, h4⟩ := ops_cells hv
  have H4 : Hid _ := h4
  have HX0 : Hid _ := hx0
  clear h4 hv hx0
  go_enter Tryz.func22, Tryz.ntmps22
  go_wp2
  go_loopw [3, 4] (fun n i wr => ∃ k m : Nat, Ext w wr ∧ k ≤ l.length ∧ k ≤ 100 ∧ i = .int .i64 k ∧ n = .int .i64 m ∧ m ≤ 160000 ∧ (l.take k).foldl opW 0 = m ∧ (l.take k).all okOp = true) (fun _ i _ => l.length - (intOf i).toNat)
  case atStart => exact ⟨0, 0, Ext.refl _, Nat.zero_le _, by omega, rfl, rfl, by omega, rfl, rfl⟩
  case round =>
    obtain ⟨k, m, hx, hk, hk6, rfl, rfl, hm, hfd, hal⟩ := hrel
    have HX : Hid _ := hx
    have HF : Hid _ := hfd
    have HA : Hid _ := hal
    clear hfd hal
    by_cases hlt : k < l.length
    · by_cases h60 : k < 100
      · obtain ⟨E, he⟩ : ∃ e, l[k]? = some e := ⟨_, List.getElem?_eq_getElem hlt⟩
        obtain ⟨b, o, cs, rfl, hop, hc⟩ := H4.out k E he
        obtain ⟨vd, vp, rfl, hd, hpl⟩ := hop
        obtain ⟨s1, s2, rfl, -⟩ := id hd.bytes
        obtain ⟨_, ⟨p1, p2, rfl, -⟩, -⟩ := id hpl
        have hxw := Ext.trans HX0.out hx
        have c4 := hxw.cell (hc 4 _ rfl)
        have c5 := hxw.cell (hc 5 _ rfl)
        have c6 := hxw.cell (hc 6 _ rfl)
        have c7 := hxw.cell (hc 7 _ rfl)
        have HPL : Hid _ := ReadO.dExt hpl hxw
        have HE : Hid _ := he
        have hdl := hd.bytes.len
        obtain ⟨d', hd'⟩ : ∃ d', min E.data.length 40000 = d' := ⟨_, rfl⟩
        obtain ⟨n', hn'⟩ : ∃ n', min (m + d') 160000 = n' := ⟨_, rfl⟩
        have hmd : min (E.data.length : Int) 40000 = (d' : Int) := by omega
        have hmn : min ((m : Int) + d') 160000 = (n' : Int) := by omega
        have hdl' : d' ≤ 40000 := by omega
        have hnl : n' ≤ 160000 := by omega
        have HN : Hid (opW m E = n') := by unfold Hid opW; rw [hd', hn']
        obtain ⟨fe, hfe⟩ : ∃ fe, fewEv E.plan = fe := ⟨_, rfl⟩
        have HFE : Hid _ := hfe
        clear hd he hd' hn' hc hpl hxw hfe
        go_wp2_with fail
        go_at_call 50
        refine (fewEvents_any HPL.out).mono ?_
        rw [HFE.out]
        rintro e w2 ⟨rfl, hx2⟩
        replace c4 := hx2.cell c4
        replace c5 := hx2.cell c5
        replace c6 := hx2.cell c6
        have hxr := hx.trans hx2
        cases fe with
        | false =>
          have HNO : Hid (fewOps l = false) := okOp_no HE.out (by unfold okOp; rw [HFE.out]; rfl)
          go_wp2
          go_ret
          exact ⟨ret_b HNO.out.symm, hxr⟩
        | true =>
          by_cases hp : (400 : Int) < (E.path.length : Int)
          · have HNO : Hid (fewOps l = false) := okOp_no HE.out (by unfold okOp; rw [decide_eq_false (by omega)]; simp)
            go_wp2
            go_ret
            exact ⟨ret_b HNO.out.symm, hxr⟩
          · by_cases hq : (400 : Int) < (E.dest.length : Int)
            · have HNO : Hid (fewOps l = false) := okOp_no HE.out (by unfold okOp; rw [decide_eq_false (p := E.dest.length ≤ 400) (by omega)]; simp)
              go_wp2
              go_ret
              exact ⟨ret_b HNO.out.symm, hxr⟩
            · have HOKE : Hid (okOp E = true) := by unfold Hid okOp; rw [HFE.out, decide_eq_true (by omega), decide_eq_true (by omega)]; rfl
              go_wp2
              go_roundw
              case rel => exact ⟨k + 1, n', hxr, by omega, by omega, by go_num, rfl, hnl, by rw [opW_snoc HE.out, HF.out, HN.out], okOp_snoc HE.out HA.out HOKE.out⟩
              case measure => simp [intOf]; omega
      · have hkk : k = 100 := by omega
        subst hkk
        have hl60 : ¬ (l.length : Int) ≤ 100 := by omega
        have HB : Hid (fewOps l = false) := by
          unfold Hid fewOps
          rw [decide_eq_false (by omega)]
          rfl
        go_wp2
        go_ret
        exact ⟨ret_b HB.out.symm, HX.out⟩
    · have hkk : k = l.length := by omega
      subst hkk
      have hfd := HF.out
      have hal := HA.out
      rw [List.take_length] at hfd hal
      have hl60 : (l.length : Int) ≤ 100 := by omega
      have HB : Hid (fewOps l = decide ((m : Int) ≤ 40000)) := by
        unfold Hid fewOps
        rw [decide_eq_true hk6, hal, hfd]
        simp only [Bool.true_and, decide_eq_decide]
        omega
      clear hfd hal
      go_wp2
      go_ret
      exact ⟨ret_b HB.out.symm, HX.out⟩
theorem few_ops {l : List Opn} (h : fewOps l = true) (hi : ∀ o ∈ l, I64 o.keep ∧ I64 o.torn ∧ ∀ e ∈ o.plan, I64 e.keep ∧ I64 e.torn) : l.length ≤ 100 ∧ ∀ o ∈ l, OpOk o := by
  unfold fewOps at h
  simp only [Bool.and_eq_true, decide_eq_true_eq, List.all_eq_true] at h
  refine ⟨h.1, fun o ho => ?_⟩
  have h2 := h.2.1 o ho
  unfold okOp fewEv at h2
  simp only [Bool.and_eq_true, decide_eq_true_eq, List.all_eq_true] at h2
  have h3 := hi o ho
  exact ⟨h2.2.1, h2.2.2, h2.1.1, fun e he => ⟨(h3.2.2 e he).1, (h3.2.2 e he).2, h2.1.2.1 e he⟩, h3.1, h3.2.1⟩

end Go.Proofs.YtoajnaopainpnaaGreatDoor

/-! marlaw5.first: what the chapter's examples fix. No conditions. -/
namespace Go.Proofs.YtoajnaopainpnaaGreatDoor
open Go Go.RowKit
variable [Inhabited BaseW]

/-- A file system of the call's own. -/
structure One (w0 : World) (S O : Nat → Prop) (w : World) (f : Value) (m : Fs) : Prop where
  ext : Ext w0 w
  fs : IsFs S O (fun k => k < w.heap.size) w f m
  lo : ∀ k, O k → w0.heap.size ≤ k ∧ k < w.heap.size
  loS : ∀ k, S k → w0.heap.size ≤ k ∧ k < w.heap.size
  disS : ∀ k, S k → ¬ O k
section
variable {w0 w w' : World} {S O : Nat → Prop} {f : Value} {m m' : Fs} {n : Nat}
theorem One.noG (h : One w0 S O w f m) (hE : Env w0) : NoG O := fun k hk e => by have := h.lo k hk; have := env_lt hE; omega
theorem One.fin (h : One w0 S O w f m) (hE : Env w0) (hg : Good n m) (hn : n ≤ 1000) : FsIn S O (fun k => k < w.heap.size) w f m := by
  have ht := hg.time
  have hc := hg.calls
  exact ⟨hE.ext h.ext, h.fs, hg.ok, hg.plan, by omega, by omega, h.noG hE, fun k hk => ⟨h.disS k hk, (h.loS k hk).2⟩, fun k hk => (h.lo k hk).2, hg.room0, hg.room1⟩
theorem One.more (h : One w0 S O w f m) (hx : Ext w w') : One w0 S O w' f m := by
  have hs := hx.size
  exact ⟨h.ext.trans hx, (h.fs.ext hx).mono (fun _ h => h) (fun k hk => Nat.lt_of_lt_of_le hk hs), fun k hk => by have := h.lo k hk; omega, fun k hk => by have := h.loS k hk; omega, h.disS⟩
theorem One.post (h : One w0 S O w f m) (hp : FsPost S O (fun k => k < w.heap.size) w f m' w') : One w0 S (Nw O w w') w' f m' := by
  have hs := hp.fr.size
  have hs0 := h.ext.size
  refine ⟨Ext.of_fr h.ext hp.fr (fun k hk => (h.lo k hk).1), hp.fs.mono (fun _ h => h) (fun k hk => by rcases hk with hk | hk <;> omega), fun k hk => ?_, fun k hk => by have := h.loS k hk; omega, fun k hk ho => ?_⟩
  · rcases hk with hk | hk
    · have := h.lo k hk; omega
    · exact ⟨by omega, hk.2⟩
  · rcases ho with ho | ho
    · exact h.disS k hk ho
    · have := h.loS k hk; omega
end
theorem One.new {w w' : World} {p : Value} {room : Int} (h : IsFs (fun _ => False) (Nu w w') (fun _ => False) w' p (newM room)) (hx : Ext w w') : One w (fun _ => False) (Nu w w') w' p (newM room) :=
  ⟨hx, h.mono (fun _ h => h) (fun _ h => h.elim), fun k hk => hk, fun k hk => hk.elim, fun k hk => hk.elim⟩
theorem good_new {room : Int} (h0 : 0 ≤ room) (h1 : room ≤ 1073741824) : Good 0 (newM room) :=
  ⟨(new_ok room).1, (new_ok room).2, Nat.zero_le _, Nat.le_refl _, Nat.le_refl _, h0, h1⟩

def fo0 : Opn := ⟨0, 1, 0, 0, [97], [], [120], []⟩
def fo1 : Opn := ⟨5, 0, 0, 0, [], [], [], []⟩
def fo2 : Opn := ⟨1, 1, 0, 0, [97], [], [121, 122], []⟩
def fo3 : Opn := ⟨10, 0, 0, 1, [], [], [], []⟩
def fo4 : Opn := ⟨11, 0, 0, 0, [], [], [], []⟩
theorem small_ok {o : Opn} (h1 : o.path.length ≤ 400) (h2 : o.dest.length ≤ 400) (h3 : o.plan = []) (h4 : I64 o.keep) (h5 : I64 o.torn) : OpOk o := ⟨h1, h2, by rw [h3]; exact Nat.zero_le _, fun e he => (by rw [h3] at he; cases he), h4, h5⟩
def fm (k : Nat) : Fs := ([fo0, fo1, fo2, fo3, fo4].take k).foldl stepM (newM 100)
theorem i64_small (n : Int) (h0 : -1000 ≤ n) (h1 : n ≤ 1000) : I64 n := ⟨by omega, by omega⟩
theorem fgood : Good 0 (fm 0) ∧ Good 1 (fm 1) ∧ Good 2 (fm 2) ∧ Good 3 (fm 3) ∧ Good 4 (fm 4) ∧ Good 5 (fm 5) := by
  have g0 : Good 0 (fm 0) := good_new (by omega) (by omega)
  have g1 : Good 1 (fm 1) := step_good (o := fo0) g0 (small_ok (by decide) (by decide) rfl (i64_small _ (by decide) (by decide)) (i64_small _ (by decide) (by decide)))
  have g2 : Good 2 (fm 2) := step_good (o := fo1) g1 (small_ok (by decide) (by decide) rfl (i64_small _ (by decide) (by decide)) (i64_small _ (by decide) (by decide)))
  have g3 : Good 3 (fm 3) := step_good (o := fo2) g2 (small_ok (by decide) (by decide) rfl (i64_small _ (by decide) (by decide)) (i64_small _ (by decide) (by decide)))
  have g4 : Good 4 (fm 4) := step_good (o := fo3) g3 (small_ok (by decide) (by decide) rfl (i64_small _ (by decide) (by decide)) (i64_small _ (by decide) (by decide)))
  have g5 : Good 5 (fm 5) := step_good (o := fo4) g4 (small_ok (by decide) (by decide) rfl (i64_small _ (by decide) (by decide)) (i64_small _ (by decide) (by decide)))
  exact ⟨g0, g1, g2, g3, g4, g5⟩
theorem fpeek : peekM (fm 4) [97] = (⟨1, [121], 2⟩, true) := by kernel_rfl
theorem fcreate : (createM (fm 5) [97, 47, 98] 1 []).2 = 9 := by kernel_rfl

theorem bytes_block {w : World} {g n : Nat} {l : B8} {fr : Nat × Nat} (h : w.heap[g]? = some (.cells (l.map fun x => Value.int .u8 x.toNat).toArray 5 fr)) (hn : n = l.length) (hl : n ≤ 1000) : IsBytes w (.slice (some ⟨g, 0, none⟩) n n) l ∧ TypB w (.slice (some ⟨g, 0, none⟩) n n) := by
  subst hn
  exact ⟨Row.new h (by omega) _ (by simp), TypB.at h⟩

set_option maxRecDepth 100000 in
set_option maxHeartbeats 4000000 in
theorem first_any (w : World) (hE : Env w) :
    Calls Tryz.prog 10 #[] w fun e w' => e = .returned (.bool true) ∧ Ext w w' := by
  obtain ⟨g0, g1, g2, g3, g4, g5⟩ := fgood
  have HE : Hid _ := hE
  clear hE
  have kc := fun (w : World) (C : Array Value) (n c : Nat) => Lib.run_convert_bytes_const (P := Tryz.prog) w 28 5 C n c Tryz.underlying28 Tryz.underlying5
  go_enter Tryz.func10, Tryz.ntmps10
  go_wp2_with fail
  go_at_call 20
  refine (new_yes 100 _ (by omega) (by omega)).mono ?_
  rintro e w1 ⟨⟨p, rfl, hf⟩, hx1⟩
  have H1 : Hid (One w (fun _ => False) (Nu w w1) w1 p (fm 0)) := One.new hf hx1
  obtain ⟨g, rfl⟩ : ∃ g, p = .pointer (some ⟨g, 0, none⟩) := by
    obtain ⟨g, gm, gd, vp, vl, vu, L, c0, hpe, -⟩ := hf
    exact ⟨g, hpe⟩
  clear hf hx1
  go_upto_region 4 with fail
  obtain ⟨wa, hwa⟩ : ∃ wa, wa = w1.alloc (.cells #[.int .u8 120] 5 (1, 2)) := ⟨_, rfl⟩
  have hxa : Ext w1 wa := by rw [hwa]; exact (Ext.refl _).alloc _
  have hba := bytes_block (w := wa) (l := [120]) (n := 1) (fr := (1, 2)) (g := w1.heap.size) (by rw [hwa]; exact alloc_at _ _) rfl (by omega)
  have HWA : Hid _ := hwa
  have HBA : Hid _ := hba
  have H1a : Hid _ := One.more H1.out hxa
  have hs1 := hxa.size
  clear hwa hba hxa
  go_wp2_with fail
  rw [show w1.alloc (.cells #[.int .u8 120] 5 (1, 2)) = wa from HWA.out.symm]
  go_at_call 42
  refine (create_any [97] 1 _ [120] (One.fin H1a.out HE.out g0 (by omega)) (by decide) HBA.out.1 (typed_out HBA.out.2 ⟨_, _, _, rfl⟩)).mono ?_
  rintro e w2 ⟨rfl, h2⟩
  have H2 : Hid (One w _ _ w2 _ (fm 1)) := One.post H1a.out h2
  clear h2
  go_wp2_with fail
  go_at_call 29
  refine (sync_any (One.fin H2.out HE.out g1 (by omega))).mono ?_
  rintro e w3 ⟨rfl, h3⟩
  have H3 : Hid (One w _ _ w3 _ (fm 2)) := One.post H2.out h3
  clear h3
  go_upto_region 6 with fail
  obtain ⟨wb, hwb⟩ : ∃ wb, wb = w3.alloc (.cells #[.int .u8 121, .int .u8 122] 5 (2, 3)) := ⟨_, rfl⟩
  have hxb : Ext w3 wb := by rw [hwb]; exact (Ext.refl _).alloc _
  have hbb := bytes_block (w := wb) (l := [121, 122]) (n := 2) (fr := (2, 3)) (g := w3.heap.size) (by rw [hwb]; exact alloc_at _ _) rfl (by omega)
  have HWB : Hid _ := hwb
  have HBB : Hid _ := hbb
  have H3b : Hid _ := One.more H3.out hxb
  clear hwb hbb hxb
  go_wp2_with fail
  rw [show w3.alloc (.cells #[.int .u8 121, .int .u8 122] 5 (2, 3)) = wb from HWB.out.symm]
  go_at_call 39
  refine (write_any [97] 1 _ [121, 122] (One.fin H3b.out HE.out g2 (by omega)) (by decide) HBB.out.1 (typed_out HBB.out.2 ⟨_, _, _, rfl⟩)).mono ?_
  rintro e w4 ⟨rfl, h4⟩
  have H4 : Hid (One w _ _ w4 _ (fm 3)) := One.post H3b.out h4
  clear h4
  go_wp2_with fail
  go_at_call 32
  refine (crash_any 0 1 H4.out.fs g3.ok (by have := g3.time; omega) (i64_small _ (by decide) (by decide)) (i64_small _ (by decide) (by decide))).mono ?_
  rintro e w5 ⟨rfl, h5⟩
  have H5 : Hid (One w _ _ w5 _ (fm 4)) := One.post H4.out h5
  clear h5
  go_wp2_with fail
  go_at_call 13
  refine (peek_any [97] H5.out.fs (by decide)).mono ?_
  rw [fpeek]
  rintro e w6 ⟨⟨v, rfl, hv⟩, hx6⟩
  obtain ⟨va, vc, rfl, -⟩ := id hv.bytes
  have HV : Hid (IsData (Nu w5 w6) w6 (.slice va 1 vc) [121]) := hv
  obtain ⟨wc, hwc⟩ : ∃ wc, wc = w6.alloc (.cells #[.int .i64 1, .slice va 1 vc, .int .i64 2] 30) := ⟨_, rfl⟩
  have hxc : Ext w6 wc := by rw [hwc]; exact (Ext.refl _).alloc _
  have hbc : wc.heap[w6.heap.size]? = some (.cells #[.int .i64 1, .slice va 1 vc, .int .i64 2] 30 (0, 0)) := by rw [hwc]; exact alloc_at _ _
  have H6 : Hid _ := One.more H5.out hx6
  have HNO : Hid _ := fun ho => Nat.lt_irrefl _ (One.lo H6.out w6.heap.size ho).2
  have H6c : Hid _ := One.more H6.out hxc
  have HWC : Hid _ := hwc
  have HVC : Hid _ := IsData.ext HV.out hxc
  clear hv hwc hxc hx6
  dsimp only
  go_upto_region 9 with fail
  rw [show w6.alloc (.cells #[.int .i64 1, .slice va 1 vc, .int .i64 2] 30) = wc from HWC.out.symm]
  go_wp2_with fail
  go_at_call 28
  refine (reboot_any H6c.out.fs).mono ?_
  rintro e w7 ⟨rfl, h7⟩
  have hb7 := h7.fr.row hbc HNO.out
  have hv7 : IsBytes w7 (.slice va 1 vc) [121] := Row.keepB HVC.out.bytes HVC.out.typed h7.fr.keep
  have hconv := conv_bytes hv7
  have H7 : Hid (One w _ _ w7 _ (fm 5)) := One.post H6c.out h7
  obtain ⟨y0, y1, y2⟩ := cellsAt3 hb7
  clear h7 hb7 hv7 hbc
  go_wp2_with fail
  go_at_call 42
  refine (create_any [97, 47, 98] 1 _ [] (One.fin H7.out HE.out g5 (by omega)) (by decide) (IsBytes.nil _) (typed_out (TypB.nil _ _ _) ⟨_, _, _, rfl⟩)).mono ?_
  rw [fcreate]
  rintro e w8 ⟨rfl, h8⟩
  have hx8 := (One.post H7.out h8).ext
  clear h8
  go_wp2
  go_ret
  exact ⟨rfl, hx8⟩

end Go.Proofs.YtoajnaopainpnaaGreatDoor

/-! A region that draws its order and only reads, walked once: each step's rest behind a structure, so that nothing of it is unfolded ahead of its turn. Conditions: as each theorem states. -/
namespace Go.Proofs.YtoajnaopainpnaaGreatDoor
open Go Go.RowKit Go.Sort

structure QW (p : Prop) : Prop where
  out : p
section
variable {P : Program} {ops : Array Oper} {C : World → Prop}
theorem qw_nil {Q : Act → Prop} {a : Act} (h : Q a) : QW (wpQuiet P ops C Q [] a) := ⟨wpQuiet_nil h⟩
theorem qw_step {Q : Act → Prop} {a : Act} {o : Oper} {rest : List Oper}
    (h : ∀ K : Act → Prop, (∀ a, QW (wpQuiet P ops C Q rest a) → K a) → if Region.wanted o (yielded ops a.tmps) then o.quiet P a C K else K (a.put o.dst undef)) : QW (wpQuiet P ops C Q (o :: rest) a) :=
  ⟨wpQuiet_step fun K hK => h K (fun a ha => hK a ha.out)⟩
/-- .. where calls may lay blocks. -/
theorem qw_below {id : Nat} {Q : Exit → Act → World → Prop} {a : Act} {w : World} {l : List Oper} (hm : P.follows .mixedOrders = true) (hB : Region.lexB .any l.toArray = true)
    (h : QW (wpQuiet P l.toArray (fun w' => ∃ p : Regrown, w' = grow (redrawn w p.d) p.os) (fun a' => ∀ w', (∃ p : Regrown, w' = grow (redrawn w p.d) p.os) → Q .normal a' w') l a)) : (Code.region id l.toArray true).wp P Q a w :=
  wp_region_quiet_below hm hB h.out
theorem qw_drawn {id : Nat} {Q : Exit → Act → World → Prop} {a : Act} {w : World} {l : List Oper} (hm : P.follows .mixedOrders = true) (hB : Region.lexB .any l.toArray = true)
    (h : QW (wpQuiet P l.toArray (fun w' => ∃ n, w' = w.drewN n) (fun a' => ∀ w', (∃ n, w' = w.drewN n) → Q .normal a' w') l a)) : (Code.region id l.toArray true).wp P Q a w :=
  wp_region_quiet_lit hm hB h.out
end
theorem Ext.drawn (w : World) (n : Nat) : Ext w (w.drewN n) := ⟨rfl, rfl, rfl, Nat.le_refl _, fun _ _ => rfl⟩
theorem Ext.regrown (w : World) (d : Nat) (os : Array Obj) : Ext w (grow (redrawn w d) os) := below_regrown w d os

end Go.Proofs.YtoajnaopainpnaaGreatDoor

/-! marlaw5: several file systems side by side, each with blocks of its own. Conditions: as each theorem states. -/
namespace Go.Proofs.YtoajnaopainpnaaGreatDoor
open Go Go.RowKit
variable [Inhabited BaseW]

/-- What stands there: the program's file system, or the document's. -/
inductive Ent where
  | fs (f : Value) (m : Fs)
  | ref (x : Value) (m : Fs)
  | blk (k : Nat) (o : Obj)
  | dat (v : Value) (l : B8)
  | row (e : TypeId) (size : Nat) (v : Value) (n : Nat) (xs : List Value)
def Stand (w : World) (B : Nat → Prop) : Ent → Prop
  | .fs f m => ∃ S O : Nat → Prop, IsFs S O (fun k => k < w.heap.size) w f m ∧ (∀ k, O k → B k) ∧ (∀ k, S k → B k ∧ ¬ O k)
  | .ref x m => ∃ O : Nat → Prop, IsRef O (fun k => k < w.heap.size) w x m ∧ (∀ k, O k → B k)
  | .blk k o => w.heap[k]? = some o ∧ B k
  | .dat v l => IsBytes w v l ∧ TypB w v
  | .row e size v n xs => w.ownsRow 0 e size v n xs ∧ ∀ k, v.ownBlock = some k → B k
/-- The blocks of one of them. -/
def Ours (own : Nat → Nat) (i : Nat) (w0 w : World) (k : Nat) : Prop := own k = i ∧ w0.heap.size ≤ k ∧ k < w.heap.size
structure Pile (w0 w : World) (L : List (Nat × Ent)) : Prop where
  ext : Ext w0 w
  own : ∃ own : Nat → Nat, ∀ x ∈ L, Stand w (Ours own x.1 w0 w) x.2

theorem Stand.keep {w w' : World} {B B' : Nat → Prop} {e : Ent} (h : Stand w B e) (hb : ∀ k, B k → w'.heap[k]? = w.heap[k]?) (hu : KeepB w w') (hB : ∀ k, B k → B' k) : Stand w' B' e := by
  cases e with
  | fs f m =>
    obtain ⟨S, O, h1, h2, h3⟩ := h
    exact ⟨S, O, (h1.stay (fun k hk _ => hb k (h2 k hk)) (fun k hk _ => hb k (h3 k hk).1) (KeepR.of_keep hu)).mono (fun _ h => h) (fun k hk => Nat.lt_of_lt_of_le hk hu.1), fun k hk => hB k (h2 k hk), fun k hk => ⟨hB k (h3 k hk).1, (h3 k hk).2⟩⟩
  | ref x m =>
    obtain ⟨O, h1, h2⟩ := h
    exact ⟨O, (h1.stay (fun k hk _ => hb k (h2 k hk)) (KeepR.of_keep hu)).mono (fun _ h => h) (fun k hk => Nat.lt_of_lt_of_le hk hu.1), fun k hk => hB k (h2 k hk)⟩
  | blk k o => exact ⟨(hb k h.2).trans h.1, hB k h.2⟩
  | dat v l => exact ⟨Row.keepB h.1 h.2 hu, h.2.keep hu⟩
  | row e size v n xs =>
    refine ⟨⟨h.1.1, ?_⟩, fun k hk => hB k (h.2 k hk)⟩
    rcases h.1.2 with hn | ⟨g, cap, cur, rfl, h1, h2, h3⟩
    · exact .inl hn
    · exact .inr ⟨g, cap, cur, rfl, h1, (hb g (h.2 g rfl)).trans h2, h3⟩
theorem Pile.blk {w0 w : World} {L : List (Nat × Ent)} (h : Pile w0 w L) (i : Nat) {k : Nat} {o : Obj} (hi : (i, .blk k o) ∈ L) : w.heap[k]? = some o := by
  obtain ⟨h0, own, h1⟩ := h
  exact (h1 _ hi).1
theorem Pile.dat {w0 w : World} {L : List (Nat × Ent)} (h : Pile w0 w L) (i : Nat) {v : Value} {l : B8} (hi : (i, .dat v l) ∈ L) : IsBytes w v l := by
  obtain ⟨h0, own, h1⟩ := h
  exact (h1 _ hi).1
theorem Pile.row {w0 w : World} {L : List (Nat × Ent)} (h : Pile w0 w L) (i : Nat) {e : TypeId} {size : Nat} {v : Value} {n : Nat} {xs : List Value} (hi : (i, .row e size v n xs) ∈ L) : w.ownsRow 0 e size v n xs := by
  obtain ⟨h0, own, h1⟩ := h
  exact (h1 _ hi).1
theorem Pile.more {w0 w w' : World} {L : List (Nat × Ent)} (h : Pile w0 w L) (hx : Ext w w') : Pile w0 w' L := by
  obtain ⟨h0, own, h1⟩ := h
  have hs := hx.size
  refine ⟨h0.trans hx, own, fun x hm => (h1 x hm).keep (fun k hk => hx.block k hk.2.2) (KeepB.of_ext hx) (fun k hk => ⟨hk.1, hk.2.1, by have := hk.2.2; omega⟩)⟩
theorem Pile.sub {w0 w : World} {L L' : List (Nat × Ent)} (h : Pile w0 w L) (hl : ∀ x ∈ L', x ∈ L) : Pile w0 w L' := by
  obtain ⟨h0, own, h1⟩ := h
  exact ⟨h0, own, fun x hm => h1 x (hl x hm)⟩
theorem Pile.base {w w0 w1 : World} {L : List (Nat × Ent)} (h : Pile w0 w1 L) (hx : Ext w w0) : Pile w w1 L := by
  obtain ⟨h0, own, h1⟩ := h
  have hs := hx.size
  exact ⟨hx.trans h0, own, fun x hm => (h1 x hm).keep (fun k hk => rfl) (KeepB.of_ext (Ext.refl _)) (fun k hk => ⟨hk.1, by have := hk.2.1; omega, hk.2.2⟩)⟩
theorem Pile.nil {w0 w : World} (h : Ext w0 w) : Pile w0 w [] := ⟨h, fun _ => 0, fun x hx => by cases hx⟩
theorem Pile.one {w0 w : World} {S O : Nat → Prop} {f : Value} {m : Fs} (h : One w0 S O w f m) (i : Nat) : Pile w0 w [(i, .fs f m)] :=
  ⟨h.ext, fun _ => i, fun x hx => by
    rw [List.mem_singleton.1 hx]
    exact ⟨S, O, h.fs, fun k hk => ⟨rfl, (h.lo k hk).1, (h.lo k hk).2⟩, fun k hk => ⟨⟨rfl, (h.loS k hk).1, (h.loS k hk).2⟩, h.disS k hk⟩⟩⟩
/-- A new one beside the others. -/
theorem Pile.add {w0 w w' : World} {L : List (Nat × Ent)} (h : Pile w0 w L) (hx : Ext w w') {i : Nat} {e : Ent} (hi : ∀ x ∈ L, x.1 ≠ i) (he : Stand w' (Nu w w') e) : Pile w0 w' ((i, e) :: L) := by
  obtain ⟨h0, own, h1⟩ := h
  have hs := hx.size
  have hs0 := h0.size
  refine ⟨h0.trans hx, fun k => if k < w.heap.size then own k else i, fun x hm => ?_⟩
  rcases List.mem_cons.1 hm with rfl | hm
  · refine he.keep (fun k hk => rfl) (KeepB.of_ext (Ext.refl _)) (fun k hk => ⟨?_, by have := hk.1; omega, hk.2⟩)
    show (if k < w.heap.size then own k else i) = i
    rw [if_neg (by have := hk.1; omega)]
  · refine (h1 x hm).keep (fun k hk => hx.block k hk.2.2) (KeepB.of_ext hx) (fun k hk => ⟨?_, hk.2.1, by have := hk.2.2; omega⟩)
    show (if k < w.heap.size then own k else i) = x.1
    rw [if_pos hk.2.2]; exact hk.1
theorem Pile.addCopy {w0 w w' : World} {L : List (Nat × Ent)} (h : Pile w0 w L) (i : Nat) {m : Fs} {p' : Value} {S' O' : Nat → Prop} (hi : ∀ x ∈ L, x.1 ≠ i) (hx : Ext w w') (hf : IsFs S' O' (Nw (fun k => k < w.heap.size) w w') w' p' m) (hS : ∀ k, S' k → Nu w w' k ∧ ¬ O' k) (hO : ∀ k, O' k → Nu w w' k) : Pile w0 w' ((i, .fs p' m) :: L) := by
  have hs := hx.size
  exact h.add hx hi ⟨S', O', hf.mono (fun _ h => h) (fun k hk => by rcases hk with hk | hk <;> omega), hO, hS⟩
/-- A file that has been read: its block, its data. -/
theorem Pile.addFile {w0 w w1 w2 : World} {L : List (Nat × Ent)} (h : Pile w0 w L) (i j : Nat) (hij : i ≠ j) {o : Obj} {v : Value} {l : B8} {R : Nat → Prop} (hi : ∀ x ∈ L, x.1 ≠ i ∧ x.1 ≠ j) (hx : Ext w w1) (hd : IsData R w1 v l) (hx2 : Ext w1 w2) (hb : w2.heap[w1.heap.size]? = some o) (hs : w1.heap.size < w2.heap.size) : Pile w0 w2 ((i, .blk w1.heap.size o) :: (j, .dat v l) :: L) := by
  have h1 : Pile w0 w1 ((j, .dat v l) :: L) := h.add hx (fun x hx => (hi x hx).2) (e := .dat v l) ⟨hd.bytes, hd.typed⟩
  refine h1.add hx2 (fun x hm => ?_) (e := .blk w1.heap.size o) ⟨hb, Nat.le_refl _, hs⟩
  rcases List.mem_cons.1 hm with rfl | hm
  · exact hij.symm
  · exact (hi x hm).1
theorem Pile.addRef {w0 w w' : World} {L : List (Nat × Ent)} (h : Pile w0 w L) (i : Nat) {m : Fs} {q : Value} (hi : ∀ x ∈ L, x.1 ≠ i) (hx : Ext w w') (hf : IsRef (Nu w w') (fun _ => False) w' q m) : Pile w0 w' ((i, .ref q m) :: L) :=
  h.add hx hi ⟨Nu w w', hf.mono (fun _ h => h) (fun _ h => h.elim), fun k hk => hk⟩
theorem Pile.addRow {w0 w w' : World} {L : List (Nat × Ent)} (h : Pile w0 w L) (i : Nat) {e : TypeId} {size : Nat} {v : Value} {n : Nat} {xs : List Value} (hi : ∀ x ∈ L, x.1 ≠ i) (hx : Ext w w') (hr : w'.ownsRow w.heap.size e size v n xs) : Pile w0 w' ((i, .row e size v n xs) :: L) :=
  h.add hx hi (e := .row e size v n xs) ⟨hr.mono (Nat.zero_le _), fun k hk => hr.lt k hk⟩
/-- A row has grown. -/
theorem Pile.growRow {w0 w w' : World} {L : List (Nat × Ent)} (h : Pile w0 w L) (i : Nat) {e : TypeId} {size : Nat} {v v' : Value} {n n' : Nat} {xs xs' : List Value} (hi : (i, .row e size v n xs) ∈ L) (hne : holdsT Tryz.prog 5 Tryz.prog.depth e = false)
    (hr : w'.ownsRow 0 e size v' n' xs') (hg : w.grownBy w' v.ownBlock) (hv : ∀ k, v'.ownBlock = some k → v.ownBlock = some k ∨ w.heap.size ≤ k) (L' : List (Nat × Ent)) (hL : ∀ x ∈ L', x = (i, .row e size v' n' xs') ∨ (x ∈ L ∧ x.1 ≠ i)) : Pile w0 w' L' := by
  obtain ⟨h0, own, h1⟩ := h
  obtain ⟨ho, hB⟩ := h1 _ hi
  have hs0 := h0.size
  have hs := hg.size
  have hkeep : KeepB w w' := by
    rcases ho.2 with ⟨rfl, _⟩ | ⟨g, cap, cur, rfl, _, hgg, _⟩
    · exact ⟨hg.size, fun k hk => hg.block k hk.lt (by simp [Value.ownBlock])⟩
    · exact KeepB.of_grown (t := e) hg hgg hne
  refine ⟨Below.grown h0 hg hs0 (fun k hk => (hB k hk).2.1), fun k => if k < w.heap.size then own k else i, fun x hm => ?_⟩
  rcases hL x hm with rfl | ⟨hx, hxi⟩
  · refine ⟨hr, fun k hk => ?_⟩
    have hlt := (hr.lt k hk).2
    rcases hv k hk with h9 | h9
    · have := hB k h9
      exact ⟨by show (if k < w.heap.size then own k else i) = i; rw [if_pos this.2.2]; exact this.1, this.2.1, hlt⟩
    · exact ⟨by show (if k < w.heap.size then own k else i) = i; rw [if_neg (by omega)], by omega, hlt⟩
  · refine (h1 x hx).keep (fun k hk => hg.block k hk.2.2 (fun he => hxi (hk.1.symm.trans (hB k he.symm).1))) hkeep (fun k hk => ⟨?_, hk.2.1, by have := hk.2.2; omega⟩)
    show (if k < w.heap.size then own k else i) = x.1
    rw [if_pos hk.2.2]; exact hk.1
/-- One is taken out to work; what it leaves is laid back. -/
theorem Pile.take {w0 w : World} {L : List (Nat × Ent)} (h : Pile w0 w L) (i : Nat) {f : Value} {m : Fs} (hi : (i, .fs f m) ∈ L) :
    ∃ S O : Nat → Prop, One w0 S O w f m ∧ ∀ (m' : Fs) (w' : World) (S1 O1 : Nat → Prop) (L' : List (Nat × Ent)), IsFs S1 O1 (Nw (fun k => k < w.heap.size) w w') w' f m' → Fr O w w' →
      (∀ k, O1 k → (O k ∨ S k ∨ w.heap.size ≤ k) ∧ k < w'.heap.size) → (∀ k, S1 k → (O k ∨ S k ∨ w.heap.size ≤ k) ∧ k < w'.heap.size ∧ ¬ O1 k) → (∀ x ∈ L', x = (i, .fs f m') ∨ (x ∈ L ∧ x.1 ≠ i)) → Pile w0 w' L' := by
  obtain ⟨h0, own, h1⟩ := h
  obtain ⟨S, O, hf, hO, hS⟩ := h1 _ hi
  have hs0 := h0.size
  refine ⟨S, O, ⟨h0, hf, fun k hk => (hO k hk).2, fun k hk => (hS k hk).1.2, fun k hk => (hS k hk).2⟩, fun m' w' S1 O1 L' hf' hfr hO1 hS1 hL => ?_⟩
  have hs := hfr.size
  refine ⟨Ext.of_fr h0 hfr (fun k hk => (hO k hk).2.1), fun k => if k < w.heap.size then own k else i, fun x hm => ?_⟩
  have hin : ∀ k, (O k ∨ S k ∨ w.heap.size ≤ k) → (if k < w.heap.size then own k else i) = i ∧ w0.heap.size ≤ k := by
    intro k hk
    rcases hk with hk | hk | hk
    · have := hO k hk; rw [if_pos this.2.2]; exact ⟨this.1, this.2.1⟩
    · have := (hS k hk).1; rw [if_pos this.2.2]; exact ⟨this.1, this.2.1⟩
    · rw [if_neg (by omega)]; exact ⟨rfl, by omega⟩
  rcases hL x hm with rfl | ⟨hx, hne⟩
  · exact ⟨S1, O1, hf'.mono (fun _ h => h) (fun k hk => by rcases hk with hk | hk <;> omega), fun k hk => ⟨(hin k (hO1 k hk).1).1, (hin k (hO1 k hk).1).2, (hO1 k hk).2⟩, fun k hk => ⟨⟨(hin k (hS1 k hk).1).1, (hin k (hS1 k hk).1).2, (hS1 k hk).2.1⟩, (hS1 k hk).2.2⟩⟩
  · refine (h1 x hx).keep (fun k hk => hfr.block k hk.2.2 (.inl fun ho => hne (hk.1.symm.trans (hO k ho).1))) hfr.keep (fun k hk => ⟨?_, hk.2.1, by have := hk.2.2; omega⟩)
    show (if k < w.heap.size then own k else i) = x.1
    rw [if_pos hk.2.2]; exact hk.1
theorem Pile.post {w0 w : World} {L : List (Nat × Ent)} (h : Pile w0 w L) (i : Nat) {f : Value} {m : Fs} (hi : (i, .fs f m) ∈ L) :
    ∃ S O : Nat → Prop, One w0 S O w f m ∧ (∀ (m' : Fs) (w' : World) (L' : List (Nat × Ent)), FsPost S O (fun k => k < w.heap.size) w f m' w' → (∀ x ∈ L', x = (i, .fs f m') ∨ (x ∈ L ∧ x.1 ≠ i)) → Pile w0 w' L') ∧
      (∀ (m' : Fs) (w' : World) (L' : List (Nat × Ent)), IsFs (Nu w w') O (Nw (fun k => k < w.heap.size) w w') w' f m' → Fr O w w' → (∀ x ∈ L', x = (i, .fs f m') ∨ (x ∈ L ∧ x.1 ≠ i)) → Pile w0 w' L') := by
  obtain ⟨S, O, h1, h2⟩ := h.take i hi
  refine ⟨S, O, h1, fun m' w' L' hp hL => ?_, fun m' w' L' hp hfr hL => ?_⟩
  · have hs := hp.fr.size
    refine h2 m' w' S (Nw O w w') L' hp.fs hp.fr (fun k hk => ?_) (fun k hk => ?_) hL
    · rcases hk with hk | hk
      · have := h1.lo k hk; exact ⟨.inl hk, by omega⟩
      · exact ⟨.inr (.inr hk.1), hk.2⟩
    · have := h1.loS k hk
      refine ⟨.inr (.inl hk), by omega, fun ho => ?_⟩
      rcases ho with ho | ho
      · exact h1.disS k hk ho
      · omega
  · have hs := hfr.size
    refine h2 m' w' (Nu w w') O L' hp hfr (fun k hk => ?_) (fun k hk => ?_) hL
    · have := h1.lo k hk; exact ⟨.inl hk, by omega⟩
    · exact ⟨.inr (.inr hk.1), hk.2, fun ho => by have := h1.lo k ho; have := hk.1; omega⟩

open Classical in
/-- Two of them are taken out: one of each kind. -/
theorem Pile.two {w0 w : World} {L : List (Nat × Ent)} (h : Pile w0 w L) (hb : Ext baseW w0) (i j : Nat) (hij : i ≠ j) {f x : Value} {m m2 : Fs} (hi : (i, .fs f m) ∈ L) (hj : (j, .ref x m2) ∈ L) :
    ∃ S O O' : Nat → Prop, Two2 w0 S O O' w f x m m2 ∧ ∀ (m' m2' : Fs) (w' : World) (L' : List (Nat × Ent)), TwoPost w0 S O O' f x m' m2' w w' →
      (∀ y ∈ L', y = (i, .fs f m') ∨ y = (j, .ref x m2') ∨ (y ∈ L ∧ y.1 ≠ i ∧ y.1 ≠ j)) → Pile w0 w' L' := by
  obtain ⟨h0, own, h1⟩ := h
  obtain ⟨S, O, hf, hO, hS⟩ := h1 _ hi
  obtain ⟨O', hr, hO'⟩ := h1 _ hj
  refine ⟨S, O, O', ⟨hb, h0, hf, hr, fun k hk => (hO k hk).2, fun k hk => (hO' k hk).2, fun k hk => (hS k hk).1.2, fun k h1 h2 => hij ((hO k h1).1.symm.trans (hO' k h2).1), fun k hk => ⟨(hS k hk).2, fun h2 => hij ((hS k hk).1.1.symm.trans (hO' k h2).1)⟩⟩, fun m' m2' w' L' hp hL => ?_⟩
  obtain ⟨S1, O1, O1', hT, hin, hfr⟩ := hp
  have hold : ∀ k, k < w.heap.size → S1 k ∨ O1 k ∨ O1' k → own k = i ∨ own k = j := fun k hk hh => by
    rcases hin k hh with (hh | hh | hh) | hh
    · exact .inl (hS k hh).1.1
    · exact .inl (hO k hh).1
    · exact .inr (hO' k hh).1
    · omega
  refine ⟨hT.ext, fun k => if O1' k then j else if S1 k ∨ O1 k then i else own k, fun y hy => ?_⟩
  rcases hL y hy with rfl | rfl | ⟨hy, hyi, hyj⟩
  · refine ⟨S1, O1, hT.fs, fun k hk => ⟨?_, hT.lo k hk⟩, fun k hk => ⟨⟨?_, hT.loS k hk⟩, (hT.disS k hk).1⟩⟩
    · show (if O1' k then j else if S1 k ∨ O1 k then i else own k) = i
      rw [if_neg (hT.dis k hk), if_pos (.inr hk)]
    · show (if O1' k then j else if S1 k ∨ O1 k then i else own k) = i
      rw [if_neg (hT.disS k hk).2, if_pos (.inl hk)]
  · refine ⟨O1', hT.ref, fun k hk => ⟨?_, hT.lo' k hk⟩⟩
    show (if O1' k then j else if S1 k ∨ O1 k then i else own k) = j
    rw [if_pos hk]
  · have hs := hfr.size
    refine (h1 y hy).keep (fun k hk => hfr.block k hk.2.2 (.inl fun ho => ?_)) hfr.keep (fun k hk => ⟨?_, hk.2.1, by have := hk.2.2; omega⟩)
    · rcases ho with ho | ho
      · exact hyi (hk.1.symm.trans (hO k ho).1)
      · exact hyj (hk.1.symm.trans (hO' k ho).1)
    · show (if O1' k then j else if S1 k ∨ O1 k then i else own k) = y.1
      have hne : ¬ (S1 k ∨ O1 k ∨ O1' k) := fun hh => by
        rcases hold k hk.2.2 hh with e | e
        · exact hyi (hk.1.symm.trans e)
        · exact hyj (hk.1.symm.trans e)
      rw [if_neg (fun h => hne (.inr (.inr h))), if_neg (fun h => hne (h.imp id .inl))]
      exact hk.1
theorem Pile.ofTwo {w0 w : World} {S O O' : Nat → Prop} {f x : Value} {m m2 : Fs} (h : Two2 w0 S O O' w f x m m2) (i j : Nat) (hij : i ≠ j) : Pile w0 w [(i, .fs f m), (j, .ref x m2)] := by
  classical
  refine ⟨h.ext, fun k => if O' k then j else i, fun y hy => ?_⟩
  rcases List.mem_cons.1 hy with rfl | hy
  · refine ⟨S, O, h.fs, fun k hk => ⟨?_, h.lo k hk⟩, fun k hk => ⟨⟨?_, h.loS k hk⟩, (h.disS k hk).1⟩⟩
    · show (if O' k then j else i) = i
      rw [if_neg (h.dis k hk)]
    · show (if O' k then j else i) = i
      rw [if_neg (h.disS k hk).2]
  · rw [List.mem_singleton.1 hy]
    refine ⟨O', h.ref, fun k hk => ⟨?_, h.lo' k hk⟩⟩
    show (if O' k then j else i) = j
    rw [if_pos hk]

end Go.Proofs.YtoajnaopainpnaaGreatDoor

/-! marlaw5.Played: a file system behind operations. Conditions: as each theorem states. -/
namespace Go.Proofs.YtoajnaopainpnaaGreatDoor
open Go Go.RowKit
variable [Inhabited BaseW]

theorem Two.more {w0 w w' : World} {S O O' : Nat → Prop} {f x : Value} {m : Fs} (h : Two w0 S O O' w f x m) (hx : Ext w w') : Two w0 S O O' w' f x m := by
  have hs := hx.size
  exact ⟨h.base, h.ext.trans hx, (h.fs.ext hx).mono (fun _ h => h) (fun k hk => Nat.lt_of_lt_of_le hk hs), (h.ref.ext hx).mono (fun _ h => h) (fun k hk => Nat.lt_of_lt_of_le hk hs), fun k hk => by have := h.lo k hk; omega, fun k hk => by have := h.lo' k hk; omega, fun k hk => by have := h.loS k hk; omega, h.dis, h.disS⟩
theorem Two.new {w w1 w2 : World} {p q : Value} {room : Int} (h : IsFs (fun _ => False) (Nu w w1) (fun _ => False) w1 p (newM room)) (hx : Ext w w1) (h2 : IsRef (Nu w1 w2) (fun _ => False) w2 q (newM room)) (hx2 : Ext w1 w2) (hb : Ext baseW w) : Two w (fun _ => False) (Nu w w1) (Nu w1 w2) w2 p q (newM room) := by
  have hs := hx.size
  have hs2 := hx2.size
  exact ⟨hb, hx.trans hx2, (h.ext hx2).mono (fun _ h => h) (fun _ h => h.elim), h2.mono (fun _ h => h) (fun _ h => h.elim), fun k hk => by have := hk.1; have := hk.2; omega, fun k hk => by have := hk.1; have := hk.2; omega, fun _ hk => hk.elim, fun k h1 h2 => by have := h1.2; have := h2.1; omega, fun _ hk => hk.elim⟩
theorem Two.base {w w0 w1 : World} {S O O' : Nat → Prop} {f x : Value} {m : Fs} (h : Two w0 S O O' w1 f x m) (hx : Ext w w0) (hb : Ext baseW w) : Two w S O O' w1 f x m := by
  have hs := hx.size
  exact ⟨hb, hx.trans h.ext, h.fs, h.ref, fun k hk => by have := h.lo k hk; omega, fun k hk => by have := h.lo' k hk; omega, fun k hk => by have := h.loS k hk; omega, h.dis, h.disS⟩
theorem Two.one {w0 w : World} {S O O' : Nat → Prop} {f x : Value} {m : Fs} (h : Two w0 S O O' w f x m) : One w0 S O w f m := ⟨h.ext, h.fs, h.lo, h.loS, fun k hk => (h.disS k hk).1⟩

theorem IsOpn.ext {w w' : World} {cs : List Value} {o : Opn} (h : IsOpn w cs o) (hx : Ext w w') : IsOpn w' cs o := by
  obtain ⟨vd, vp, rfl, h1, h2⟩ := h
  exact ⟨vd, vp, rfl, h1, h2.dExt hx⟩
theorem IsOps.ext {w w' : World} {v : Value} {l : List Opn} (h : IsOps w v l) (hx : Ext w w') : IsOps w' v l :=
  (h.stay hx.size (fun hn k hk => hx.block k (h.lt hn k hk))).mono (fun c x hc => hc.ext hx)
theorem play_snoc {room : Int} {l : List Opn} {k : Nat} {o : Opn} (h : l[k]? = some o) : playM room (l.take (k + 1)) = stepM (playM room (l.take k)) o := by
  obtain ⟨hlt, rfl⟩ := (List.getElem?_eq_some_iff.1 h)
  unfold playM
  rw [List.take_succ_eq_append_getElem hlt, List.foldl_append]
  rfl
/-- What the loop holds. -/
def PRel (w0 w : World) (fv xv : Value) (m : Fs) (k : Nat) : Prop := ∃ S O O' : Nat → Prop, Two w0 S O O' w fv xv m ∧ Good k m ∧ FineM m
theorem fine_new {room : Int} (h0 : 0 ≤ room) : FineM (newM room) := fineM_of rfl (Fine.nil h0)
def PlayedPost (w : World) (room : Int) (l : List Opn) (e : Ending) (w' : World) : Prop :=
  (e = .returned (.pointer none) ∨ ∃ (g : Nat) (S O : Nat → Prop), e = .returned (.pointer (some ⟨g, 0, none⟩)) ∧ One w S O w' (.pointer (some ⟨g, 0, none⟩)) (playM room l) ∧ Good 100 (playM room l) ∧ FineM (playM room l) ∧ (playM room l).room = room) ∧ Ext w w'

set_option maxRecDepth 100000 in
set_option maxHeartbeats 4000000 in
theorem played_any (room : Int) (v : Value) (l : List Opn) (w : World) (hb : Ext baseW w) (hE : Env w) (hv : IsOps w v l) (hi : ∀ o ∈ l, I64 o.keep ∧ I64 o.torn ∧ ∀ e ∈ o.plan, I64 e.keep ∧ I64 e.torn) :
    Calls Tryz.prog 11 #[.int .i64 room, v] w fun e w' => PlayedPost w room l e w' := by
  obtain ⟨a, cap, rfl, h1, h2, h3, h4⟩ := ops_cells hv
  have HV : Hid _ := hv
  have H4 : Hid _ := h4
  have HI : Hid _ := hi
  have HE : Hid _ := hE
  have HB : Hid _ := hb
  clear h4 hv hi hE hb
  go_enter Tryz.func11, Tryz.ntmps11
  go_wp2_with fail
  go_at_call 20
  by_cases hroom : room < 0 ∨ 1073741824 < room
  · refine (new_no room _ hroom).mono ?_
    rintro e w2 ⟨rfl, rfl⟩
    go_wp2_with fail
    go_at_call 21
    refine (newR_no room _ hroom).mono ?_
    rintro e w2 ⟨rfl, rfl⟩
    go_wp2
    go_ret
    exact ⟨.inl rfl, Ext.refl _⟩
  · have hr0 : 0 ≤ room := by omega
    have hr1 : room ≤ 1073741824 := by omega
    refine (new_yes room _ hr0 hr1).mono ?_
    rintro e w2 ⟨⟨p, rfl, hf⟩, hx2⟩
    go_wp2_with fail
    go_at_call 21
    refine (newR_yes room _ hr0 hr1).mono ?_
    rintro e w3 ⟨⟨q, rfl, hq⟩, hx3⟩
    have HT : Hid _ := Two.new hf hx2 hq hx3 HB.out
    obtain ⟨gf, rfl⟩ : ∃ g, p = .pointer (some ⟨g, 0, none⟩) := by
      obtain ⟨g, gm, gd, vp, vl, vu, L, c0, hpe, -⟩ := hf
      exact ⟨g, hpe⟩
    obtain ⟨gx, rfl⟩ := hq.ptr
    have HG0 : Hid (Good 0 (newM room)) := good_new hr0 hr1
    have HF0 : Hid (FineM (newM room)) := fine_new hr0
    have hx13 := hx2.trans hx3
    clear hf hq hx2 hx3
    go_wp2_with fail
    go_at_call 22
    refine (fewOps_any hx13 HV.out).mono ?_
    obtain ⟨fe, hfe⟩ : ∃ fe, fewOps l = fe := ⟨_, rfl⟩
    rw [hfe]
    have HFE : Hid _ := hfe
    clear hfe
    rintro e w4 ⟨rfl, hx4⟩
    cases fe with
    | false =>
      go_wp2
      go_ret
      exact ⟨.inl rfl, hx13.trans hx4⟩
    | true =>
      have HFEW : Hid _ := few_ops HFE.out HI.out
      have hl100 := HFEW.out.1
      go_wp2_with fail
      go_loopw [9] (fun i wr => ∃ k : Nat, k ≤ l.length ∧ i = .int .i64 k ∧ Hid (PRel w wr (.pointer (some ⟨gf, 0, none⟩)) (.pointer (some ⟨gx, 0, none⟩)) (playM room (l.take k)) k)) (fun i _ => l.length - (intOf i).toNat)
      case atStart => exact ⟨0, Nat.zero_le _, rfl, _, _, _, Two.more HT.out hx4, HG0.out, HF0.out⟩
      case round =>
        obtain ⟨k, hk, rfl, hC⟩ := hrel
        by_cases hlt : k < l.length
        · obtain ⟨E, he⟩ : ∃ e, l[k]? = some e := ⟨_, List.getElem?_eq_getElem hlt⟩
          obtain ⟨b, o, cs, rfl, hop, hc⟩ := H4.out k E he
          have HOP : Hid _ := hop
          have HOK : Hid (OpOk E) := HFEW.out.2 E (List.mem_of_getElem? he)
          obtain ⟨vd, vp, rfl, hd, hpl⟩ := hop
          obtain ⟨s1, s2, rfl, -⟩ := id hd.bytes
          obtain ⟨_, ⟨p1, p2, rfl, -⟩, -⟩ := id hpl
          obtain ⟨S, O, O', hT, hG, hP⟩ := hC.out
          have hxw := hT.ext
          have c0 := hxw.cell (hc 0 _ rfl)
          have c1 := hxw.cell (hc 1 _ rfl)
          have c2 := hxw.cell (hc 2 _ rfl)
          have c3 := hxw.cell (hc 3 _ rfl)
          have c4 := hxw.cell (hc 4 _ rfl)
          have c5 := hxw.cell (hc 5 _ rfl)
          have c6 := hxw.cell (hc 6 _ rfl)
          have c7 := hxw.cell (hc 7 _ rfl)
          simp only [Nat.add_zero] at c0
          have HT1 : Hid _ := hT
          have HG : Hid _ := hG
          have HP : Hid _ := hP
          have HL : Hid _ := he
          clear hT hG hP hpl hd hc he hC hxw
          go_wp2_with fail
          go_at_call 25
          refine (doesOp_any HT1.out HE.out HG.out (by omega) HOP.out HOK.out).mono ?_
          rintro e w6 ⟨rfl, S1, O1, O1', hT6, -, hfr⟩
          have HT6 : Hid _ := hT6
          clear hT6 hfr
          go_wp2
          go_roundw
          case rel => exact ⟨k + 1, by omega, by go_num, _, _, _, by rw [play_snoc HL.out]; exact HT6.out, by rw [play_snoc HL.out]; exact step_good HG.out HOK.out, by rw [play_snoc HL.out]; exact step_fine HG.out HP.out⟩
          case measure => simp [intOf]; omega
        · have hkk : k = l.length := by omega
          subst hkk
          obtain ⟨S, O, O', hT, hG, hP⟩ := hC.out
          rw [List.take_length] at hT hG hP
          have HT1 : Hid _ := hT
          have HG : Hid _ := Good.mono hG hl100
          have HP : Hid _ := hP
          clear hT hG hP hC
          go_wp2
          go_ret
          exact ⟨.inr ⟨_, _, _, rfl, Two.one HT1.out, HG.out, HP.out, play_room l HG0.out HFEW.out.2⟩, HT1.out.ext⟩

end Go.Proofs.YtoajnaopainpnaaGreatDoor

/-! marlaw5: what comes in: operations, by their fields, their slices, their events, read as the texts say. Conditions: what one slice may hold. -/
namespace Go.Proofs.YtoajnaopainpnaaGreatDoor
open Go Go.ChangeShapes Go.WideShapes Go.ChangeAt Go.RowKit Go.Deep

theorem own : ownKnob Tryz.prog.godebug = none := by kernel_rfl
theorem laidOut : laidOutB Tryz.prog = true := by kernel_rfl
theorem cellsU8 : Tryz.prog.cellsOf 5 = 1 := by kernel_rfl
theorem bytesU8 : Tryz.prog.bytesOf 5 = 1 := by kernel_rfl
theorem env_of {W : World} (hs : W.ShapedOpen Tryz.prog) : Env W :=
  ⟨Go.Proofs.cell_of_shapedOpen_int (zero := #[.int .i64 0]) (t := 3) hs (of_decide_eq_true (by kernel_rfl)) (by kernel_rfl) rfl (by kernel_rfl) (by kernel_rfl) Tryz.underlying3⟩

theorem byte_wf {x : Int} (h : (Lit.int .u8 x).wf = true) : 0 ≤ x ∧ x < 256 := by
  have h1 : IntKind.u8.min = 0 := rfl
  have h2 : IntKind.u8.max = 255 := rfl
  simp only [Lit.wf, Bool.and_eq_true, decide_eq_true_eq] at h
  omega
theorem trodAll_below (hl : laidOutB Tryz.prog = true) {H : Type} {enc : TypeId × Value → H} {W W' : World} (hb : Below W.heap.size W W') : ∀ {ts : List TypeId} {vs : List Value} {ds : List (DataW H)} {ps : List MemPlace}, DataW.TrodAll enc Tryz.prog W 0 (fun _ => true) true ts vs ds ps → (∀ x ∈ ps, x.block < W.heap.size) → (∀ t ∈ ts, Tryz.prog.readableRec t = true ∧ t < Tryz.prog.types.size) →
    DataW.TrodAll enc Tryz.prog W' 0 (fun b => decide (b < W.heap.size)) true ts vs ds ps
  | [], vs, ds, ps, h, _, _ => by
    obtain ⟨rfl, rfl, rfl⟩ := trodAll_nil h
    exact trodAll_mk0
  | t :: ts, vs, ds, ps, h, hlt, hr => by
    obtain ⟨v, vs', d, ds', p, q, rfl, rfl, rfl, h0, h1⟩ := trodAll_cons h
    exact ⟨p, q, Below.trod hl (hr t (by simp)).1 (hr t (by simp)).2 h0 hb (fun x hx => hlt x (by simp [hx])), trodAll_below hl hb h1 (fun x hx => hlt x (by simp [hx])) (fun t ht => hr t (by simp [ht])), rfl⟩

theorem i64_wf {n : Int} (h : (Lit.int .i64 n).wf = true) : I64 n := by
  have h1 : IntKind.i64.min = -9223372036854775808 := rfl
  have h2 : IntKind.i64.max = 9223372036854775807 := rfl
  simp only [Lit.wf, Bool.and_eq_true, decide_eq_true_eq] at h
  unfold I64
  omega

section
variable {H : Type} {enc : TypeId × Value → H} {P : Program} {w : World} {base : Nat} {spare : Nat → Bool} {held : Bool}
theorem slice_fields {t e : TypeId} {fs : Array Field} {fuel : Nat} {cs : List Value} {x : DataW H × List MemPlace} (ht : P.underlying t = some (.slice e)) (he : P.underlying e = some (.struct fs))
    (hone : oneCellFields P fs = true) (hC : P.cellsOf e = fs.size) (h : DataW.trod enc P w base spare held fuel t cs = some x) :
    (cs = [.slice none 0 0] ∧ x = (.nil, [])) ∨
    ∃ (a : Addr) (len cap m : Nat) (D : Nat → DataW H) (Pl : Nat → List MemPlace), cs = [.slice (some a) len cap] ∧ base ≤ a.block ∧ len ≤ cap ∧ cap ≤ maxLen ∧ m = (if spare a.block then cap else len) ∧
      x = (.slice ((List.range len).map D) ((List.range (m - len)).map fun j => D (len + j)), MemPlace.row a (m * fs.size) ++ (List.range m).flatMap Pl) ∧
      ∀ i, i < m → ∃ (ys : List (DataW H × List MemPlace)) (n : Nat), D i = .agg (ys.map (·.1)) ∧ Pl i = ys.flatMap (·.2) ∧ ys.length = fs.size ∧
        ∀ (j : Nat) (f : Field), fs[j]? = some f → ∃ (v : Value) (y : DataW H × List MemPlace), w.cell? (a.add (i * fs.size + j)) = some v ∧ ys[j]? = some y ∧ DataW.trod enc P w base spare held n f.type [v] = some y := by
  rcases open_slice ht h with h0 | ⟨a, len, cap, m, n, D, Pl, hcs, hb, hl, hm, hmm, hx, hi⟩
  · exact .inl h0
  · refine .inr ⟨a, len, cap, m, D, Pl, hcs, hb, hl, hm, hmm, by rw [hC] at hx; exact hx, fun i him => ?_⟩
    obtain ⟨cs', hc, ht'⟩ := hi i him
    rw [hC] at hc
    obtain ⟨ys, n', hn', hy, hlen, hyl, hf⟩ := DataW.trod_struct he ht'
    obtain ⟨_, hcl, hat⟩ := World.cells?_some hc
    simp only [Prod.mk.injEq] at hy
    refine ⟨ys, n', hy.1, hy.2, hyl, fun j f hj => ?_⟩
    obtain ⟨ho, hk⟩ := hone_of hone j f hj
    have hjl : j < fs.size := (Array.getElem?_eq_some_iff.1 hj).1
    have hcell := hat j hjl
    have hv : cs'[j]? = some (cs'[j]'(by omega)) := List.getElem?_eq_getElem (by omega)
    have h1 := hf j f hj
    rw [ho, hk] at h1
    have hone' : (cs'.drop j).take 1 = [cs'[j]'(by omega)] := by
      rw [List.drop_eq_getElem_cons (by omega)]
      rfl
    rw [hone'] at h1
    have hys : ys[j]? = some (ys[j]'(by omega)) := List.getElem?_eq_getElem (by omega)
    refine ⟨_, _, ?_, hys, h1.trans hys⟩
    rw [← Go.Deep.add_add, hcell, hv]

end

/-! ### What one slice may hold, at any depth -/
def Szd {H : Type} (t : TypeId) (d : DataW H) : Prop := ∀ n ∈ d.weights Tryz.prog t, n ≤ reachBytes
theorem szd_arg {H : Type} {ts : List TypeId} {ds : List (DataW H)} {j : Nat} {t : TypeId} {d : DataW H} (h : (DataW.weightsEach Tryz.prog ts ds).all (· ≤ reachBytes) = true) (ht : ts[j]? = some t) (hd : ds[j]? = some d) : Szd t d := fun n hn => by
  have := List.all_eq_true.1 h _ (DataW.weights_mem_each ht hd n hn)
  simpa using this
theorem wAll_mem {H : Type} {P : Program} {e : TypeId} : ∀ {l : List (DataW H)} {d : DataW H}, d ∈ l → ∀ n ∈ d.weights P e, n ∈ DataW.weightsAll P e l
  | d' :: r, d, hd, n, hn => by
    simp only [DataW.weightsAll, List.mem_append]
    rcases List.mem_cons.1 hd with rfl | h
    · exact Or.inl hn
    · exact Or.inr (wAll_mem h n hn)
theorem szd_slice {H : Type} {t q : TypeId} {e s : List (DataW H)} (h : Szd t (.slice e s)) (hu : Tryz.prog.underlying t = some (.slice q)) : (e.length + s.length) * Tryz.prog.bytesOf q ≤ reachBytes ∧ ∀ d ∈ e, Szd q d := by
  refine ⟨h _ (by simp [DataW.weights, hu]), fun d hd n hn => h n ?_⟩
  simp only [DataW.weights, hu, List.mem_cons, List.mem_append]
  exact Or.inr (Or.inl (wAll_mem hd n hn))
theorem szd_agg {H : Type} {t : TypeId} {fs : Array Field} {parts : List (DataW H)} {j : Nat} {f : Field} {d : DataW H} (h : Szd t (.agg parts)) (hu : Tryz.prog.underlying t = some (.struct fs)) (hf : fs[j]? = some f) (hd : parts[j]? = some d) : Szd f.type d := fun n hn => by
  refine h n ?_
  simp only [DataW.weights, hu]
  refine DataW.weights_mem_each (j := j) ?_ hd n hn
  rw [List.getElem?_map, Array.getElem?_toList, hf]
  rfl

section
variable {H : Type} {enc : TypeId × Value → H} {W : World}
theorem trod_i64 {n : Nat} {v : Value} {y : DataW H × List MemPlace} (h : DataW.trod enc Tryz.prog W 0 (fun _ => true) true n 3 [v] = some y) : ∃ z, v = .int .i64 z ∧ I64 z := by
  obtain ⟨z, hc, -, hw⟩ := DataW.trod_int Tryz.underlying3 h
  simp only [List.cons.injEq, and_true] at hc
  exact ⟨z, hc, i64_wf hw⟩
theorem trod_s8 {n : Nat} {v : Value} {y : DataW H × List MemPlace} (h : DataW.trod enc Tryz.prog W 0 (fun _ => true) true n 9 [v] = some y) : ∃ l : B8, v = S8 l := by
  obtain ⟨s, hc, -, -⟩ := DataW.trod_string Tryz.underlying9 h
  simp only [List.cons.injEq, and_true] at hc
  exact ⟨s.data.toList, hc⟩

theorem row_of_cells {a : Addr} {len cap : Nat} {cs : List Value} (hl : len ≤ cap) (hm : cap ≤ maxLen) (hn : len ≤ 140737488355328) (hc : ∀ i u, cs[i]? = some u → W.cell? (a.add i) = some u) : Row W (.slice (some a) len cap) len cs := by
  unfold maxLen at hm
  refine ⟨some a, cap, rfl, hl, by omega, hn, fun hne => ?_⟩
  obtain ⟨x, r, rfl⟩ : ∃ x r, cs = x :: r := by
    cases cs with
    | nil => exact (hne rfl).elim
    | cons x r => exact ⟨x, r, rfl⟩
  have hspot : a.spot = none := by
    have := World.cell?_spot (hc 0 x rfl)
    simpa [Addr.add] using this
  obtain ⟨b, o, sp⟩ := a
  simp only at hspot
  subst hspot
  refine ⟨b, o, rfl, fun i u hu => ?_⟩
  have hadd : (⟨b, o, none⟩ : Addr).add i = ⟨b, o + i, none⟩ := by unfold Addr.add; split <;> simp_all
  rw [← hadd]
  exact hc i u hu


theorem trod_bytes {n : Nat} {v : Value} {y : DataW H × List MemPlace} (h : DataW.trod enc Tryz.prog W 0 (fun _ => true) true n 28 [v] = some y) (hb : Szd 28 y.1) : ∃ l : B8, IsBytes W v l := by
  rcases open_ints Tryz.underlying28 Tryz.underlying5 cellsU8 h with ⟨hcs, hx⟩ | ⟨a, len, cap, zs, hcs, _, hl, hm, hz, rfl, hcell, hwz⟩
  · simp only [List.cons.injEq, and_true] at hcs
    subst hcs
    exact ⟨[], Row.nil _⟩
  · simp only [List.cons.injEq, and_true] at hcs
    subst hcs
    simp only [if_true] at hz
    have hs := (szd_slice hb Tryz.underlying28).1
    rw [bytesU8] at hs
    have hr := reachBytes_lt
    simp only [lits, List.length_map, List.length_take, List.length_drop, Nat.mul_one] at hs
    have hlen : len ≤ 140737488355328 := by omega
    refine ⟨(zs.take len).map fun z => UInt8.ofNat z.toNat, ?_⟩
    have hll : ((zs.take len).map fun z => UInt8.ofNat z.toNat).length = len := by simp; omega
    unfold IsBytes
    rw [hll]
    refine row_of_cells hl hm hlen fun i u hu => ?_
    have hi : i < len := by
      have := (List.getElem?_eq_some_iff.1 hu).1
      simp at this
      omega
    have hc := hcell i (by omega)
    rw [hc, ← hu]
    have hzi : zs[i]? = some zs[i] := List.getElem?_eq_getElem (by omega)
    have hw := byte_wf (hwz zs[i] (List.getElem_mem (by omega)))
    rw [List.getElem?_map, List.getElem?_map, List.getElem?_take_of_lt hi, hzi]
    simp only [Option.map_some, List.getD_eq_getElem?_getD, hzi, Option.getD_some, Option.some.injEq, Value.int.injEq, true_and, UInt8.toNat_ofNat']
    omega
theorem row_low {w : World} {v : Value} {n : Nat} {cs : List Value} (h : Row w v n cs) (hn : cs ≠ []) : ∀ k, v.ownBlock = some k → k < w.heap.size := by
  obtain ⟨a, cap, rfl, h1, h2, h3, h4⟩ := h
  obtain ⟨b, o, rfl, hc⟩ := h4 hn
  intro k hk
  cases cs with
  | nil => exact (hn rfl).elim
  | cons x r =>
    have := World.block_lt_of_cell? _ _ (hc 0 x rfl)
    have hb : b = k := by simpa [Value.ownBlock] using hk
    subst hb
    exact this
theorem oldB_of [Inhabited BaseW] {v : Value} {l : B8} (h : IsBytes baseW v l) : OldB v l := by
  refine ⟨h, fun a n c he hn => row_low h ?_ a.block (by rw [he]; rfl)⟩
  obtain ⟨a', cap, hv, -⟩ := h
  rw [he] at hv
  simp only [Value.slice.injEq] at hv
  intro h0
  have := congrArg List.length h0
  simp at this
  rw [this] at hv
  exact hn hv.2.1

theorem flat_inv (m : Nat) (hm : 0 < m) (css : List (List Value)) (h : ∀ c ∈ css, c.length = m) (q : Nat) (u : Value) (hq : css.flatten[q]? = some u) : ∃ c, css[q / m]? = some c ∧ c[q % m]? = some u := by
  induction css generalizing q with
  | nil => simp at hq
  | cons c r ih =>
    have hc := h c (by simp)
    by_cases hl : q < m
    · refine ⟨c, by rw [Nat.div_eq_of_lt hl]; rfl, ?_⟩
      rw [Nat.mod_eq_of_lt hl]
      simpa [List.flatten_cons, List.getElem?_append_left (show q < c.length by omega)] using hq
    · rw [List.flatten_cons, List.getElem?_append_right (by omega), hc] at hq
      obtain ⟨d, h1, h2⟩ := ih (fun x hx => h x (by simp [hx])) (q - m) hq
      refine ⟨d, ?_, ?_⟩
      · have : q / m = (q - m) / m + 1 := by
          rw [Nat.div_eq_sub_div hm (by omega)]
        rw [this]
        exact h1
      · rw [Nat.mod_eq_sub_mod (by omega)]
        exact h2


theorem one_ev : oneCellFields Tryz.prog (match Tryz.prog.underlying 63 with | some (.struct fs) => fs | _ => #[]) = true := by kernel_rfl
theorem cells_ev : Tryz.prog.cellsOf 63 = 7 := by kernel_rfl
theorem one_op : oneCellFields Tryz.prog (match Tryz.prog.underlying 48 with | some (.struct fs) => fs | _ => #[]) = true := by kernel_rfl
theorem cells_opn : Tryz.prog.cellsOf 48 = 8 := by kernel_rfl
theorem bytes_ev : 1 ≤ Tryz.prog.bytesOf 63 := of_decide_eq_true (by kernel_rfl)
theorem bytes_opn : 1 ≤ Tryz.prog.bytesOf 48 := of_decide_eq_true (by kernel_rfl)
theorem mul_ge {a b c : Nat} (h : a * b ≤ c) (hb : 1 ≤ b) : a ≤ c := Nat.le_trans (Nat.le_mul_of_pos_right a hb) h
/-- A slice of structs, from what each row says. -/
theorem readO_of {α : Type} (m : Nat) (hm0 : 0 < m) {a : Addr} {len cap : Nat} (d0 : List Value × α) (hl : len ≤ cap) (hm : cap ≤ maxLen) (hn : len ≤ 140737488355328) {p : List Value → α → Prop} (hp : ∀ c x, p c x → c.length = m)
    (key : ∀ i, i < len → ∃ ce : List Value × α, p ce.1 ce.2 ∧ ∀ j u, ce.1[j]? = some u → W.cell? (a.add (i * m + j)) = some u) : ∃ xs : List α, ReadO W p (.slice (some a) len cap) xs ∧ xs.length = len ∧ ∀ x ∈ xs, ∃ c, p c x := by
  have key2 : ∀ i, ∃ ce : List Value × α, i < len → p ce.1 ce.2 ∧ ∀ j u, ce.1[j]? = some u → W.cell? (a.add (i * m + j)) = some u := fun i => by
    by_cases h : i < len
    · obtain ⟨ce, h1⟩ := key i h
      exact ⟨ce, fun _ => h1⟩
    · exact ⟨d0, fun hc => (h hc).elim⟩
  have CE := fun i => (key2 i).choose_spec
  generalize hce : (fun i => (key2 i).choose) = ce at CE
  have CE' : ∀ i, i < len → p (ce i).1 (ce i).2 ∧ ∀ j u, (ce i).1[j]? = some u → W.cell? (a.add (i * m + j)) = some u := fun i hil => by
    have := CE i hil
    rw [← hce]
    exact this
  have hget : ∀ (i : Nat) c, ((List.range len).map fun i => (ce i).1)[i]? = some c → i < len ∧ c = (ce i).1 := fun i c hc => by
    have hil := (List.getElem?_eq_some_iff.1 hc).1
    simp only [List.length_map, List.length_range] at hil
    refine ⟨hil, ?_⟩
    rw [List.getElem?_map, List.getElem?_range hil] at hc
    exact (Option.some.inj hc).symm
  have hrow : Row W (.slice (some a) len cap) len ((List.range len).map fun i => (ce i).1).flatten := by
    refine row_of_cells hl hm hn fun q u hq => ?_
    obtain ⟨c, hc, hu⟩ := flat_inv m hm0 _ (fun c hc => by
      obtain ⟨i, hir, rfl⟩ := List.mem_map.1 hc
      exact hp _ _ (CE' i (by simpa using hir)).1) q u hq
    obtain ⟨hil, rfl⟩ := hget _ _ hc
    have := (CE' _ hil).2 _ u hu
    rwa [show q / m * m + q % m = q by rw [Nat.mul_comm]; exact Nat.div_add_mod q m] at this
  refine ⟨(List.range len).map fun i => (ce i).2, ⟨(List.range len).map fun i => (ce i).1, by rw [List.length_map, List.length_range]; exact hrow, fun hne => ?_, by simp, fun i c e hc he => ?_⟩, by simp, fun x hx => ?_⟩
  · refine row_low hrow fun h0 => ?_
    have hlen : 0 < len := by
      cases len with
      | zero => exact (hne rfl).elim
      | succ n => omega
    have h1 := hp _ _ (CE' 0 hlen).1
    have h2 : ((List.range len).map fun i => (ce i).1)[0]? = some (ce 0).1 := by rw [List.getElem?_map, List.getElem?_range hlen]; rfl
    have h3 := List.mem_of_getElem? h2
    have h4 := List.flatten_eq_nil_iff.1 h0 _ h3
    rw [h4] at h1
    simp at h1
    omega
  · obtain ⟨hil, rfl⟩ := hget _ _ hc
    rw [List.getElem?_map, List.getElem?_range hil] at he
    cases he
    exact (CE' i hil).1
  · obtain ⟨i, hir, rfl⟩ := List.mem_map.1 hx
    exact ⟨_, (CE' i (by simpa using hir)).1⟩
end

section
variable [Inhabited BaseW] {H : Type} {enc : TypeId × Value → H} {W : World}
set_option maxRecDepth 100000 in
theorem trod_evs (hW : baseW = W) {n : Nat} {v : Value} {y : DataW H × List MemPlace} (h : DataW.trod enc Tryz.prog W 0 (fun _ => true) true n 37 [v] = some y) (hb : Szd 37 y.1) : ∃ es : List Ev, ReadO W IsEvI v es ∧ ∀ e ∈ es, I64 e.keep ∧ I64 e.torn := by
  rcases slice_fields Tryz.underlying37 Tryz.underlying63 one_ev cells_ev h with ⟨hcs, hx⟩ | ⟨a, len, cap, m, D, Pl, hcs, _, hl, hm, hmm, rfl, hi⟩
  · simp only [List.cons.injEq, and_true] at hcs
    subst hcs
    exact ⟨[], ⟨[], Row.nil _, fun h => (h rfl).elim, Each.nil _⟩, by simp⟩
  · simp only [List.cons.injEq, and_true] at hcs
    subst hcs
    simp only [if_true] at hmm
    subst hmm
    obtain ⟨hs1, hs2⟩ := szd_slice hb Tryz.underlying37
    have hlen := mul_ge hs1 bytes_ev
    have hr := reachBytes_lt
    simp only [List.length_map, List.length_range] at hlen
    obtain ⟨xs, h1, -, h2⟩ := readO_of (W := W) (a := a) (len := len) (p := fun c (e : Ev) => IsEvI c e ∧ I64 e.keep ∧ I64 e.torn) 7 (by omega) ([], ⟨0, 0, 0, 0, 0, [], []⟩) hl hm (by omega) (fun c x hx => hx.1.length.1) (fun i hil => by
      obtain ⟨ys, k, hD, -, hyl, hf⟩ := hi i (by omega)
      have hSi : Szd 63 (D i) := hs2 _ (List.mem_map.2 ⟨i, by simpa using hil, rfl⟩)
      obtain ⟨v0, y0, c0, e0, t0⟩ := hf 0 _ rfl
      obtain ⟨v1, y1, c1, e1, t1⟩ := hf 1 _ rfl
      obtain ⟨v2, y2, c2, e2, t2⟩ := hf 2 _ rfl
      obtain ⟨v3, y3, c3, e3, t3⟩ := hf 3 _ rfl
      obtain ⟨v4, y4, c4, e4, t4⟩ := hf 4 _ rfl
      obtain ⟨v5, y5, c5, e5, t5⟩ := hf 5 _ rfl
      obtain ⟨v6, y6, c6, e6, t6⟩ := hf 6 _ rfl
      obtain ⟨z0, rfl, i0⟩ := trod_i64 t0
      obtain ⟨z1, rfl, i1⟩ := trod_i64 t1
      obtain ⟨z2, rfl, i2⟩ := trod_i64 t2
      obtain ⟨z3, rfl, i3⟩ := trod_i64 t3
      obtain ⟨z4, rfl, i4⟩ := trod_i64 t4
      obtain ⟨pp, rfl⟩ := trod_s8 t5
      rw [hD] at hSi
      have hS6 := szd_agg (j := 6) hSi Tryz.underlying63 rfl (by rw [List.getElem?_map, e6]; rfl)
      obtain ⟨dl, hd⟩ := trod_bytes t6 hS6
      refine ⟨([.int .i64 z0, .int .i64 z1, .int .i64 z2, .int .i64 z3, .int .i64 z4, S8 pp, v6], ⟨z0, z1, z2, z3, z4, pp, dl⟩), ⟨⟨v6, rfl, oldB_of (by rw [hW]; exact hd)⟩, i3, i4⟩, fun j u hu => ?_⟩
      rcases j with _ | _ | _ | _ | _ | _ | _ | j
      · cases hu; exact c0
      · cases hu; exact c1
      · cases hu; exact c2
      · cases hu; exact c3
      · cases hu; exact c4
      · cases hu; exact c5
      · cases hu; exact c6
      · simp at hu)
    exact ⟨xs, h1.mono (fun c x hx => hx.1), fun e he => by obtain ⟨c, hc⟩ := h2 e he; exact hc.2⟩
set_option maxRecDepth 100000 in
theorem trod_ops (hW : baseW = W) {n : Nat} {v : Value} {y : DataW H × List MemPlace} (h : DataW.trod enc Tryz.prog W 0 (fun _ => true) true n 22 [v] = some y) (hb : Szd 22 y.1) : ∃ os : List Opn, IsOps W v os ∧ ∀ o ∈ os, I64 o.keep ∧ I64 o.torn ∧ ∀ e ∈ o.plan, I64 e.keep ∧ I64 e.torn := by
  rcases slice_fields Tryz.underlying22 Tryz.underlying48 one_op cells_opn h with ⟨hcs, hx⟩ | ⟨a, len, cap, m, D, Pl, hcs, _, hl, hm, hmm, rfl, hi⟩
  · simp only [List.cons.injEq, and_true] at hcs
    subst hcs
    exact ⟨[], ⟨[], Row.nil _, fun h => (h rfl).elim, Each.nil _⟩, by simp⟩
  · simp only [List.cons.injEq, and_true] at hcs
    subst hcs
    simp only [if_true] at hmm
    subst hmm
    obtain ⟨hs1, hs2⟩ := szd_slice hb Tryz.underlying22
    have hlen := mul_ge hs1 bytes_opn
    have hr := reachBytes_lt
    simp only [List.length_map, List.length_range] at hlen
    obtain ⟨xs, h1, -, h2⟩ := readO_of (W := W) (a := a) (len := len) (p := fun c (o : Opn) => IsOpn W c o ∧ I64 o.keep ∧ I64 o.torn ∧ ∀ e ∈ o.plan, I64 e.keep ∧ I64 e.torn) 8 (by omega) ([], ⟨0, 0, 0, 0, [], [], [], []⟩) hl hm (by omega) (fun c x hx => hx.1.length.1) (fun i hil => by
      obtain ⟨ys, k, hD, -, hyl, hf⟩ := hi i (by omega)
      have hSi : Szd 48 (D i) := hs2 _ (List.mem_map.2 ⟨i, by simpa using hil, rfl⟩)
      obtain ⟨v0, y0, c0, e0, t0⟩ := hf 0 _ rfl
      obtain ⟨v1, y1, c1, e1, t1⟩ := hf 1 _ rfl
      obtain ⟨v2, y2, c2, e2, t2⟩ := hf 2 _ rfl
      obtain ⟨v3, y3, c3, e3, t3⟩ := hf 3 _ rfl
      obtain ⟨v4, y4, c4, e4, t4⟩ := hf 4 _ rfl
      obtain ⟨v5, y5, c5, e5, t5⟩ := hf 5 _ rfl
      obtain ⟨v6, y6, c6, e6, t6⟩ := hf 6 _ rfl
      obtain ⟨v7, y7, c7, e7, t7⟩ := hf 7 _ rfl
      obtain ⟨z0, rfl, i0⟩ := trod_i64 t0
      obtain ⟨z1, rfl, i1⟩ := trod_i64 t1
      obtain ⟨z2, rfl, i2⟩ := trod_i64 t2
      obtain ⟨z3, rfl, i3⟩ := trod_i64 t3
      obtain ⟨pp, rfl⟩ := trod_s8 t4
      obtain ⟨qq, rfl⟩ := trod_s8 t5
      rw [hD] at hSi
      have hS6 := szd_agg (j := 6) hSi Tryz.underlying48 rfl (by rw [List.getElem?_map, e6]; rfl)
      have hS7 := szd_agg (j := 7) hSi Tryz.underlying48 rfl (by rw [List.getElem?_map, e7]; rfl)
      obtain ⟨dl, hd⟩ := trod_bytes t6 hS6
      obtain ⟨es, he, hek⟩ := trod_evs hW t7 hS7
      refine ⟨([.int .i64 z0, .int .i64 z1, .int .i64 z2, .int .i64 z3, S8 pp, S8 qq, v6, v7], ⟨z0, z1, z2, z3, pp, qq, dl, es⟩), ⟨⟨v6, v7, rfl, oldB_of (by rw [hW]; exact hd), he⟩, i2, i3, hek⟩, fun j u hu => ?_⟩
      rcases j with _ | _ | _ | _ | _ | _ | _ | _ | j
      · cases hu; exact c0
      · cases hu; exact c1
      · cases hu; exact c2
      · cases hu; exact c3
      · cases hu; exact c4
      · cases hu; exact c5
      · cases hu; exact c6
      · cases hu; exact c7
      · simp at hu)
    exact ⟨xs, h1.mono (fun c x hx => hx.1), fun e he => by obtain ⟨c, hc⟩ := h2 e he; exact hc.2⟩
set_option maxRecDepth 100000 in
/-- An argument: operations. -/
theorem arg_ops (hW : baseW = W) {base : Nat} {v : Value} {d : DataW H} {p : List MemPlace} {ts : List TypeId} {ds : List (DataW H)} {j : Nat}
    (hval : Value.okWide Tryz.prog W .any base 22 v) (h : DataW.Trod enc Tryz.prog W 0 (fun _ => true) true 22 v d p)
    (hsz : (DataW.weightsEach Tryz.prog ts ds).all (· ≤ reachBytes) = true) (ht : ts[j]? = some 22) (hd : ds[j]? = some d) : ∃ os : List Opn, IsOps W v os ∧ ∀ o ∈ os, I64 o.keep ∧ I64 o.torn ∧ ∀ e ∈ o.plan, I64 e.keep ∧ I64 e.torn := by
  obtain ⟨a0, len, cap, rfl⟩ := okWide_slice Tryz.underlying22 hval
  obtain ⟨fuel, hf⟩ := h
  exact trod_ops hW (y := (d, p)) (by simpa [Value.cells] using hf) (szd_arg hsz ht hd)
set_option maxRecDepth 100000 in
/-- .. bytes. -/
theorem arg_bytes {base : Nat} {v : Value} {d : DataW H} {p : List MemPlace} {ts : List TypeId} {ds : List (DataW H)} {j : Nat}
    (hval : Value.okWide Tryz.prog W .any base 28 v) (h : DataW.Trod enc Tryz.prog W 0 (fun _ => true) true 28 v d p)
    (hsz : (DataW.weightsEach Tryz.prog ts ds).all (· ≤ reachBytes) = true) (ht : ts[j]? = some 28) (hd : ds[j]? = some d) : ∃ l : B8, IsBytes W v l := by
  obtain ⟨a0, len, cap, rfl⟩ := okWide_slice Tryz.underlying28 hval
  obtain ⟨fuel, hf⟩ := h
  exact trod_bytes (y := (d, p)) (by simpa [Value.cells] using hf) (szd_arg hsz ht hd)
end

end Go.Proofs.YtoajnaopainpnaaGreatDoor

/-! marlaw5.alike: do the same files stand in two? Conditions: at most 1000000 files. -/
namespace Go.Proofs.YtoajnaopainpnaaGreatDoor
open Go Go.RowKit

theorem IsFs.rise {S O R : Nat → Prop} {w : World} {p : Value} {m : Fs} (h : IsFs S O R w p m) : Rising m.now ∧ (∀ e ∈ m.now, e.1.length ≤ 1000000) ∧ ∃ g, p = .pointer (some ⟨g, 0, none⟩) := by
  obtain ⟨g, gm, gd, vp, vl, vu, L, c0, rfl, -, -, hP, -⟩ := h
  exact ⟨hP.now.rise, hP.now.short, g, rfl⟩
theorem look_rise {e : B8 × Fi} : ∀ {l : Files} {k : Nat}, Rising l → l[k]? = some e → look l e.1 = some e.2
  | [], k, _, he => by simp at he
  | y :: r, 0, _, he => by
    have : y = e := by simpa using he
    subst this
    unfold look
    simp
  | y :: r, k + 1, h, he => by
    obtain ⟨h1, h2⟩ := List.pairwise_cons.1 h
    have he' : r[k]? = some e := by simpa using he
    have hne := ltB_ne (h1 e (List.mem_of_getElem? he'))
    have hq : (y.1 == e.1) = false := by simpa using hne
    have := look_rise h2 he'
    unfold look at *
    rw [List.find?_cons, hq]
    exact this
theorem paths_get {l : Files} {k : Nat} {p : B8} (h : (pathsL l)[k]? = some p) : ∃ f, l[k]? = some (p, f) := by
  unfold pathsL at h
  rw [List.getElem?_map] at h
  obtain ⟨e, he, rfl⟩ := Option.map_eq_some_iff.1 h
  exact ⟨e.2, he⟩
theorem peek_at {m : Fs} {k : Nat} {p : B8} {f : Fi} (h : Rising m.now) (hk : m.now[k]? = some (p, f)) : peekM m p = (f, true) := by
  unfold peekM
  rw [look_rise h hk]
theorem strs_paths {w : World} {b : Nat} {v : Value} {l : Files} (h : w.ownsRow b 9 1 v l.length ((pathsL l).map S8)) (hl : l.length ≤ 1000000) : IsStrs w v (pathsL l) := by
  have := Row.of_owns h (by omega)
  have e : (pathsL l).length = l.length := by simp [pathsL]
  unfold IsStrs
  rw [e]
  exact this

def AlikePost (m1 m2 : Fs) (w : World) (e : Ending) (w' : World) : Prop := (∃ r : Bool, e = .returned (.bool r) ∧ (r = true ↔ m1.now = m2.now)) ∧ Ext w w'
set_option maxRecDepth 100000 in
set_option maxHeartbeats 4000000 in
theorem alike_any {S O R S2 O2 R2 : Nat → Prop} {w : World} {a b : Value} {m1 m2 : Fs} (h1 : IsFs S O R w a m1) (h2 : IsFs S2 O2 R2 w b m2) (hl1 : m1.now.length ≤ 1000000) (hl2 : m2.now.length ≤ 1000000) :
    Calls Tryz.prog 33 #[a, b] w fun e w' => AlikePost m1 m2 w e w' := by
  have H1 : Hid _ := h1
  have H2 : Hid _ := h2
  obtain ⟨hr1, hs1, ga, rfl⟩ := h1.rise
  obtain ⟨hr2, hs2, gb, rfl⟩ := h2.rise
  have HR1 : Hid _ := hr1
  have HR2 : Hid _ := hr2
  have HS1 : Hid _ := hs1
  clear h1 h2 hr1 hr2 hs1 hs2
  go_enter Tryz.func33, Tryz.ntmps33
  go_wp2_with fail
  go_at_call 12
  refine (paths_any H1.out hl1).mono ?_
  rintro e w1 ⟨⟨v1, rfl, ho1⟩, hx1⟩
  have hv1 := strs_paths ho1 hl1
  obtain ⟨a1, c1, rfl, l1, l2, l3, hg1⟩ := hv1.get
  have HV1 : Hid _ := hv1
  clear ho1 hv1 hg1
  go_wp2_with fail
  go_at_call 12
  refine (paths_any (IsFs.ext H2.out hx1) hl2).mono ?_
  rintro e w2 ⟨⟨v2, rfl, ho2⟩, hx2⟩
  have hv2 := strs_paths ho2 hl2
  obtain ⟨a2, c2, rfl, k1, k2, k3, -⟩ := hv2.get
  have HV2 : Hid _ := hv2
  clear ho2 hv2
  go_wp2_with fail
  go_at_call 65
  refine (texts_any _ _ _ _ _ (IsStrs.ext HV1.out hx2) HV2.out).mono ?_
  obtain ⟨tb, htb⟩ : ∃ tb, (pathsL m1.now == pathsL m2.now) = tb := ⟨_, rfl⟩
  rw [htb]
  have HTB : Hid _ := htb
  clear htb
  rintro e w3 ⟨rfl, hx3⟩
  have hx13 := (hx1.trans hx2).trans hx3
  cases tb with
  | false =>
    have HNE : Hid (m1.now ≠ m2.now) := fun h => by have := HTB.out; rw [h] at this; simp at this
    go_wp2
    go_ret
    exact ⟨⟨false, rfl, by simp [HNE.out]⟩, hx13⟩
  | true =>
    have hpe : pathsL m1.now = pathsL m2.now := by simpa using HTB.out
    have HPE : Hid _ := hpe
    have HIS : Hid _ := IsStrs.ext (IsStrs.ext HV1.out hx2) hx3
    have hpl : (pathsL m1.now).length = m1.now.length := by simp [pathsL]
    have HPL : Hid _ := hpl
    rw [hpl] at l1 l2 ⊢
    clear hpe hpl k1 k2 k3
    go_wp2_with fail
    go_loopw [6] (fun i wr => ∃ k : Nat, k ≤ m1.now.length ∧ i = .int .i64 k ∧ Hid (m1.now.take k = m2.now.take k) ∧ Ext w3 wr) (fun i _ => m1.now.length - (intOf i).toNat)
    case atStart => exact ⟨0, Nat.zero_le _, rfl, by simp [Hid], Ext.refl _⟩
    case round =>
      obtain ⟨k, hk, rfl, HTK, hx⟩ := hrel
      by_cases hlt : k < m1.now.length
      · obtain ⟨p, hp⟩ : ∃ p, (pathsL m1.now)[k]? = some p := ⟨_, List.getElem?_eq_getElem (by rw [HPL.out]; exact hlt)⟩
        obtain ⟨f1, hf1⟩ := paths_get hp
        obtain ⟨f2, hf2⟩ := paths_get (l := m2.now) (by rw [← HPE.out]; exact hp)
        obtain ⟨_, _, he, -, -, -, hg⟩ := (IsStrs.ext HIS.out hx).get
        cases he
        obtain ⟨bb, oo, rfl, hc⟩ := hg k (by rw [HPL.out]; exact hlt)
        have y1 := hc k (by rw [HPL.out]; exact hlt)
        rw [show (pathsL m1.now).getD k [] = p by rw [List.getD_eq_getElem?_getD, hp]; rfl] at y1
        have hps : p.length ≤ 1000000 := HS1.out _ (List.mem_of_getElem? hf1)
        have HF1 : Hid _ := hf1
        have HF2 : Hid _ := hf2
        have HK1 : Hid _ := peek_at HR1.out hf1
        have HK2 : Hid _ := peek_at HR2.out hf2
        have HA : Hid _ := IsFs.ext (IsFs.ext H1.out hx13) hx
        have HB : Hid _ := IsFs.ext (IsFs.ext H2.out hx13) hx
        clear hp hf1 hf2 hg hc
        go_wp2_with fail
        go_at_call 13
        refine (peek_any p HA.out hps).mono ?_
        rw [HK1.out]
        rintro e w4 ⟨⟨u1, rfl, hd1⟩, hx4⟩
        obtain ⟨s1, t1, rfl, -⟩ := id hd1.bytes
        have HD1 : Hid _ := hd1
        have HB4 : Hid _ := IsFs.ext HB.out hx4
        have y2 := hx4.cell y1
        clear hd1
        dsimp only
        go_upto_region 8 with fail
        obtain ⟨w5, hw5⟩ : ∃ w5, w5 = w4.alloc (.cells #[.int .i64 f1.mode, .slice s1 f1.data.length t1, .int .i64 f1.time] 30) := ⟨_, rfl⟩
        rw [← hw5]
        have hx5 : Ext w4 w5 := by rw [hw5]; exact (Ext.refl _).alloc _
        have hb5 : w5.heap[w4.heap.size]? = some (.cells #[.int .i64 f1.mode, .slice s1 f1.data.length t1, .int .i64 f1.time] 30 (0, 0)) := by rw [hw5]; exact alloc_at _ _
        have y3 := hx5.cell y2
        have HW5 : Hid _ := hw5
        clear hw5
        go_wp2_with fail
        go_at_call 13
        refine (peek_any p (IsFs.ext HB4.out hx5) hps).mono ?_
        rw [HK2.out]
        rintro e w6 ⟨⟨u2, rfl, hd2⟩, hx6⟩
        obtain ⟨s2, t2, rfl, -⟩ := id hd2.bytes
        have HD2 : Hid _ := hd2
        have hb6 := hx6.row hb5
        clear hd2 hb5
        dsimp only
        go_upto_region 9 with fail
        obtain ⟨w7, hw7⟩ : ∃ w7, w7 = w6.alloc (.cells #[.int .i64 f2.mode, .slice s2 f2.data.length t2, .int .i64 f2.time] 30) := ⟨_, rfl⟩
        rw [← hw7]
        have hx7 : Ext w6 w7 := by rw [hw7]; exact (Ext.refl _).alloc _
        have hb7 : w7.heap[w6.heap.size]? = some (.cells #[.int .i64 f2.mode, .slice s2 f2.data.length t2, .int .i64 f2.time] 30 (0, 0)) := by rw [hw7]; exact alloc_at _ _
        have hbb := hx7.row hb6
        obtain ⟨x0, x1, x2⟩ := cellsAt3 hbb
        obtain ⟨z0, z1, z2⟩ := cellsAt3 hb7
        have HW7 : Hid _ := hw7
        have hx57 := (hx5.trans hx6).trans hx7
        have HE1 : Hid (IsBytes w7 (.slice s1 f1.data.length t1) f1.data) := (IsData.ext HD1.out hx57).bytes
        have HE2 : Hid (IsBytes w7 (.slice s2 f2.data.length t2) f2.data) := (IsData.ext HD2.out hx7).bytes
        have hxr := (hx.trans hx4).trans hx57
        have HXR : Hid _ := hxr
        have HNO : Hid (f1 ≠ f2 → m1.now ≠ m2.now) := fun hne h => by
          have h1 := HF1.out
          rw [h, HF2.out] at h1
          have h2 := Option.some.inj h1
          exact hne (Prod.mk.inj h2).2.symm
        clear hw7 hb7 hbb hb6 hx57 hx7 hx6 hx5 hx4 y1 y2 y3
        have go_no : f1 ≠ f2 → m1.now ≠ m2.now := HNO.out
        have HGN : Hid _ := go_no
        clear go_no
        by_cases hm : f1.mode = f2.mode
        · by_cases ht : f1.time = f2.time
          · obtain ⟨bq, hbq⟩ : ∃ bq, (f1.data == f2.data) = bq := ⟨_, rfl⟩
            have HBQ : Hid _ := hbq
            clear hbq
            have HM : Hid _ := hm
            have HT : Hid _ := ht
            rw [← hm] at z0
            rw [← ht] at z2
            clear hm ht
            go_wp2_with fail
            go_at_call 35
            refine (bytesEq_any _ _ _ _ _ HE1.out HE2.out).mono ?_
            rw [HBQ.out]
            rintro e w8 ⟨rfl, rfl⟩
            cases bq with
            | false =>
              have HNE : Hid (m1.now ≠ m2.now) := HGN.out (fun h => by have := HBQ.out; rw [h] at this; simp at this)
              go_wp2
              go_ret
              exact ⟨⟨false, rfl, by simp [HNE.out]⟩, hx13.trans HXR.out⟩
            | true =>
              have HEQ : Hid (m1.now.take (k + 1) = m2.now.take (k + 1)) := by
                have hd : f1.data = f2.data := by simpa using HBQ.out
                have he : f1 = f2 := by
                  obtain ⟨_, _, _⟩ := f1
                  obtain ⟨_, _, _⟩ := f2
                  have h1 := HM.out
                  have h2 := HT.out
                  simp only at h1 h2 hd
                  rw [h1, h2, hd]
                unfold Hid
                rw [List.take_add_one, List.take_add_one, HF1.out, HF2.out, he, HTK.out]
              go_wp2
              go_roundw
              case rel => exact ⟨k + 1, by omega, by go_num, HEQ, HXR.out⟩
              case measure => simp [intOf]; omega
          · have HNE : Hid (m1.now ≠ m2.now) := HGN.out (fun h => ht (by rw [h]))
            have htb : (f1.time == f2.time) = false := by simpa using ht
            rw [← hm] at z0
            go_wp2
            go_ret
            exact ⟨⟨false, rfl, by simp [HNE.out]⟩, hx13.trans HXR.out⟩
        · have HNE : Hid (m1.now ≠ m2.now) := HGN.out (fun h => hm (by rw [h]))
          have htb : (f1.mode == f2.mode) = false := by simpa using hm
          go_wp2
          go_ret
          exact ⟨⟨false, rfl, by simp [HNE.out]⟩, hx13.trans HXR.out⟩
      · have hkk : k = m1.now.length := by omega
        have HEQ : Hid (m1.now = m2.now) := by
          have h := HTK.out
          have hl : m1.now.length = m2.now.length := by have := congrArg List.length HPE.out; simpa [pathsL] using this
          rwa [List.take_of_length_le (by omega), List.take_of_length_le (by omega)] at h
        go_wp2
        go_ret
        exact ⟨⟨true, rfl, by simp [HEQ.out]⟩, hx13.trans hx⟩

end Go.Proofs.YtoajnaopainpnaaGreatDoor

/-! Calls without events, crashes, users: what each leaves; what a crash behind them leaves; moves, failing calls: in plain Lean. Conditions: as each theorem states. -/
namespace Go.Proofs.YtoajnaopainpnaaGreatDoor
open Go Go.RowKit

/-! ### Finds behind changes -/
theorem find_ins (p q : B8) (f : Fi) (hne : q ≠ p) : ∀ r : Files, (insF (q, f) r).find? (fun e => e.1 == p) = r.find? (fun e => e.1 == p)
  | [] => by simp [insF, hne]
  | y :: r => by
    unfold insF
    split
    · have hq : (q == p) = false := by simpa using hne
      rw [List.find?_cons]
      simp only [hq]
    · rw [List.find?_cons, List.find?_cons, find_ins p q f hne r]
theorem look_delF_ne {l : Files} {p q : B8} (hne : q ≠ p) : look (delF l q) p = look l p := by
  unfold look delF
  rw [List.find?_filter]
  congr 2
  funext e
  by_cases h : e.1 = p
  · simp [h, Ne.symm hne]
  · simp [h]
theorem look_putF_ne {l : Files} {p q : B8} {f : Fi} (hne : q ≠ p) : look (putF l q f) p = look l p := by
  have h1 := look_delF_ne (l := l) hne
  unfold putF
  rw [← h1]
  unfold look
  rw [find_ins p q f hne]
theorem look_delF_same (l : Files) (p : B8) : look (delF l p) p = none := by
  unfold look delF
  rw [List.find?_filter]
  simp
/-- A change that does not touch a path. -/
def Away (p : B8) : Ch → Prop
  | .put q _ => q ≠ p
  | .mv s d => s ≠ p ∧ d ≠ p
  | .del q => q ≠ p
theorem look_ap {l : Files} {c : Ch} {p : B8} (h : Away p c) : look (ap l c) p = look l p := by
  cases c with
  | put q f => exact look_putF_ne h
  | mv s d =>
    show look (match look l s with | some x => putF (delF l s) d x | none => l) p = _
    split
    · rw [look_putF_ne h.2, look_delF_ne h.1]
    · rfl
  | del q => exact look_delF_ne h
theorem away_at {p : B8} {c : Ch} (h : Away p c) (t : Nat) : Away p (c.at t) := by
  cases c <;> exact h

/-! ### Calls with nothing planned -/
theorem call_calm {m : Fs} (hp : m.plan = []) (hd : m.down = false) : callM m = ({ m with calls := m.calls + 1 }, false, 0) := by
  unfold callM
  rw [hp]
  simp [hd]
/-- A path that stays as it is. -/
structure Stays (p : B8) (v : Option Fi) (m : Fs) : Prop where
  plan : m.plan = []
  down : m.down = false
  all : ∀ k, look ((m.pend.take k).foldl ap m.sure) p = v
  away : ∀ c ∈ m.pend, Away p c
theorem stays_calls {p : B8} {v : Option Fi} {m : Fs} (h : Stays p v m) (n : Nat) : Stays p v { m with calls := n } := ⟨h.plan, h.down, h.all, h.away⟩
theorem stays_does {p : B8} {v : Option Fi} {m : Fs} {c : Ch} (hok : OkM m) (h : Stays p v m) (hc : Away p c) : Stays p v (does m c) := by
  have hc' := away_at hc (m.time + 1)
  refine ⟨h.plan, h.down, fun k => ?_, fun d hd => ?_⟩
  · show look (((m.pend ++ [c.at (m.time + 1)]).take k).foldl ap m.sure) p = v
    by_cases hk : k ≤ m.pend.length
    · rw [List.take_append_of_le_length hk]
      exact h.all k
    · rw [List.take_of_length_le (by simp; omega), List.foldl_append]
      show look (ap (m.pend.foldl ap m.sure) (c.at (m.time + 1))) p = v
      rw [look_ap hc']
      have := h.all m.pend.length
      rwa [List.take_length] at this
  · rcases List.mem_append.1 hd with hd | hd
    · exact h.away d hd
    · rw [List.mem_singleton.1 hd]; exact hc'
theorem Stays.now {p : B8} {v : Option Fi} {m : Fs} (hok : OkM m) (h : Stays p v m) : look m.now p = v := by
  have := h.all m.pend.length
  rwa [List.take_length, hok.fold] at this
theorem stays_settle {p : B8} {v : Option Fi} {m : Fs} (hok : OkM m) (h : Stays p v m) : Stays p v (settle m) :=
  ⟨h.plan, h.down, fun k => (by show look ((([] : List Ch).take k).foldl ap m.now) p = v; simpa using h.now hok), fun c hc => (by cases hc)⟩
theorem stays_puts {p : B8} {v : Option Fi} {m : Fs} {path : B8} {mode : Int} {data : B8} {fits : Bool} (hok : OkM m) (h : Stays p v m) (hne : path ≠ p) : Stays p v (putsM m path mode data fits).1 := by
  unfold putsM
  split
  · exact h
  · split
    · exact h
    · exact stays_does hok h hne
theorem stays_put {p : B8} {v : Option Fi} {m : Fs} {path : B8} {mode : Int} {data : B8} {only : Bool} (hok : OkM m) (h : Stays p v m) (hne : path ≠ p) : Stays p v (putM (callM m) path mode data only).1 := by
  have hok' : OkM { m with calls := m.calls + 1 } := hok.same rfl rfl rfl hok.lusers (Nat.le_refl _)
  rw [call_calm h.plan h.down]
  unfold putM
  split
  · exact stays_calls h _
  · split
    · exact stays_calls h _
    · split
      · exact stays_calls h _
      · exact stays_puts hok' (stays_calls h _) hne
theorem stays_move {p : B8} {v : Option Fi} {m : Fs} {s d : B8} {fresh : Bool} (hok : OkM m) (h : Stays p v m) (hs : s ≠ p) (hd : d ≠ p) : Stays p v (moveM m s d fresh).1 := by
  have hok' : OkM { m with calls := m.calls + 1 } := hok.same rfl rfl rfl hok.lusers (Nat.le_refl _)
  unfold moveM
  rw [call_calm h.plan h.down]
  unfold mvM
  split
  · exact stays_calls h _
  · split
    · exact stays_calls h _
    · split
      · exact stays_calls h _
      · split
        · exact stays_calls h _
        · split
          · exact stays_calls h _
          · split
            · exact stays_calls h _
            · exact stays_does hok' (stays_calls h _) ⟨hs, hd⟩
theorem stays_remove {p : B8} {v : Option Fi} {m : Fs} {path : B8} (hok : OkM m) (h : Stays p v m) (hne : path ≠ p) : Stays p v (removeM m path).1 := by
  have hok' : OkM { m with calls := m.calls + 1 } := hok.same rfl rfl rfl hok.lusers (Nat.le_refl _)
  unfold removeM
  rw [call_calm h.plan h.down]
  simp only [ne_eq, not_true_eq_false, if_false]
  unfold removesM
  split
  · exact stays_calls h _
  · split
    · exact stays_calls h _
    · exact stays_does hok' (stays_calls h _) hne
theorem stays_sync {p : B8} {v : Option Fi} {m : Fs} (hok : OkM m) (h : Stays p v m) : Stays p v (syncM m).1 := by
  have hok' : OkM { m with calls := m.calls + 1 } := hok.same rfl rfl rfl hok.lusers (Nat.le_refl _)
  unfold syncM
  rw [call_calm h.plan h.down]
  exact stays_settle hok' (stays_calls h _)
theorem stays_call {p : B8} {v : Option Fi} {m : Fs} (h : Stays p v m) : Stays p v (callM m).1 := by
  rw [call_calm h.plan h.down]
  exact stays_calls h _
theorem ite_dep {P : Fs → Prop} {c : Prop} [Decidable c] {a b : Fs} (ha : c → P a) (hb : ¬ c → P b) : P (if c then a else b) := by
  by_cases h : c
  · rw [if_pos h]; exact ha h
  · rw [if_neg h]; exact hb h
theorem stays_step {p : B8} {v : Option Fi} {m : Fs} {o : Opn} (hok : OkM m) (h : Stays p v m) (h0 : 0 ≤ o.kind) (h7 : o.kind ≤ 7) (hs : o.path ≠ p) (hd : o.dest ≠ p) : Stays p v (stepM m o) := by
  have g6 : Stays p v (readM m o.path).1 := by rw [read_fst]; exact stays_call h
  have g7 : Stays p v (listM m o.path).1 := by rw [list_fst]; exact stays_call h
  unfold stepM
  refine ite_dep (fun _ => stays_put hok h hs) (fun _ => ?_)
  refine ite_dep (fun _ => stays_put hok h hs) (fun _ => ?_)
  refine ite_dep (fun _ => stays_move hok h hs hd) (fun _ => ?_)
  refine ite_dep (fun _ => stays_move hok h hs hd) (fun _ => ?_)
  refine ite_dep (fun _ => stays_remove hok h hs) (fun _ => ?_)
  refine ite_dep (fun _ => stays_sync hok h) (fun _ => ?_)
  refine ite_dep (fun _ => g6) (fun _ => ?_)
  refine ite_dep (fun _ => g7) (fun _ => ?_)
  exfalso
  omega
theorem stays_fallen {p : B8} {v : Option Fi} {m : Fs} (h : Stays p v m) (keep torn : Int) : look (fallen m keep torn) p = v := by
  unfold fallen torn1
  split
  · rename_i q f hk
    have hq : q ≠ p := h.away _ (List.mem_of_getElem? hk)
    split
    · rw [look_ap (show Away p (.put q { f with data := f.data.take torn.toNat }) from hq)]
      exact h.all _
    · exact h.all _
  · exact h.all _

/-- Calls but a sync: nothing new is durable. -/
structure Kept (F : Files) (m : Fs) : Prop where
  plan : m.plan = []
  down : m.down = false
  sure : m.sure = F
theorem kept_step {F : Files} {m : Fs} {o : Opn} (h : Kept F m) (h0 : 0 ≤ o.kind) (h7 : o.kind ≤ 7) (h5 : o.kind ≠ 5) : Kept F (stepM m o) := by
  have hc := call_calm h.plan h.down
  have hk : ∀ n, Kept F { m with calls := n } := fun n => ⟨h.plan, h.down, h.sure⟩
  have hd : ∀ n c, Kept F (does { m with calls := n } c) := fun n c => ⟨h.plan, h.down, h.sure⟩
  have gp : ∀ only, Kept F (putM (callM m) o.path o.mode o.data only).1 := by
    intro only
    rw [hc]
    unfold putM putsM
    repeat' split
    all_goals first | exact hk _ | exact hd _ _
  have gm : ∀ fresh, Kept F (moveM m o.path o.dest fresh).1 := by
    intro fresh
    unfold moveM
    rw [hc]
    unfold mvM
    repeat' split
    all_goals first | exact hk _ | exact hd _ _
  have gr : Kept F (removeM m o.path).1 := by
    unfold removeM
    rw [hc]
    unfold removesM
    repeat' split
    all_goals first | exact hk _ | exact hd _ _
  have g6 : Kept F (readM m o.path).1 := by rw [read_fst, hc]; exact hk _
  have g7 : Kept F (listM m o.path).1 := by rw [list_fst, hc]; exact hk _
  unfold stepM
  refine ite_dep (fun _ => gp _) (fun _ => ?_)
  refine ite_dep (fun _ => gp _) (fun _ => ?_)
  refine ite_dep (fun _ => gm _) (fun _ => ?_)
  refine ite_dep (fun _ => gm _) (fun _ => ?_)
  refine ite_dep (fun _ => gr) (fun _ => ?_)
  refine ite_dep (fun h => (h5 h).elim) (fun _ => ?_)
  refine ite_dep (fun _ => g6) (fun _ => ?_)
  refine ite_dep (fun _ => g7) (fun _ => ?_)
  exfalso
  omega

theorem peek_some (m : Fs) (p : B8) : (peekM m p).2 = (look m.now p).isSome := by
  unfold peekM
  cases look m.now p <;> rfl
theorem peek_of {m : Fs} {p : B8} {x : Fi} (h : look m.now p = some x) : peekM m p = (x, true) := by
  unfold peekM
  rw [h]
theorem readB_nil (w : World) : ReadB w (.slice none 0 0) [] := ⟨[], Row.nil _, Each.nil _⟩

/-! ### A move -/
theorem move_no {m : Fs} {a b : B8} {fresh : Bool} (hp : m.plan = []) (hd : m.down = false) (h : (moveM m a b fresh).2 ≠ 0) :
    (moveM m a b fresh).1 = { m with calls := m.calls + 1 } ∧ ((moveM m a b fresh).2 = 8 → fresh = true ∧ (look m.now b).isSome = true) ∧ ((moveM m a b fresh).2 = 7 → (look m.now a).isSome = false) := by
  revert h
  unfold moveM
  rw [call_calm hp hd]
  unfold mvM
  simp only [ne_eq, not_true_eq_false, if_false]
  split
  · exact fun _ => ⟨rfl, fun h => by simp at h, fun h => by simp at h⟩
  · split
    · rename_i h1
      exact fun _ => ⟨rfl, fun h => by simp at h, fun _ => by simpa using h1⟩
    · split
      · rename_i h1
        exact fun _ => ⟨rfl, fun _ => ⟨h1.2, h1.1⟩, fun h => by simp at h⟩
      · split
        · exact fun h => (h rfl).elim
        · split
          · exact fun _ => ⟨rfl, fun h => by simp at h, fun h => by simp at h⟩
          · exact fun h => (h rfl).elim
theorem move_yes {m : Fs} {a b : B8} {fresh : Bool} (hp : m.plan = []) (hd : m.down = false) (hr : Rising m.now) (h : (moveM m a b fresh).2 = 0) :
    ∃ x, look m.now a = some x ∧ look (moveM m a b fresh).1.now b = some x ∧ (fresh = true → look m.now b = none) ∧ (look (moveM m a b fresh).1.now a).isSome = (a == b) ∧ usedF (moveM m a b fresh).1.now ≤ usedF m.now := by
  revert h
  unfold moveM
  rw [call_calm hp hd]
  unfold mvM
  simp only [ne_eq, not_true_eq_false, if_false]
  cases hl : look m.now a with
  | none =>
    split
    · intro h; simp at h
    · simp
  | some x =>
    split
    · intro h; simp at h
    · rw [if_neg (by simp)]
      split
      · intro h; simp at h
      · rename_i h8
        split
        · rename_i hab
          subst hab
          intro _
          refine ⟨x, rfl, hl, fun hf => ?_, by simp [hl], Nat.le_refl _⟩
          rw [hl] at h8
          simp [hf] at h8
        · rename_i hab
          split
          · intro h; simp at h
          · intro _
            have e : (does { m with calls := m.calls + 1 } (.mv a b)).now = putF (delF m.now a) b x := by
              show (match look m.now a with | some x => putF (delF m.now a) b x | none => m.now) = _
              rw [hl]
            refine ⟨x, rfl, ?_, fun hf => ?_, ?_, ?_⟩
            · show look (does { m with calls := m.calls + 1 } (.mv a b)).now b = _
              rw [e]; exact look_putF_same _ _ _
            · cases hb : look m.now b with
              | none => rfl
              | some y => rw [hb] at h8; simp [hf] at h8
            · show (look (does { m with calls := m.calls + 1 } (.mv a b)).now a).isSome = _
              rw [e, look_putF_ne (Ne.symm hab), look_delF_same]
              simp [hab]
            · show usedF (does { m with calls := m.calls + 1 } (.mv a b)).now ≤ _
              rw [e]
              have h1 := usedF_put (hr.del a) b x
              have h2 := usedF_del hr a
              have h3 : oldLen m.now a = x.data.length := by unfold oldLen; rw [hl]
              omega

end Go.Proofs.YtoajnaopainpnaaGreatDoor

/-! marlaw5.calm: the operations that are calls alone. Conditions: at most 1000 operations. -/
namespace Go.Proofs.YtoajnaopainpnaaGreatDoor
open Go Go.RowKit
variable [Inhabited BaseW]

def calmO (o : Opn) : Bool := decide (o.kind ≤ 7) && decide (0 ≤ o.kind)
def calmL (l : List Opn) : List Opn := l.filter calmO
theorem calm_snoc {l : List Opn} {k : Nat} {o : Opn} (h : l[k]? = some o) : calmL (l.take (k + 1)) = calmL (l.take k) ++ (if calmO o = true then [o] else []) := by
  obtain ⟨hlt, rfl⟩ := (List.getElem?_eq_some_iff.1 h)
  unfold calmL
  rw [List.take_succ_eq_append_getElem hlt, List.filter_append]
  by_cases hc : calmO l[k] = true
  · rw [if_pos hc, List.filter_cons_of_pos hc, List.filter_nil]
  · rw [if_neg hc, List.filter_cons_of_neg hc, List.filter_nil]
theorem calm_len (l : List Opn) : (calmL l).length ≤ l.length := List.length_filter_le _ _
theorem calm_mem {l : List Opn} {o : Opn} (h : o ∈ calmL l) : o ∈ l ∧ 0 ≤ o.kind ∧ o.kind ≤ 7 := by
  obtain ⟨h1, h2⟩ := List.mem_filter.1 h
  unfold calmO at h2
  simp only [Bool.and_eq_true, decide_eq_true_eq] at h2
  exact ⟨h1, h2.2, h2.1⟩

theorem info_opn : (Tryz.prog.info? 48).map (fun i => (i.zero, i.size, i.bytes)) = some (some (.agg #[.int .i64 0, .int .i64 0, .int .i64 0, .int .i64 0, S8 [], S8 [], .slice none 0 0, .slice none 0 0]), 8, 112) := by kernel_rfl
section
variable {ops : Array Oper} {rest : List Oper} {o : Oper} {a : Act} {Q : Exit → Act → World → Prop} {w : World}
/-- append of an operation that lies in a block known whole. -/
theorem app_opn (hgd : o.guard = none) (s x : Operand) (ho : o.op = .call { callee := .builtin .append, args := #[s, x], argTypes := #[22, 22] })
    (base : Nat) (v : Value) (n : Nat) (xs : List Value) (hs : a.eval s = v) (hown : w.ownsRow base 48 8 v n xs)
    (g c : Nat) (news : List Value) (hx : a.eval x = .slice (some ⟨g, 0, none⟩) 1 c) (hl : news.length = 8) {fr : Nat × Nat} (hg : w.heap[g]? = some (.cells news.toArray 48 fr)) (h1 : news.all (·.oneCell') = true)
    (hb : n ≤ 10000000) (hbase : base ≤ w.heap.size)
    (h : ∀ v' w', w'.ownsRow base 48 8 v' (n + 1) (xs ++ news) → w.grownBy w' v.ownBlock → wpList Tryz.prog ops Q rest (a.put o.dst v') w') : wpList Tryz.prog ops Q (o :: rest) a w := by
  obtain ⟨i0, hi, hz0, hz1, hz2⟩ := info_parts info_opn
  exact wpList_append_own_at w hgd s x _ ho base _ i0 _ 8 112 Tryz.underlying22 hi hz0 hz1 hz2 rfl (by omega) v n xs hs hown ⟨g, 0, none⟩ 1 c news hx (by simpa using hl) (by simpa using news_of_block hg) (fun u hu => List.all_eq_true.1 h1 u hu) (by unfold maxLen; omega) (by omega) hbase
    (fun v' w' h1 h2 _ h4 => h v' w' h1 h2)
end

section
variable {ops : Array Oper} {rest : List Oper} {o : Oper} {a : Act} {Q : Exit → Act → World → Prop} {w : World}
/-- append of texts; where the new slice lies. -/
theorem app_str4 (hgd : o.guard = none) (s x : Operand) (ho : o.op = .call { callee := .builtin .append, args := #[s, x], argTypes := #[26, 26] })
    (base : Nat) (v : Value) (n : Nat) (l : List B8) (hs : a.eval s = v) (hown : w.ownsRow base 9 1 v n (l.map S8))
    (g m c : Nat) (news : List B8) (hx : a.eval x = .slice (some ⟨g, 0, none⟩) m c) (hl : news.length = m) {fr : Nat × Nat} (hg : w.heap[g]? = some (.cells (news.map S8).toArray 9 fr))
    (hb : n + m ≤ 1000000000) (hbase : base ≤ w.heap.size)
    (h : ∀ v' w', w'.ownsRow base 9 1 v' (n + m) ((l ++ news).map S8) → w.grownBy w' v.ownBlock → (∀ k, v'.ownBlock = some k → v.ownBlock = some k ∨ w.heap.size ≤ k) → wpList Tryz.prog ops Q rest (a.put o.dst v') w') : wpList Tryz.prog ops Q (o :: rest) a w := by
  obtain ⟨i0, hi, hz0, hz1, hz2⟩ := info_parts info_str
  exact wpList_append_own_at w hgd s x _ ho base _ i0 _ 1 16 Tryz.underlying26 hi hz0 hz1 hz2 rfl (by omega) v n _ hs hown ⟨g, 0, none⟩ m c (news.map S8) hx (by simpa using hl) (news_of_block hg) (by intro u hu; obtain ⟨_, _, rfl⟩ := List.mem_map.1 hu; rfl) (by unfold maxLen; omega) (by omega) hbase
    (fun v' w' h1 h2 _ h4 => h v' w' (by rw [List.map_append]; exact h1) h2 (fun k hk => by
      rcases h4 with h4 | h4
      · exact .inl (h4.symm.trans hk)
      · rw [h4] at hk; simp only [Option.some.injEq] at hk; exact .inr (by omega)))
end
theorem ops_read {w w0 : World} {b : Nat} {v : Value} {L : List Opn} {css : List (List Value)} (h : w.ownsRow b 48 8 v L.length css.flatten) (he : Each (IsOpn w0) css L) (hn : L.length ≤ 1000000) : ReadO w (IsOpn w0) v L :=
  ⟨css, Row.of_owns h (by omega), fun _ k hk => (h.lt k hk).2, he⟩
theorem strs_own {w : World} {b : Nat} {v : Value} {l : List B8} {n : Nat} (h : w.ownsRow b 9 1 v n (l.map S8)) (hn : l.length = n) (hl : n ≤ 1000000) : IsStrs w v l := by
  have := Row.of_owns h (by omega)
  unfold IsStrs
  rw [hn]
  exact this

def CalmPost (w0 w : World) (l : List Opn) (e : Ending) (w' : World) : Prop := (∃ v', e = .returned v' ∧ ∃ css : List (List Value), w'.ownsRow w.heap.size 48 8 v' l.length css.flatten ∧ Each (IsOpn w0) css l) ∧ Ext w w'

set_option maxRecDepth 100000 in
set_option maxHeartbeats 2000000 in
theorem calm_any {w0 w : World} {v : Value} {l : List Opn} (hx0 : Ext w0 w) (hv : IsOps w0 v l) (hn : l.length ≤ 1000) :
    Calls Tryz.prog 31 #[v] w fun e w' => CalmPost w0 w (calmL l) e w' := by
  obtain ⟨a, cap, rfl, h1, h2, h3, h4⟩ := ops_cells hv
  have H4 : Hid _ := h4
  have HX0 : Hid _ := hx0
  clear h4 hv hx0
  go_enter Tryz.func31, Tryz.ntmps31
  go_wp2
  go_loopw [3, 4] (fun v i wr => ∃ (k n : Nat) (css : List (List Value)), k ≤ l.length ∧ i = .int .i64 k ∧ (calmL (l.take k)).length = n ∧ wr.ownsRow w.heap.size 48 8 v n css.flatten ∧ Each (IsOpn w0) css (calmL (l.take k)) ∧ Ext w wr) (fun _ i _ => l.length - (intOf i).toNat)
  case atStart => exact ⟨0, 0, [], Nat.zero_le _, rfl, rfl, World.ownsRow_nil _ _ _ _, Each.nil _, Ext.refl _⟩
  case round =>
    obtain ⟨k, n, css, hk, rfl, hn9, hown, heach, hx⟩ := hrel
    have hnk : n ≤ l.length := by rw [← hn9]; exact Nat.le_trans (calm_len _) (List.length_take_le' _ _)
    have HEA : Hid _ := heach
    have HN9 : Hid _ := hn9
    clear heach hn9
    by_cases hlt : k < l.length
    · obtain ⟨e, hke⟩ : ∃ e, l[k]? = some e := ⟨_, List.getElem?_eq_getElem hlt⟩
      obtain ⟨b, o, cs, rfl, hop, hc⟩ := H4.out k e hke
      have HOP : Hid _ := hop
      obtain ⟨vd, vp, rfl, hd, hpl⟩ := id hop
      obtain ⟨d1, d2, rfl, -⟩ := id hd.bytes
      obtain ⟨_, ⟨p1, p2, rfl, -⟩, -⟩ := id hpl
      have HSN : Hid _ := calm_snoc hke
      have hxw := Ext.trans HX0.out hx
      have c0 := hxw.cell (hc 0 _ rfl)
      have c1 := hxw.cell (hc 1 _ rfl)
      have c2 := hxw.cell (hc 2 _ rfl)
      have c3 := hxw.cell (hc 3 _ rfl)
      have c4 := hxw.cell (hc 4 _ rfl)
      have c5 := hxw.cell (hc 5 _ rfl)
      have c6 := hxw.cell (hc 6 _ rfl)
      have c7 := hxw.cell (hc 7 _ rfl)
      simp only [Nat.add_zero] at c0
      have hsz := hx.size
      clear hop hd hpl hc hke hxw
      by_cases k7 : e.kind ≤ 7
      · by_cases k0 : 0 ≤ e.kind
        · have HC : Hid (calmO e = true) := by unfold Hid calmO; simp [k7, k0]
          go_wp2_with (at_builtin; go_must (refine app_opn rfl _ _ rfl w.heap.size _ n _ rfl (hown.alloc _) wr.heap.size 1 [.int .i64 e.kind, .int .i64 e.mode, .int .i64 e.keep, .int .i64 e.torn, S8 e.path, S8 e.dest, .slice d1 e.data.length d2, .slice p1 e.plan.length p2] rfl rfl (alloc_at _ _) (by simp [Value.oneCell']) (by omega) (by simp; omega) ?_; intro v' w3 hown3 hg3))
          go_roundw
          case rel =>
            refine ⟨k + 1, n + 1, css ++ [[.int .i64 e.kind, .int .i64 e.mode, .int .i64 e.keep, .int .i64 e.torn, S8 e.path, S8 e.dest, .slice d1 e.data.length d2, .slice p1 e.plan.length p2]], by omega, by go_num, ?_, ?_, ?_, owns_ext_app (hx.alloc _) (hown.alloc _) hg3⟩
            · rw [HSN.out, if_pos HC.out, List.length_append, HN9.out]; rfl
            · rw [List.flatten_append]
              simpa using hown3
            · rw [HSN.out, if_pos HC.out]; exact Each.snoc HEA.out HOP.out
          case measure => simp [intOf]; omega
        · have HC : Hid (¬ calmO e = true) := by unfold Hid calmO; simp [k0]
          go_wp2
          go_roundw
          case rel => exact ⟨k + 1, n, css, by omega, by go_num, by rw [HSN.out, if_neg HC.out, List.append_nil]; exact HN9.out, hown, by rw [HSN.out, if_neg HC.out, List.append_nil]; exact HEA.out, hx⟩
          case measure => simp [intOf]; omega
      · have HC : Hid (¬ calmO e = true) := by unfold Hid calmO; simp [k7]
        go_wp2
        go_roundw
        case rel => exact ⟨k + 1, n, css, by omega, by go_num, by rw [HSN.out, if_neg HC.out, List.append_nil]; exact HN9.out, hown, by rw [HSN.out, if_neg HC.out, List.append_nil]; exact HEA.out, hx⟩
        case measure => simp [intOf]; omega
    · have hkk : k = l.length := by omega
      subst hkk
      have he := HEA.out
      have hn9 := HN9.out
      rw [List.take_length] at he hn9
      subst hn9
      have HR : Hid (∃ css : List (List Value), wr.ownsRow w.heap.size 48 8 u3 (calmL l).length css.flatten ∧ Each (IsOpn w0) css (calmL l)) := ⟨css, hown, he⟩
      clear hown he
      go_wp2
      go_ret
      exact ⟨⟨_, rfl, HR.out⟩, hx⟩

end Go.Proofs.YtoajnaopainpnaaGreatDoor
