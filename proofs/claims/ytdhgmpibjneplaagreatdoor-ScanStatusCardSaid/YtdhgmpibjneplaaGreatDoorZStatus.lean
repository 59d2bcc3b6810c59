/- marlaw13.ScanStatus: whatever the input, the law returns true, and the input reads as it did: its row's statement and its tied card. Conditions: what the row lists: the library's variables hold what the program's text lays. -/
import Derived.Test.YtdhgmpibjneplaaGreatDoorZal
import Derived.Test.YtdhgmpibjneplaaGreatDoorZam

set_option linter.unusedVariables false
set_option linter.unusedSimpArgs false
set_option linter.unusedSectionVars false

/-! marlaw13.ScanStatus. Conditions: as each theorem states. -/
namespace Go.Proofs.YtdhgmpibjneplaaGreatDoor
open Go Go.RowKit Go.Sort
set_option linter.unusedVariables false
set_option linter.unusedSimpArgs false
set_option linter.unusedSectionVars false

theorem tab_small {l : List Rw} (h : l.length ≤ 100 ∧ ∀ r ∈ l, r.path.length ≤ 400 ∧ r.id.length ≤ 400) : l.length ≤ 1000 ∧ ∀ r ∈ l, r.path.length ≤ 1000 := ⟨by omega, fun r hr => by have := (h.2 r hr).1; omega⟩

variable [Inhabited BaseW]
section
variable [KW : Inhabited KeptW]
set_option maxRecDepth 100000 in
set_option maxHeartbeats 16000000 in
theorem scanStatus_kept (hkp : ∀ k, keptW k = none) (va vb : Value) (a b : List Rw) (w : World) (hE : Env w) (hS : EnvS w) (hva : IsRws w va a) (hvb : IsRws w vb b) :
    Calls Tryz.prog 4 #[va, vb] w fun e w' => e = .returned (.bool true) ∧ Ext w w' := by
  obtain ⟨aa, ac, rfl, -⟩ := hva.cells
  obtain ⟨ba, bc, rfl, -⟩ := hvb.cells
  have HVA : Hid (IsRws w (.slice aa a.length ac) a) := hva
  have HVB : Hid (IsRws w (.slice ba b.length bc) b) := hvb
  have HF : Hid (∀ w', Ext w w' → Calls Tryz.prog 8 #[] w' fun e w'' => e = .returned (.bool true) ∧ Ext w' w'') := fun w' hx => first13_any hkp w' (hE.ext hx) (hS.ext hx)
  clear hva hvb hkp hE hS
  go_enter Tryz.func4, Tryz.ntmps4
  go_wp2_with fail
  go_at_call 8
  refine (HF.out w (Ext.refl _)).mono ?_
  rintro e w1 ⟨rfl, hx1⟩
  have HX1 : Hid (Ext w w1) := hx1
  clear hx1
  go_wp2_with fail
  go_at_call 18
  refine (table13_any _ a w1 (HVA.out.ext HX1.out)).mono ?_
  rintro e w2 ⟨ta, rfl, rfl, hta⟩
  have HTA0 : Hid (ta = true → a.length ≤ 100 ∧ ∀ r ∈ a, r.path.length ≤ 400 ∧ r.id.length ≤ 400) := hta
  clear hta
  obtain ⟨w1, rfl⟩ : ∃ w1 : World, w1 = w2 := ⟨_, rfl⟩
  cases ta with
  | false =>
    go_wp2_with fail
    go_at_call 8
    refine (HF.out _ HX1.out).mono ?_
    rintro e wz ⟨rfl, hxz⟩
    go_wp2
    go_ret
    exact ⟨rfl, HX1.out.trans hxz⟩
  | true =>
  have HTA : Hid (a.length ≤ 100 ∧ ∀ r ∈ a, r.path.length ≤ 400 ∧ r.id.length ≤ 400) := HTA0.out rfl
  go_wp2_with fail
  go_at_call 18
  refine (table13_any _ b w1 (HVB.out.ext HX1.out)).mono ?_
  rintro e w2 ⟨tb, rfl, rfl, htb⟩
  have HTB0 : Hid (tb = true → b.length ≤ 100 ∧ ∀ r ∈ b, r.path.length ≤ 400 ∧ r.id.length ≤ 400) := htb
  clear htb
  obtain ⟨w1, rfl⟩ : ∃ w1 : World, w1 = w2 := ⟨_, rfl⟩
  cases tb with
  | false =>
    go_wp2_with fail
    go_at_call 8
    refine (HF.out _ HX1.out).mono ?_
    rintro e wz ⟨rfl, hxz⟩
    go_wp2
    go_ret
    exact ⟨rfl, HX1.out.trans hxz⟩
  | true =>
  have HTB : Hid (b.length ≤ 100 ∧ ∀ r ∈ b, r.path.length ≤ 400 ∧ r.id.length ≤ 400) := HTB0.out rfl
  obtain ⟨ma, hma⟩ : ∃ c, mayT a = c := ⟨_, rfl⟩
  obtain ⟨mb, hmb⟩ : ∃ c, mayT b = c := ⟨_, rfl⟩
  have HMA : Hid _ := hma
  have HMB : Hid _ := hmb
  clear hma hmb
  go_wp2_with fail
  go_at_call 19
  refine (rmay16_any _ a w1 (HVA.out.ext HX1.out) HTA.out.2).mono ?_
  rw [HMA.out]
  rintro e w2 ⟨rfl, hx2⟩
  have HX2 : Hid (Ext w w2) := HX1.out.trans hx2
  clear hx2
  cases ma with
  | false =>
    go_wp2_with fail
    go_at_call 8
    refine (HF.out _ HX2.out).mono ?_
    rintro e wz ⟨rfl, hxz⟩
    go_wp2
    go_ret
    exact ⟨rfl, HX2.out.trans hxz⟩
  | true =>
  go_wp2_with fail
  go_at_call 19
  refine (rmay16_any _ b w2 (HVB.out.ext HX2.out) HTB.out.2).mono ?_
  rw [HMB.out]
  rintro e w3 ⟨rfl, hx3⟩
  have HX3 : Hid (Ext w w3) := HX2.out.trans hx3
  clear hx3
  cases mb with
  | false =>
    go_wp2_with fail
    go_at_call 8
    refine (HF.out _ HX3.out).mono ?_
    rintro e wz ⟨rfl, hxz⟩
    go_wp2
    go_ret
    exact ⟨rfl, HX3.out.trans hxz⟩
  | true =>
  go_wp2_with fail
  go_at_call 20
  refine (sstat_any _ _ a b w3 (HVA.out.ext HX3.out) (HVB.out.ext HX3.out) (tab_small HTA.out) (tab_small HTB.out)).mono ?_
  have HSAA : Hid (statM a a = []) := stat_self a
  have hsl : (statM a b).length ≤ 200 := by
    have h1 := HTA.out.1
    have h2 := HTB.out.1
    refine Nat.le_trans (difL_len a b _) (Nat.le_trans (uniqT_len _) ?_)
    rw [List.length_append, List.length_map, List.length_map]
    omega
  obtain ⟨L, hL⟩ : ∃ L, statM a b = L := ⟨_, rfl⟩
  have HL : Hid _ := hL
  rw [hL] at hsl ⊢
  clear hL
  rintro e w4 ⟨⟨vx, rfl, hvx⟩, hx4⟩
  have hix : IsChs w4 vx L := Row.of_owns hvx (by omega)
  have HX4 : Hid (Ext w w4) := HX3.out.trans hx4
  obtain ⟨xa, xc, rfl, x1, x2, x3, hxg⟩ := hix.get
  have HXG : Hid _ := hxg
  clear hvx hx4 hix hxg
  go_wp2_with fail
  go_at_call 21
  refine (rstat_any _ _ a b w4 (HVA.out.ext HX4.out) (HVB.out.ext HX4.out) (tab_small HTA.out) (tab_small HTB.out)).mono ?_
  rw [HL.out]
  rintro e w5 ⟨⟨vy, rfl, hvy⟩, hx5⟩
  have hiy : IsChs w5 vy L := Row.of_owns hvy (by omega)
  have HX45 : Hid (Ext w4 w5) := hx5
  have HX5 : Hid (Ext w w5) := HX4.out.trans hx5
  obtain ⟨ya, yc, rfl, y1, y2, y3, hyg⟩ := hiy.get
  have HYG : Hid _ := hyg
  clear hvy hx5 hiy hyg
  go_wp2_with fail
  go_loopw [7] (fun i wr => ∃ k : Nat, k ≤ L.length ∧ i = .int .i64 k ∧ Hid (Ext w5 wr)) (fun i _ => L.length - (intOf i).toNat)
  case atStart => exact ⟨0, Nat.zero_le _, rfl, Ext.refl _⟩
  case round =>
  obtain ⟨k, hk, rfl, HX⟩ := hrel
  by_cases hlt : k < L.length
  case neg =>
    have hkk : k = L.length := by omega
    subst hkk
    have HXR : Hid (Ext w wr) := HX5.out.trans HX.out
    go_wp2_with fail
    go_at_call 8
    refine (HF.out wr HXR.out).mono ?_
    rintro e w6 ⟨rfl, hx6⟩
    have HX6 : Hid (Ext w w6) := HXR.out.trans hx6
    clear hx6
    go_wp2_with fail
    go_at_call 20
    refine (sstat_any _ _ a a w6 (HVA.out.ext HX6.out) (HVA.out.ext HX6.out) (tab_small HTA.out) (tab_small HTA.out)).mono ?_
    rw [HSAA.out]
    rintro e w7 ⟨⟨vz, rfl, hvz⟩, hx7⟩
    have HX7 : Hid (Ext w w7) := HX6.out.trans hx7
    have hiz : IsChs w7 vz [] := Row.of_owns hvz (by simp)
    obtain ⟨za, zc, rfl, -⟩ := hiz.get
    clear hvz hx7 hiz
    go_wp2
    go_ret
    exact ⟨rfl, HX7.out⟩
  obtain ⟨c, hc⟩ : ∃ c, L[k]? = some c := ⟨_, List.getElem?_eq_getElem hlt⟩
  obtain ⟨xb, xo, rfl, p0, p1, p2, p3, p4⟩ := HXG.out k c hc
  obtain ⟨yb, yo, rfl, r0, r1, r2, r3, r4⟩ := HYG.out k c hc
  have hxr := HX45.out.trans HX.out
  replace p0 := hxr.cell p0
  replace p1 := hxr.cell p1
  replace p2 := hxr.cell p2
  replace p3 := hxr.cell p3
  replace p4 := hxr.cell p4
  replace r0 := HX.out.cell r0
  replace r1 := HX.out.cell r1
  replace r2 := HX.out.cell r2
  replace r3 := HX.out.cell r3
  replace r4 := HX.out.cell r4
  have n1 := fun w => neq_ent c.old c.old w
  have n2 := fun w => neq_ent c.new c.new w
  rw [show (c.old != c.old) = false by simp] at n1
  rw [show (c.new != c.new) = false by simp] at n2
  have hxx := fun n => HX.out.trans (Ext.drawn wr n)
  obtain ⟨cp, ⟨om, oi⟩, ⟨nm, ni⟩⟩ := c
  dsimp only at p0 p1 p2 p3 p4 r0 r1 r2 r3 r4 n1 n2
  clear hc hxr
  go_upto_region 11 with fail
  go_quiet (fail)
  clear p0 p1 p2 p3 p4 r0 r1 r2 r3 r4 n1 n2
  go_wp2_with fail
  go_roundw
  case rel => exact ⟨k + 1, by omega, by go_num, hxx _⟩
  case measure => simp [intOf]; omega
end
theorem scanStatus_any (va vb : Value) (a b : List Rw) (w : World) (hE : Env w) (hS : EnvS w) (hva : IsRws w va a) (hvb : IsRws w vb b) :
    Calls Tryz.prog 4 #[va, vb] w fun e w' => e = .returned (.bool true) ∧ Ext w w' :=
  scanStatus_kept (KW := ⟨⟨fun _ => none⟩⟩) (fun _ => rfl) va vb a b w hE hS hva hvb

end Go.Proofs.YtdhgmpibjneplaaGreatDoor

/-! marlaw13.ScanStatus: whatever the input, the law returns true, and the input reads as it did: its row's statement and its tied card. Conditions: what the row lists: the library's variables hold what the program's text lays. -/
namespace Go.Proofs.YtdhgmpibjneplaaGreatDoor.scanStatus
open Go Go.ChangeShapes Go.WideShapes Go.ChangeAt Go.RowKit Go.Deep

set_option maxRecDepth 100000 in
theorem contract (H : Type) (enc : TypeId × Value → H) (W : World) (base : Nat) (args : Array Value) (ds gs : List (DataW H)) (before : List MemPlace)
    (hval : ∀ (j : Nat) t v, Tryz.f4.params[j]? = some t → args[j]? = some v → Value.okWide Tryz.prog W .any base t v)
    (hW : DataW.Whole enc Tryz.prog Tryz.f4.params.toList Rows.scanStatusSpec.vars false W args.toList ds gs before)
    (hsz : (DataW.weightsEach Tryz.prog (Tryz.f4.params.toList ++ (OpenSpec.ofChange Rows.scanStatusSpec).bare.plain.varTypes Tryz.prog) (ds ++ gs)).all (· ≤ reachBytes) = true)
    (hL : laidMetH Tryz.prog Rows.scanStatusRow.laid W) (hS : W.ShapedOpen Tryz.prog) :
    Calls Tryz.prog 4 args W fun e W' => ∃ v, e = .returned v ∧ Rows.scanStatusSpec.post enc Tryz.prog Tryz.f4 false true false false W args v W' := by
  have hW' := hW
  obtain ⟨p, q, hA0, hV, rfl, hfz, hnd⟩ := hW
  have hA : DataW.TrodAll enc Tryz.prog W 0 (fun _ => true) true Tryz.f4.params.toList args.toList ds p := hA0
  obtain ⟨rfl, rfl⟩ := trodVars_none hV
  clear hA0
  simp only [List.append_nil] at hW'
  have hE : Env W := env_of hS
  have hES : EnvS W := envS_of (by rw [MakeChecks.laidMetH_plain _ _ _ (by kernel_rfl)] at hL; exact hL) hS
  letI : Inhabited BaseW := ⟨⟨W⟩⟩
  have hBW : baseW = W := rfl
  have hBE : Ext baseW W := Ext.refl W
  have hAll := hA
  have hlt : ∀ x ∈ p, x.block < W.heap.size := fun x hx => by simpa using hW'.lt x (by simpa using hx)
  rw [Tryz.params4] at hA hval hsz
  obtain ⟨v0, vs0, d0, ds0, p0, q0, ha0, hd0, hp0, h0, hA⟩ := trodAll_cons hA
  obtain ⟨v1, vs1, d1, ds1, p1, q1, ha1, hd1, hp1, h1, hA⟩ := trodAll_cons hA
  obtain ⟨hn0, hn1, hn2⟩ := trodAll_nil hA
  subst hn0 hn1 hn2
  subst hp1 hd1 ha1
  subst hp0 hd0
  obtain rfl : args = #[v0, v1] := by cases args; simp_all
  clear ha0
  have hv0 := hval 0 41 v0 rfl rfl
  obtain ⟨a, ha, hia⟩ := arg_rows (j := 0) hv0 h0 hsz rfl rfl
  have hv1 := hval 1 41 v1 rfl rfl
  obtain ⟨b, hb, hib⟩ := arg_rows (j := 1) hv1 h1 hsz rfl rfl
  refine (scanStatus_any v0 v1 a b W hE hES ha hb).mono fun e W' ⟨he, hg⟩ => ?_
  subst he
  have harg := trodAll_below laidOut hg hAll hlt (by rw [Tryz.params4]; exact fun t ht => by simp only [List.mem_cons, List.not_mem_nil, or_false] at ht; rcases ht with rfl | rfl <;> exact ⟨by kernel_rfl, of_decide_eq_true (by kernel_rfl)⟩)
  exact ⟨_, rfl, _, _, _, [], _, [], hW', trodAll_mk1 (shut_bool Tryz.underlying4 _), harg, rfl, hg.frame _, fun h => by cases h⟩

theorem laid_met (os : Os) : laidMetH Tryz.prog Rows.scanStatusRow.laid ((World.laidAll Tryz.prog os Rows.scanStatusRow.laid).forCall (fun _ _ => 0) ⟨#[], #[.slice none 0 0, .slice none 0 0], []⟩).memory := by
  rw [MakeChecks.laidMetH_plain _ _ _ (by kernel_rfl)]
  exact laidMet_laidAll _ (by kernel_rfl) (by kernel_rfl)
theorem reads (os : Os) {H : Type} (enc : TypeId × Value → H) : ∃ places, DataW.whole enc Tryz.prog ((World.laidAll Tryz.prog os Rows.scanStatusRow.laid).forCall (fun _ _ => 0) ⟨#[], #[.slice none 0 0, .slice none 0 0], []⟩).memory Tryz.f4.params.toList Rows.scanStatusSpec.vars false #[.slice none 0 0, .slice none 0 0].toList 8 = some ([.nil, .nil], [], places) :=
  ⟨[], by kernel_rfl⟩

set_option maxRecDepth 100000 in
theorem lifted (os : Os) (started : os.Started) (H : Type) (enc : TypeId × Value → H) (F : Stop.Interp) :
    ReturnsInHanded {} Tryz.checked os 4 .any ((OpenSpec.ofChange Rows.scanStatusSpec).preRow enc Tryz.prog Tryz.f4 Rows.scanStatusRow.domain false Rows.scanStatusRow.laid) (((OpenSpec.ofChange Rows.scanStatusSpec).at F).post enc Tryz.prog Tryz.f4 false true false false) := by
  obtain ⟨places, hx⟩ := reads os enc
  refine returnsInHanded_of_row (C := Tryz.checked) (s := OpenSpec.ofChange Rows.scanStatusSpec) own started (by kernel_rfl) Tryz.func4
    (witness_row_at (enc := enc) (C := Tryz.checked) false (World.laidAll Tryz.prog os Rows.scanStatusRow.laid) #[.slice none 0 0, .slice none 0 0] (World.laidAll_os _ _ _) (by kernel_rfl) (by kernel_rfl) (by kernel_rfl)
      (OpenSpec.preRow_of_cond 8 hx (by kernel_rfl) (fun k hk => by cases hk) (by kernel_rfl) (laid_met os))) ?_
  intro W base args ds gs before hval hW _ _ hsz hL hS _
  exact contract H enc W base args ds gs before hval hW hsz hL hS

theorem said : Rows.ScanStatusSaid :=
  OpenClaim.holds_of_cond 4 Tryz.f4 rfl rfl rfl rfl rfl rfl rfl ⟨rfl, rfl, rfl, rfl, rfl⟩ rfl rfl rfl rfl rfl (by kernel_rfl) Tryz.func4 (by kernel_rfl)
    (of_decide_eq_true (by kernel_rfl)) (by unfold Func.isWrapper; first | (rw [if_pos (by decide +kernel)]; kernel_rfl) | (rw [if_neg (by decide +kernel)]; exact ⟨rfl, rfl⟩))
    (fun os started H enc _ F => by rw [OpenClaim.pre_eq_preRow]; exact lifted os started H enc F)

theorem plain (f : FuncId) (fn : Func) (hf : Tryz.pinned.checked.prog.funcNamed "marline/marlaw13.ScanStatus" = some f) (hfn : Tryz.pinned.checked.prog.funcs[f]? = some fn) :
    false = Tryz.pinned.checked.prog.looks [] ∧ ∀ (j : Nat) t, fn.params[j]? = some t → Tryz.pinned.checked.prog.wantsStandIn t = false := by
  obtain rfl : f = 4 := Option.some.inj ((show Tryz.prog.funcNamed "marline/marlaw13.ScanStatus" = some 4 by kernel_rfl).symm.trans hf) |>.symm
  obtain rfl : fn = Tryz.f4 := (Option.some.inj (Tryz.func4.symm.trans hfn)).symm
  refine ⟨by kernel_rfl, fun j t ht => ?_⟩
  rw [Tryz.params4] at ht
  have hm : t ∈ [41, 41] := by simpa using Array.mem_of_getElem? ht
  simp only [List.mem_cons, List.not_mem_nil, or_false] at hm
  rcases hm with rfl | rfl
  · exact (show Tryz.prog.wantsStandIn 41 = false by kernel_rfl)
  · exact (show Tryz.prog.wantsStandIn 41 = false by kernel_rfl)

/-- The card. -/
theorem card : Rows.ScanStatusCardSaid :=
  Claim7.holds_tied_plain_at .later [] _ _ _ _ said (fun _ h => by cases h) (by kernel_rfl) (fun _ h => by cases h) scanStatus_row_tie rfl ⟨rfl, rfl⟩ (by kernel_rfl) rfl plain (by kernel_rfl)

end Go.Proofs.YtdhgmpibjneplaaGreatDoor.scanStatus
