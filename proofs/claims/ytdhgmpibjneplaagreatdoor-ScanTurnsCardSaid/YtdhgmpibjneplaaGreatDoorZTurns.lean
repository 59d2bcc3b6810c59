/- marlaw13.ScanTurns: whatever the input, the law returns true, and the input reads as it did: its row's statement and its tied card. Conditions: what the row lists: the library's variables hold what the program's text lays. -/
import Derived.Test.YtdhgmpibjneplaaGreatDoorZal
import Derived.Test.YtdhgmpibjneplaaGreatDoorZaf
import Derived.Test.YtdhgmpibjneplaaGreatDoorZam

set_option linter.unusedVariables false
set_option linter.unusedSimpArgs false
set_option linter.unusedSectionVars false

/-! marlaw13.ScanStatus. Conditions: as each theorem states. -/
namespace Go.Proofs.YtdhgmpibjneplaaGreatDoor
open Go Go.RowKit Go.Sort
set_option linter.unusedVariables false
set_option linter.unusedSimpArgs false
set_option linter.unusedSectionVars false

theorem tab_small {l : List Rw} (h : l.length ≤ 100 ∧ ∀ r ∈ l, r.path.length ≤ 400 ∧ r.id.length ≤ 400) : l.length ≤ 1000 ∧ ∀ r ∈ l, r.path.length ≤ 1000 := ⟨by omega, fun r hr => by have := (h.2 r hr).1; omega⟩

variable [Inhabited BaseW]
section
variable [KW : Inhabited KeptW]
set_option maxRecDepth 100000 in
set_option maxHeartbeats 16000000 in
theorem scanStatus_kept (hkp : ∀ k, keptW k = none) (va vb : Value) (a b : List Rw) (w : World) (hE : Env w) (hS : EnvS w) (hva : IsRws w va a) (hvb : IsRws w vb b) :
    Calls Tryz.prog 4 #[va, vb] w fun e w' => e = .returned (.bool true) ∧ Ext w w' := by
  obtain ⟨aa, ac, rfl, -⟩ := hva.cells
  obtain ⟨ba, bc, rfl, -⟩ := hvb.cells
  have HVA : Hid (IsRws w (.slice aa a.length ac) a) := hva
  have HVB : Hid (IsRws w (.slice ba b.length bc) b) := hvb
  have HF : Hid (∀ w', Ext w w' → Calls Tryz.prog 8 #[] w' fun e w'' => e = .returned (.bool true) ∧ Ext w' w'') := fun w' hx => first13_any hkp w' (hE.ext hx) (hS.ext hx)
  clear hva hvb hkp hE hS
  go_enter Tryz.func4, Tryz.ntmps4
  go_wp2_with fail
  go_at_call 8
  refine (HF.out w (Ext.refl _)).mono ?_
  rintro e w1 ⟨rfl, hx1⟩
  have HX1 : Hid (Ext w w1) := hx1
  clear hx1
  go_wp2_with fail
  go_at_call 18
  refine (table13_any _ a w1 (HVA.out.ext HX1.out)).mono ?_
  rintro e w2 ⟨ta, rfl, rfl, hta⟩
  have HTA0 : Hid (ta = true → a.length ≤ 100 ∧ ∀ r ∈ a, r.path.length ≤ 400 ∧ r.id.length ≤ 400) := hta
  clear hta
  obtain ⟨w1, rfl⟩ : ∃ w1 : World, w1 = w2 := ⟨_, rfl⟩
  cases ta with
  | false =>
    go_wp2_with fail
    go_at_call 8
    refine (HF.out _ HX1.out).mono ?_
    rintro e wz ⟨rfl, hxz⟩
    go_wp2
    go_ret
    exact ⟨rfl, HX1.out.trans hxz⟩
  | true =>
  have HTA : Hid (a.length ≤ 100 ∧ ∀ r ∈ a, r.path.length ≤ 400 ∧ r.id.length ≤ 400) := HTA0.out rfl
  go_wp2_with fail
  go_at_call 18
  refine (table13_any _ b w1 (HVB.out.ext HX1.out)).mono ?_
  rintro e w2 ⟨tb, rfl, rfl, htb⟩
  have HTB0 : Hid (tb = true → b.length ≤ 100 ∧ ∀ r ∈ b, r.path.length ≤ 400 ∧ r.id.length ≤ 400) := htb
  clear htb
  obtain ⟨w1, rfl⟩ : ∃ w1 : World, w1 = w2 := ⟨_, rfl⟩
  cases tb with
  | false =>
    go_wp2_with fail
    go_at_call 8
    refine (HF.out _ HX1.out).mono ?_
    rintro e wz ⟨rfl, hxz⟩
    go_wp2
    go_ret
    exact ⟨rfl, HX1.out.trans hxz⟩
  | true =>
  have HTB : Hid (b.length ≤ 100 ∧ ∀ r ∈ b, r.path.length ≤ 400 ∧ r.id.length ≤ 400) := HTB0.out rfl
  obtain ⟨ma, hma⟩ : ∃ c, mayT a = c := ⟨_, rfl⟩
  obtain ⟨mb, hmb⟩ : ∃ c, mayT b = c := ⟨_, rfl⟩
  have HMA : Hid _ := hma
  have HMB : Hid _ := hmb
  clear hma hmb
  go_wp2_with fail
  go_at_call 19
  refine (rmay16_any _ a w1 (HVA.out.ext HX1.out) HTA.out.2).mono ?_
  rw [HMA.out]
  rintro e w2 ⟨rfl, hx2⟩
  have HX2 : Hid (Ext w w2) := HX1.out.trans hx2
  clear hx2
  cases ma with
  | false =>
    go_wp2_with fail
    go_at_call 8
    refine (HF.out _ HX2.out).mono ?_
    rintro e wz ⟨rfl, hxz⟩
    go_wp2
    go_ret
    exact ⟨rfl, HX2.out.trans hxz⟩
  | true =>
  go_wp2_with fail
  go_at_call 19
  refine (rmay16_any _ b w2 (HVB.out.ext HX2.out) HTB.out.2).mono ?_
  rw [HMB.out]
  rintro e w3 ⟨rfl, hx3⟩
  have HX3 : Hid (Ext w w3) := HX2.out.trans hx3
  clear hx3
  cases mb with
  | false =>
    go_wp2_with fail
    go_at_call 8
    refine (HF.out _ HX3.out).mono ?_
    rintro e wz ⟨rfl, hxz⟩
    go_wp2
    go_ret
    exact ⟨rfl, HX3.out.trans hxz⟩
  | true =>
  go_wp2_with fail
  go_at_call 20
  refine (sstat_any _ _ a b w3 (HVA.out.ext HX3.out) (HVB.out.ext HX3.out) (tab_small HTA.out) (tab_small HTB.out)).mono ?_
  have HSAA : Hid (statM a a = []) := stat_self a
  have hsl : (statM a b).length ≤ 200 := by
    have h1 := HTA.out.1
    have h2 := HTB.out.1
    refine Nat.le_trans (difL_len a b _) (Nat.le_trans (uniqT_len _) ?_)
    rw [List.length_append, List.length_map, List.length_map]
    omega
  obtain ⟨L, hL⟩ : ∃ L, statM a b = L := ⟨_, rfl⟩
  have HL : Hid _ := hL
  rw [hL] at hsl ⊢
  clear hL
  rintro e w4 ⟨⟨vx, rfl, hvx⟩, hx4⟩
  have hix : IsChs w4 vx L := Row.of_owns hvx (by omega)
  have HX4 : Hid (Ext w w4) := HX3.out.trans hx4
  obtain ⟨xa, xc, rfl, x1, x2, x3, hxg⟩ := hix.get
  have HXG : Hid _ := hxg
  clear hvx hx4 hix hxg
  go_wp2_with fail
  go_at_call 21
  refine (rstat_any _ _ a b w4 (HVA.out.ext HX4.out) (HVB.out.ext HX4.out) (tab_small HTA.out) (tab_small HTB.out)).mono ?_
  rw [HL.out]
  rintro e w5 ⟨⟨vy, rfl, hvy⟩, hx5⟩
  have hiy : IsChs w5 vy L := Row.of_owns hvy (by omega)
  have HX45 : Hid (Ext w4 w5) := hx5
  have HX5 : Hid (Ext w w5) := HX4.out.trans hx5
  obtain ⟨ya, yc, rfl, y1, y2, y3, hyg⟩ := hiy.get
  have HYG : Hid _ := hyg
  clear hvy hx5 hiy hyg
  go_wp2_with fail
  go_loopw [7] (fun i wr => ∃ k : Nat, k ≤ L.length ∧ i = .int .i64 k ∧ Hid (Ext w5 wr)) (fun i _ => L.length - (intOf i).toNat)
  case atStart => exact ⟨0, Nat.zero_le _, rfl, Ext.refl _⟩
  case round =>
  obtain ⟨k, hk, rfl, HX⟩ := hrel
  by_cases hlt : k < L.length
  case neg =>
    have hkk : k = L.length := by omega
    subst hkk
    have HXR : Hid (Ext w wr) := HX5.out.trans HX.out
    go_wp2_with fail
    go_at_call 8
    refine (HF.out wr HXR.out).mono ?_
    rintro e w6 ⟨rfl, hx6⟩
    have HX6 : Hid (Ext w w6) := HXR.out.trans hx6
    clear hx6
    go_wp2_with fail
    go_at_call 20
    refine (sstat_any _ _ a a w6 (HVA.out.ext HX6.out) (HVA.out.ext HX6.out) (tab_small HTA.out) (tab_small HTA.out)).mono ?_
    rw [HSAA.out]
    rintro e w7 ⟨⟨vz, rfl, hvz⟩, hx7⟩
    have HX7 : Hid (Ext w w7) := HX6.out.trans hx7
    have hiz : IsChs w7 vz [] := Row.of_owns hvz (by simp)
    obtain ⟨za, zc, rfl, -⟩ := hiz.get
    clear hvz hx7 hiz
    go_wp2
    go_ret
    exact ⟨rfl, HX7.out⟩
  obtain ⟨c, hc⟩ : ∃ c, L[k]? = some c := ⟨_, List.getElem?_eq_getElem hlt⟩
  obtain ⟨xb, xo, rfl, p0, p1, p2, p3, p4⟩ := HXG.out k c hc
  obtain ⟨yb, yo, rfl, r0, r1, r2, r3, r4⟩ := HYG.out k c hc
  have hxr := HX45.out.trans HX.out
  replace p0 := hxr.cell p0
  replace p1 := hxr.cell p1
  replace p2 := hxr.cell p2
  replace p3 := hxr.cell p3
  replace p4 := hxr.cell p4
  replace r0 := HX.out.cell r0
  replace r1 := HX.out.cell r1
  replace r2 := HX.out.cell r2
  replace r3 := HX.out.cell r3
  replace r4 := HX.out.cell r4
  have n1 := fun w => neq_ent c.old c.old w
  have n2 := fun w => neq_ent c.new c.new w
  rw [show (c.old != c.old) = false by simp] at n1
  rw [show (c.new != c.new) = false by simp] at n2
  have hxx := fun n => HX.out.trans (Ext.drawn wr n)
  obtain ⟨cp, ⟨om, oi⟩, ⟨nm, ni⟩⟩ := c
  dsimp only at p0 p1 p2 p3 p4 r0 r1 r2 r3 r4 n1 n2
  clear hc hxr
  go_upto_region 11 with fail
  go_quiet (fail)
  clear p0 p1 p2 p3 p4 r0 r1 r2 r3 r4 n1 n2
  go_wp2_with fail
  go_roundw
  case rel => exact ⟨k + 1, by omega, by go_num, hxx _⟩
  case measure => simp [intOf]; omega
end
theorem scanStatus_any (va vb : Value) (a b : List Rw) (w : World) (hE : Env w) (hS : EnvS w) (hva : IsRws w va a) (hvb : IsRws w vb b) :
    Calls Tryz.prog 4 #[va, vb] w fun e w' => e = .returned (.bool true) ∧ Ext w w' :=
  scanStatus_kept (KW := ⟨⟨fun _ => none⟩⟩) (fun _ => rfl) va vb a b w hE hS hva hvb

end Go.Proofs.YtdhgmpibjneplaaGreatDoor

/-! marlaw13.ScanTurns. Conditions: as each theorem states. -/
namespace Go.Proofs.YtdhgmpibjneplaaGreatDoor
open Go Go.RowKit Go.Sort
set_option linter.unusedVariables false
set_option linter.unusedSimpArgs false
set_option linter.unusedSectionVars false

theorem stat_at {a b : List Rw} {k : Nat} {c : Chg} (h : (statM a b)[k]? = some c) : entG a c.path = c.old ∧ c.old ≠ c.new := by
  have hm := List.mem_of_getElem? h
  unfold statM difL at hm
  obtain ⟨p, hp, rfl⟩ := List.mem_map.1 hm
  exact ⟨rfl, by simpa using (List.mem_filter.1 hp).2⟩
theorem stat_lt {a b : List Rw} {j : Nat} {c d : Chg} (hc : (statM a b)[j]? = some c) (hd : (statM a b)[j + 1]? = some d) : ltB c.path d.path = true :=
  rise_lt (stat_rise a b) (i := j) (j := j + 1) (by rw [List.getElem?_map, hc]; rfl) (by rw [List.getElem?_map, hd]; rfl) (by omega)
theorem done_snoc {a : List Rw} {L : List Chg} {k : Nat} {c : Chg} (h : L[k]? = some c) : doneR a (L.take (k + 1)) = setR (doneR a (L.take k)) ⟨c.path, c.new.1, c.new.2⟩ := by
  unfold doneR
  rw [take_snocR h, List.foldl_append]
  rfl
theorem rwC_one (l : List Rw) : ∀ u ∈ l.flatMap rwC, u.oneCell' = true := fun u hu => by
  obtain ⟨r, -, hr⟩ := List.mem_flatMap.1 hu
  simp [rwC] at hr
  rcases hr with rfl | rfl | rfl <;> rfl
theorem base_own (w : World) : (w.alloc (.cells #[] 62)).ownsRow w.heap.size 62 3 (.slice (some ⟨w.heap.size, 0, none⟩) 0 0) 0 [] := ⟨rfl, .inr ⟨w.heap.size, 0, #[], rfl, Nat.le_refl _, alloc_at _ _, Nat.le_refl _, by unfold maxLen; omega, rfl, rfl⟩⟩
theorem setR_len {l : List Rw} (h : Tb l) (n : Rw) : (setR l n).length ≤ l.length + 1 := by
  have h1 := congrArg List.length (ne_split h n.path)
  have h2 := List.length_filter_le (fun r : Rw => !(r.path == n.path)) l
  rw [List.length_append] at h1
  rw [set_tb h, List.length_append, List.length_append]
  have h3 : ((if n.mode = 0 then [] else [n]) : List Rw).length ≤ 1 := by split <;> simp
  omega

variable [Inhabited BaseW]
section
variable [KW : Inhabited KeptW]
set_option maxRecDepth 100000 in
set_option maxHeartbeats 16000000 in
theorem scanTurns_kept (hkp : ∀ k, keptW k = none) (va vb : Value) (a b : List Rw) (w : World) (hE : Env w) (hS : EnvS w) (hva : IsRws w va a) (hvb : IsRws w vb b) :
    Calls Tryz.prog 5 #[va, vb] w fun e w' => e = .returned (.bool true) ∧ Ext w w' := by
  obtain ⟨aa, ac, rfl, -⟩ := hva.cells
  obtain ⟨ba, bc, rfl, -⟩ := hvb.cells
  have HVA : Hid (IsRws w (.slice aa a.length ac) a) := hva
  have HVB : Hid (IsRws w (.slice ba b.length bc) b) := hvb
  have HF : Hid (∀ w', Ext w w' → Calls Tryz.prog 8 #[] w' fun e w'' => e = .returned (.bool true) ∧ Ext w' w'') := fun w' hx => first13_any hkp w' (hE.ext hx) (hS.ext hx)
  clear hva hvb hkp hE hS
  go_enter Tryz.func5, Tryz.ntmps5
  go_wp2_with fail
  go_at_call 8
  refine (HF.out w (Ext.refl _)).mono ?_
  rintro e w1 ⟨rfl, hx1⟩
  have HX1 : Hid (Ext w w1) := hx1
  clear hx1
  go_wp2_with fail
  go_at_call 18
  refine (table13_any _ a w1 (HVA.out.ext HX1.out)).mono ?_
  rintro e w2 ⟨ta, rfl, rfl, hta⟩
  have HTA0 : Hid (ta = true → a.length ≤ 100 ∧ ∀ r ∈ a, r.path.length ≤ 400 ∧ r.id.length ≤ 400) := hta
  clear hta
  obtain ⟨w1, rfl⟩ : ∃ w1 : World, w1 = w2 := ⟨_, rfl⟩
  cases ta with
  | false =>
    go_wp2_with fail
    go_at_call 8
    refine (HF.out _ HX1.out).mono ?_
    rintro e wz ⟨rfl, hxz⟩
    go_wp2
    go_ret
    exact ⟨rfl, HX1.out.trans hxz⟩
  | true =>
  have HTA : Hid (a.length ≤ 100 ∧ ∀ r ∈ a, r.path.length ≤ 400 ∧ r.id.length ≤ 400) := HTA0.out rfl
  go_wp2_with fail
  go_at_call 18
  refine (table13_any _ b w1 (HVB.out.ext HX1.out)).mono ?_
  rintro e w2 ⟨tb, rfl, rfl, htb⟩
  have HTB0 : Hid (tb = true → b.length ≤ 100 ∧ ∀ r ∈ b, r.path.length ≤ 400 ∧ r.id.length ≤ 400) := htb
  clear htb
  obtain ⟨w1, rfl⟩ : ∃ w1 : World, w1 = w2 := ⟨_, rfl⟩
  cases tb with
  | false =>
    go_wp2_with fail
    go_at_call 8
    refine (HF.out _ HX1.out).mono ?_
    rintro e wz ⟨rfl, hxz⟩
    go_wp2
    go_ret
    exact ⟨rfl, HX1.out.trans hxz⟩
  | true =>
  have HTB : Hid (b.length ≤ 100 ∧ ∀ r ∈ b, r.path.length ≤ 400 ∧ r.id.length ≤ 400) := HTB0.out rfl
  obtain ⟨ma, hma⟩ : ∃ c, mayT a = c := ⟨_, rfl⟩
  obtain ⟨mb, hmb⟩ : ∃ c, mayT b = c := ⟨_, rfl⟩
  have HMA : Hid _ := hma
  have HMB : Hid _ := hmb
  clear hma hmb
  go_wp2_with fail
  go_at_call 19
  refine (rmay16_any _ a w1 (HVA.out.ext HX1.out) HTA.out.2).mono ?_
  rw [HMA.out]
  rintro e w2 ⟨rfl, hx2⟩
  have HX2 : Hid (Ext w w2) := HX1.out.trans hx2
  clear hx2
  cases ma with
  | false =>
    go_wp2_with fail
    go_at_call 8
    refine (HF.out _ HX2.out).mono ?_
    rintro e wz ⟨rfl, hxz⟩
    go_wp2
    go_ret
    exact ⟨rfl, HX2.out.trans hxz⟩
  | true =>
  go_wp2_with fail
  go_at_call 19
  refine (rmay16_any _ b w2 (HVB.out.ext HX2.out) HTB.out.2).mono ?_
  rw [HMB.out]
  rintro e w3 ⟨rfl, hx3⟩
  have HX3 : Hid (Ext w w3) := HX2.out.trans hx3
  clear hx3
  cases mb with
  | false =>
    go_wp2_with fail
    go_at_call 8
    refine (HF.out _ HX3.out).mono ?_
    rintro e wz ⟨rfl, hxz⟩
    go_wp2
    go_ret
    exact ⟨rfl, HX3.out.trans hxz⟩
  | true =>
  go_wp2_with fail
  go_at_call 20
  refine (sstat_any _ _ a b w3 (HVA.out.ext HX3.out) (HVB.out.ext HX3.out) (tab_small HTA.out) (tab_small HTB.out)).mono ?_
  have hsl : (statM a b).length ≤ 200 := by
    have h1 := HTA.out.1
    have h2 := HTB.out.1
    refine Nat.le_trans (difL_len a b _) (Nat.le_trans (uniqT_len _) ?_)
    rw [List.length_append, List.length_map, List.length_map]
    omega
  have HTBA : Hid (Tb a) := may_tb HMA.out
  have HTBB : Hid (Tb b) := may_tb HMB.out
  have HDN : Hid (doneR a (statM a b) = b) := stat_done HTBA.out HTBB.out
  have HTN : Hid (statM b a = (statM a b).map fun c => ⟨c.path, c.new, c.old⟩) := stat_turn a b
  have HAT : Hid (∀ (k : Nat) (c : Chg), (statM a b)[k]? = some c → entG a c.path = c.old ∧ c.old ≠ c.new) := fun k c h => stat_at h
  have HLT : Hid (∀ (j : Nat) (c d : Chg), (statM a b)[j]? = some c → (statM a b)[j + 1]? = some d → ltB c.path d.path = true) := fun j c d h1 h2 => stat_lt h1 h2
  obtain ⟨L, hL⟩ : ∃ L, statM a b = L := ⟨_, rfl⟩
  rw [hL] at hsl HDN HTN HAT HLT ⊢
  clear hL
  rintro e w4 ⟨⟨vx, rfl, hvx⟩, hx4⟩
  have hix : IsChs w4 vx L := Row.of_owns hvx (by omega)
  have HX4 : Hid (Ext w w4) := HX3.out.trans hx4
  obtain ⟨xa, xc, rfl, x1, x2, x3, hxg⟩ := hix.get
  have HXG : Hid _ := hxg
  clear hvx hx4 hix hxg
  go_wp2_with fail
  go_at_call 20
  refine (sstat_any _ _ b a w4 (HVB.out.ext HX4.out) (HVA.out.ext HX4.out) (tab_small HTB.out) (tab_small HTA.out)).mono ?_
  rw [HTN.out]
  rintro e w5 ⟨⟨vy, rfl, hvy⟩, hx5⟩
  have hiy : IsChs w5 vy (L.map fun c => ⟨c.path, c.new, c.old⟩) := Row.of_owns hvy (by rw [List.length_map]; omega)
  have HX45 : Hid (Ext w4 w5) := hx5
  have HX5 : Hid (Ext w w5) := HX4.out.trans hx5
  obtain ⟨ya, yc, hye, y1, y2, y3, hyg⟩ := hiy.get
  rw [List.length_map] at hye y1
  subst hye
  have HYG : Hid _ := hyg
  have hra : IsRws w5 (.slice aa a.length ac) a := HVA.out.ext HX5.out
  have HRA : Hid (IsRws w5 (.slice aa a.length ac) a) := hra
  have ha100 := HTA.out.1
  clear hvy hx5 hiy hyg hra y2
  have hfa : (a.flatMap rwC).length = a.length * 3 := flat_rwl a
  have HFA : Hid _ := hfa
  obtain ⟨i0, hi0, hz0, hz1, hz2⟩ := info_parts info_rw
  clear hfa hi0 hz0 hz1 hz2 i0
  go_upto_region 7 with (at_builtin; go_must (refine appS_op 41 62 (.agg #[S8 [], .int .i64 0, S8 []]) 3 40 Tryz.underlying41 info_rw rfl (by omega) rfl _ _ rfl rfl w5.heap.size (.slice (some ⟨w5.heap.size, 0, none⟩) 0 0) 0 [] rfl ⟨rfl, .inr ⟨w5.heap.size, 0, #[], rfl, Nat.le_refl _, alloc_at _ _, Nat.le_refl _, by unfold maxLen; omega, rfl, rfl⟩⟩ (.slice aa a.length ac) a.length (a.flatMap rwC) rfl (Row.ext HRA.out ((Ext.refl _).alloc _)) HFA.out (rwC_one a) (by omega) (by omega) (by simp) ?_; intro v6 w6 hown6 hg6))
  have HX6 : Hid (Ext w5 w6) := owns_ext_app (w := w5) ((Ext.refl w5).alloc _) (base_own w5) hg6
  have HOW6 : Hid (w6.ownsRow w5.heap.size 62 3 v6 (0 + a.length) (a.flatMap rwC)) := by have h9 := hown6; rw [List.nil_append] at h9; exact h9
  obtain ⟨aN, hN⟩ : ∃ N, doneR a (L.take 0) = N := ⟨_, rfl⟩
  have hNa : aN = a := by rw [← hN]; rfl
  rw [Nat.zero_add, ← hNa] at HOW6
  have HN0 : Hid (doneR a (L.take 0) = aN) := hN
  have HTN0 : Hid (Tb aN) := by rw [hNa]; exact HTBA.out
  have hNl : aN.length ≤ 100 + 0 := by rw [hNa]; omega
  clear hown6 hg6 hN hNa
  go_wp2_with fail
  go_loopw [7, 8] (fun v i wr => ∃ (k : Nat) (N : List Rw), k ≤ L.length ∧ i = .int .i64 k ∧ Hid (doneR a (L.take k) = N) ∧ Hid (Tb N) ∧ N.length ≤ 100 + k ∧ Hid (wr.ownsRow w5.heap.size 62 3 v N.length (N.flatMap rwC)) ∧ Hid (Ext w5 wr)) (fun _ i _ => L.length - (intOf i).toNat)
  case atStart => exact ⟨0, aN, Nat.zero_le _, rfl, HN0, HTN0, hNl, HOW6, HX6⟩
  case round =>
  clear hNl HTN0 HN0 HOW6 HX6
  obtain ⟨k, N, hk, rfl, HND, HTD, hNl, HOW, HX⟩ := hrel
  by_cases hlt : k < L.length
  case neg =>
    have hkk : k = L.length := by omega
    subst hkk
    have HXR : Hid (Ext w wr) := HX5.out.trans HX.out
    have hrn : IsRws wr u7 N := Row.of_owns HOW.out (by omega)
    have HRN : Hid (IsRws wr u7 N) := hrn
    obtain ⟨na, nc, rfl, -⟩ := hrn.get
    have HNB : Hid (N = b) := by
      have h9 := HND.out
      rw [List.take_length, HDN.out] at h9
      exact h9.symm
    clear hrn
    go_wp2_with fail
    go_at_call 8
    refine (HF.out wr HXR.out).mono ?_
    rintro e w8 ⟨rfl, hx8⟩
    have HX8 : Hid (Ext wr w8) := hx8
    have HXW : Hid (Ext w w8) := HXR.out.trans hx8
    clear hx8
    go_wp2_with fail
    go_at_call 24
    refine (rrows_any _ _ N b w8 (HRN.out.ext HX8.out) (HVB.out.ext HXW.out)).mono ?_
    rintro e w9 ⟨⟨c, rfl, hc⟩, hx9⟩
    obtain rfl : c = true := hc.2 HNB.out
    have HX9 : Hid (Ext w w9) := HXW.out.trans hx9
    clear hc hx9
    go_wp2
    go_ret
    exact ⟨rfl, HX9.out⟩
  obtain ⟨c, hc⟩ : ∃ c, L[k]? = some c := ⟨_, List.getElem?_eq_getElem hlt⟩
  obtain ⟨xb, xo, rfl, p0, p1, p2, p3, p4⟩ := HXG.out k c hc
  obtain ⟨yb, yo, rfl, r0, r1, r2, r3, r4⟩ := HYG.out k ⟨c.path, c.new, c.old⟩ (by rw [List.getElem?_map, hc]; rfl)
  have hxr := HX45.out.trans HX.out
  replace p0 := hxr.cell p0
  replace p1 := hxr.cell p1
  replace p2 := hxr.cell p2
  replace p3 := hxr.cell p3
  replace p4 := hxr.cell p4
  replace r0 := HX.out.cell r0
  replace r1 := HX.out.cell r1
  replace r2 := HX.out.cell r2
  replace r3 := HX.out.cell r3
  replace r4 := HX.out.cell r4
  have n1 := fun w => neq_ent c.old c.old w
  have n2 := fun w => neq_ent c.new c.new w
  have n3 := fun w => eql_ent c.old c.new w
  obtain ⟨hco, hcn⟩ := HAT.out k c hc
  rw [show (c.old != c.old) = false by simp] at n1
  rw [show (c.new != c.new) = false by simp] at n2
  rw [show (c.old == c.new) = false by simpa using hcn] at n3
  have HSN : Hid (doneR a (L.take (k + 1)) = setR N ⟨c.path, c.new.1, c.new.2⟩) := by rw [← HND.out]; exact done_snoc hc
  have hst := setR_len HTD.out ⟨c.path, c.new.1, c.new.2⟩
  have HTX : Hid (Tb (setR N ⟨c.path, c.new.1, c.new.2⟩)) := set_keeps HTD.out _
  have HGT : Hid (∀ d os, Calls Tryz.prog 22 #[.slice aa a.length ac, S8 c.path] (grow (redrawn wr d) os) fun e w' => e = .returned (.agg #[.int .i64 c.old.1, S8 c.old.2]) ∧ ∃ q : Regrown, w' = grow (redrawn wr q.d) q.os) := fun d os => Calls.regrown_of (by
    have h9 := rget_any _ a c.path (grow (redrawn wr d) os) (HRA.out.ext (HX.out.trans (Ext.regrown _ _ _)))
    rw [hco] at h9
    exact h9)
  have HPV : Hid (∀ j, k = j + 1 → ∃ d : Chg, ltB d.path c.path = true ∧ wr.cell? ⟨xb, xo + j * 5, none⟩ = some (S8 d.path)) := fun j hj => by
    subst hj
    obtain ⟨d, hd⟩ : ∃ d, L[j]? = some d := ⟨_, List.getElem?_eq_getElem (by omega)⟩
    obtain ⟨b2, o2, he, h9, -⟩ := HXG.out j d hd
    cases he
    exact ⟨d, HLT.out j d c hd hc, hxr.cell h9⟩
  have HCK : Hid _ := hc
  obtain ⟨cp, ⟨om, oi⟩, ⟨nm, ni⟩⟩ := c
  dsimp only at p0 p1 p2 p3 p4 r0 r1 r2 r3 r4 n1 n2 n3 hst
  have HP : Hid _ := And.intro p0 (And.intro p3 p4)
  have v0 := fun d os => cell_regrown p0 d os
  have v1 := fun d os => cell_regrown p1 d os
  have v2 := fun d os => cell_regrown p2 d os
  have v3 := fun d os => cell_regrown p3 d os
  have v4 := fun d os => cell_regrown p4 d os
  have s0 := fun d os => cell_regrown r0 d os
  have s1 := fun d os => cell_regrown r1 d os
  have s2 := fun d os => cell_regrown r2 d os
  have s3 := fun d os => cell_regrown r3 d os
  have s4 := fun d os => cell_regrown r4 d os
  clear hc hxr hco hcn p0 p1 p2 p3 p4 r0 r1 r2 r3 r4
  go_upto_region 12 with fail
  go_cut [132] (fun c wx => c = .bool false ∧ Ext wr wx)
  case first => as_aux_lemma =>
    by_cases hk0 : k = 0
    case pos =>
      have hk00 : ¬ (0 : Int) < (k : Int) := by omega
      have hk01 : ¬ 0 < k := by omega
      clear hk0
      refine qw_below (by kernel_rfl) (by kernel_rfl) ?_
      repeat (refine qw_step (fun K hK => ?_); go_simp; first | (refine hK _ ?_; clear hK K) | (apply Exists.intro; refine ⟨fun _ => ?_, hK _ ?_⟩; exact HGT.out _ _; clear hK K))
      refine qw_nil ?_
      intro w9 hw'
      obtain ⟨⟨dq, osq⟩, hw''⟩ := hw'
      have HX9 : Hid (Ext wr (grow (redrawn wr dq) osq)) := Ext.regrown _ _ _
      rw [← hw''] at HX9
      clear hw''
      go_wp2_with fail
      go_meet
      case rel => exact ⟨rfl, HX9.out⟩ 
    case neg =>
      obtain ⟨j, hj⟩ : ∃ j, k = j + 1 := ⟨k - 1, by omega⟩
      obtain ⟨d, hdl, hdc⟩ := HPV.out j hj
      have v5 := fun e os => cell_regrown hdc e os
      have hwj : IntKind.i64.wrap ((k : Int) - 1) = (j : Int) := by rw [IntWalk.i64_in _ (by omega)]; omega
      have hk00 : (0 : Int) < (k : Int) := by omega
      have hk01 : 0 < k := by omega
      have hjl : j < L.length := by omega
      obtain ⟨hb, he⟩ : Op.bytesLess cp d.path = false ∧ (cp == d.path) = false := by
        rcases leT_cases cp d.path with ⟨h1, h2, h3⟩ | ⟨h1, h2⟩ | ⟨h1, h2, h3⟩
        · exact ⟨h2, h3⟩
        · rw [h1] at hdl; cases hdl
        · rw [h1] at hdl; cases hdl
      clear hdl hdc hk0 hj
      refine qw_below (by kernel_rfl) (by kernel_rfl) ?_
      repeat (refine qw_step (fun K hK => ?_); go_simp; first | (refine hK _ ?_; clear hK K) | (apply Exists.intro; refine ⟨fun _ => ?_, hK _ ?_⟩; exact HGT.out _ _; clear hK K))
      refine qw_nil ?_
      intro w9 hw'
      obtain ⟨⟨dq, osq⟩, hw''⟩ := hw'
      have HX9 : Hid (Ext wr (grow (redrawn wr dq) osq)) := Ext.regrown _ _ _
      rw [← hw''] at HX9
      clear hw''
      go_wp2_with fail
      go_meet
      case rel => exact ⟨rfl, HX9.out⟩ 
  case rest =>
  obtain ⟨rfl, hx9⟩ := hcut
  obtain ⟨w9, rfl⟩ : ∃ w9 : World, w9 = wc := ⟨_, rfl⟩
  have HX9 : Hid (Ext wr w9) := hx9
  clear hx9
  obtain ⟨p0, p3, p4⟩ := HP.out
  have z0 := HX9.out.cell p0
  have z3 := HX9.out.cell p3
  have z4 := HX9.out.cell p4
  have HOW9 : Hid (w9.ownsRow w5.heap.size 62 3 _ N.length (N.flatMap rwC)) := owns_ext HOW.out HX9.out
  have HRN : Hid (IsRws w9 _ N) := Row.of_owns HOW9.out (by omega)
  have HXX : Hid (Ext w5 w9) := HX.out.trans HX9.out
  obtain ⟨na, nc, hne, -⟩ := HRN.out.get
  subst hne
  clear p0 p3 p4 v0 v1 v2 v3 v4 s0 s1 s2 s3 s4 n1 n2 n3 HGT HPV
  go_upto_region 14 with fail
  apply wp_region_mix 12 [_, _, _, _, _, S8 cp, _, _, _, _, .agg #[.int .i64 nm, S8 ni], undef] [none, none, none, none, none, none, none, none, none, none, none, some (fun u w' => w'.ownsRow w9.heap.size 62 3 u (setR N ⟨cp, nm, ni⟩).length ((setR N ⟨cp, nm, ni⟩).flatMap rwC))] [[], [], [], [1, 2], [3], [4], [], [], [6, 7], [8], [9], [0, 5, 10]] (by kernel_rfl) (by kernel_rfl) (by simp [mixV])
  · refine ⟨?_, trivial⟩
    · exact fun _ _ _ he h => owns_ext h he
  · simp (maxSteps := 1000000) only [List.take_succ_cons, List.take_zero, oblFrom, stepObl, fillFrom, Act.put, List.setIfInBounds_toArray, List.set_cons_zero, List.set_cons_succ, knows, getV, mixV, List.getD_cons_zero, List.getD_cons_succ, and_true, true_and, forall_const]
    refine ⟨?_, ?_, ?_, ?_, ?_, ?_, ?_, ?_, ?_, ?_, ?_, ?_⟩
    · intro xs wq hq R hR
      have f0 := hq.cell z0; have f1 := hq.cell z3; have f2 := hq.cell z4
      go_simp
      exact hR _ _ (Ext.refl _) rfl
    · intro xs wq hq R hR
      have f0 := hq.cell z0; have f1 := hq.cell z3; have f2 := hq.cell z4
      go_simp
      exact hR _ _ (Ext.refl _) rfl
    · intro xs wq hq R hR
      have f0 := hq.cell z0; have f1 := hq.cell z3; have f2 := hq.cell z4
      go_simp
      exact hR _ _ (Ext.refl _) rfl
    · intro xs wq hq hk R hR
      obtain ⟨hk0, hk1⟩ := hk
      have f0 := hq.cell z0; have f1 := hq.cell z3; have f2 := hq.cell z4
      go_simp
      exact hR _ _ (Ext.refl _) rfl
    · intro xs wq hq hk R hR
      have f0 := hq.cell z0; have f1 := hq.cell z3; have f2 := hq.cell z4
      go_simp
      exact hR _ _ (Ext.refl _) rfl
    · intro xs wq hq hk R hR
      have f0 := hq.cell z0; have f1 := hq.cell z3; have f2 := hq.cell z4
      go_simp
      exact hR _ _ (Ext.refl _) rfl
    · intro xs wq hq R hR
      have f0 := hq.cell z0; have f1 := hq.cell z3; have f2 := hq.cell z4
      go_simp
      exact hR _ _ (Ext.refl _) rfl
    · intro xs wq hq R hR
      have f0 := hq.cell z0; have f1 := hq.cell z3; have f2 := hq.cell z4
      go_simp
      exact hR _ _ (Ext.refl _) rfl
    · intro xs wq hq hk R hR
      obtain ⟨hk0, hk1⟩ := hk
      have f0 := hq.cell z0; have f1 := hq.cell z3; have f2 := hq.cell z4
      go_simp
      exact hR _ _ (Ext.refl _) rfl
    · intro xs wq hq hk R hR
      have f0 := hq.cell z0; have f1 := hq.cell z3; have f2 := hq.cell z4
      go_simp
      exact hR _ _ (Ext.refl _) rfl
    · intro xs wq hq hk R hR
      have f0 := hq.cell z0; have f1 := hq.cell z3; have f2 := hq.cell z4
      go_simp
      exact hR _ _ (Ext.refl _) rfl
    · intro xs wq hq hk R hR
      obtain ⟨hk0, hk1, hk2⟩ := hk
      go_simp
      exact (rset_any _ N ⟨cp, nm, ni⟩ _ (HRN.out.ext hq) (by omega)).mono (by rintro e' w8 ⟨⟨v', rfl, ho⟩, hx8⟩; exact ⟨_, rfl, hR _ _ hx8 (World.ownsRow.mono ho hq.size)⟩)
  intro xs wa hxa hk
  simp only [heldV, Nat.zero_add, Nat.reduceAdd, and_true] at hk
  obtain ⟨q0, q1, q2, q3, q4, q5, q6, q7, q8, q9, q10, q11⟩ := hk
  simp (maxSteps := 1000000) only [List.take_succ_cons, List.take_zero, List.drop_succ_cons, List.drop_zero, fillFrom, Act.put, List.setIfInBounds_toArray, List.set_cons_zero, List.set_cons_succ, Nat.zero_add, Nat.reduceAdd, q0, q1, q2, q3, q4, q5, q6, q7, q8, q9, q10]
  clear q0 q1 q2 q3 q4 q5 q6 q7 q8 q9 q10
  generalize xs 11 = x11 at *
  have HXA : Hid (Ext w5 wa) := HXX.out.trans hxa
  have HOA : Hid (wa.ownsRow w5.heap.size 62 3 _ (setR N ⟨cp, nm, ni⟩).length ((setR N ⟨cp, nm, ni⟩).flatMap rwC)) := World.ownsRow.mono q11 HXX.out.size
  clear hxa q11 z0 z3 z4
  go_wp2_with fail
  go_roundw
  case rel => exact ⟨k + 1, setR N ⟨cp, nm, ni⟩, by omega, by go_num, HSN, HTX, by omega, HOA, HXA⟩
  case measure => simp [intOf]; omega
end
theorem scanTurns_any (va vb : Value) (a b : List Rw) (w : World) (hE : Env w) (hS : EnvS w) (hva : IsRws w va a) (hvb : IsRws w vb b) :
    Calls Tryz.prog 5 #[va, vb] w fun e w' => e = .returned (.bool true) ∧ Ext w w' :=
  scanTurns_kept (KW := ⟨⟨fun _ => none⟩⟩) (fun _ => rfl) va vb a b w hE hS hva hvb

end Go.Proofs.YtdhgmpibjneplaaGreatDoor

/-! marlaw13.ScanTurns: whatever the input, the law returns true, and the input reads as it did: its row's statement and its tied card. Conditions: what the row lists: the library's variables hold what the program's text lays. -/
namespace Go.Proofs.YtdhgmpibjneplaaGreatDoor.scanTurns
open Go Go.ChangeShapes Go.WideShapes Go.ChangeAt Go.RowKit Go.Deep

set_option maxRecDepth 100000 in
theorem contract (H : Type) (enc : TypeId × Value → H) (W : World) (base : Nat) (args : Array Value) (ds gs : List (DataW H)) (before : List MemPlace)
    (hval : ∀ (j : Nat) t v, Tryz.f5.params[j]? = some t → args[j]? = some v → Value.okWide Tryz.prog W .any base t v)
    (hW : DataW.Whole enc Tryz.prog Tryz.f5.params.toList Rows.scanTurnsSpec.vars false W args.toList ds gs before)
    (hsz : (DataW.weightsEach Tryz.prog (Tryz.f5.params.toList ++ (OpenSpec.ofChange Rows.scanTurnsSpec).bare.plain.varTypes Tryz.prog) (ds ++ gs)).all (· ≤ reachBytes) = true)
    (hL : laidMetH Tryz.prog Rows.scanTurnsRow.laid W) (hS : W.ShapedOpen Tryz.prog) :
    Calls Tryz.prog 5 args W fun e W' => ∃ v, e = .returned v ∧ Rows.scanTurnsSpec.post enc Tryz.prog Tryz.f5 false true false false W args v W' := by
  have hW' := hW
  obtain ⟨p, q, hA0, hV, rfl, hfz, hnd⟩ := hW
  have hA : DataW.TrodAll enc Tryz.prog W 0 (fun _ => true) true Tryz.f5.params.toList args.toList ds p := hA0
  obtain ⟨rfl, rfl⟩ := trodVars_none hV
  clear hA0
  simp only [List.append_nil] at hW'
  have hE : Env W := env_of hS
  have hES : EnvS W := envS_of (by rw [MakeChecks.laidMetH_plain _ _ _ (by kernel_rfl)] at hL; exact hL) hS
  letI : Inhabited BaseW := ⟨⟨W⟩⟩
  have hBW : baseW = W := rfl
  have hBE : Ext baseW W := Ext.refl W
  have hAll := hA
  have hlt : ∀ x ∈ p, x.block < W.heap.size := fun x hx => by simpa using hW'.lt x (by simpa using hx)
  rw [Tryz.params5] at hA hval hsz
  obtain ⟨v0, vs0, d0, ds0, p0, q0, ha0, hd0, hp0, h0, hA⟩ := trodAll_cons hA
  obtain ⟨v1, vs1, d1, ds1, p1, q1, ha1, hd1, hp1, h1, hA⟩ := trodAll_cons hA
  obtain ⟨hn0, hn1, hn2⟩ := trodAll_nil hA
  subst hn0 hn1 hn2
  subst hp1 hd1 ha1
  subst hp0 hd0
  obtain rfl : args = #[v0, v1] := by cases args; simp_all
  clear ha0
  have hv0 := hval 0 41 v0 rfl rfl
  obtain ⟨a, ha, hia⟩ := arg_rows (j := 0) hv0 h0 hsz rfl rfl
  have hv1 := hval 1 41 v1 rfl rfl
  obtain ⟨b, hb, hib⟩ := arg_rows (j := 1) hv1 h1 hsz rfl rfl
  refine (scanTurns_any v0 v1 a b W hE hES ha hb).mono fun e W' ⟨he, hg⟩ => ?_
  subst he
  have harg := trodAll_below laidOut hg hAll hlt (by rw [Tryz.params5]; exact fun t ht => by simp only [List.mem_cons, List.not_mem_nil, or_false] at ht; rcases ht with rfl | rfl <;> exact ⟨by kernel_rfl, of_decide_eq_true (by kernel_rfl)⟩)
  exact ⟨_, rfl, _, _, _, [], _, [], hW', trodAll_mk1 (shut_bool Tryz.underlying4 _), harg, rfl, hg.frame _, fun h => by cases h⟩

theorem laid_met (os : Os) : laidMetH Tryz.prog Rows.scanTurnsRow.laid ((World.laidAll Tryz.prog os Rows.scanTurnsRow.laid).forCall (fun _ _ => 0) ⟨#[], #[.slice none 0 0, .slice none 0 0], []⟩).memory := by
  rw [MakeChecks.laidMetH_plain _ _ _ (by kernel_rfl)]
  exact laidMet_laidAll _ (by kernel_rfl) (by kernel_rfl)
theorem reads (os : Os) {H : Type} (enc : TypeId × Value → H) : ∃ places, DataW.whole enc Tryz.prog ((World.laidAll Tryz.prog os Rows.scanTurnsRow.laid).forCall (fun _ _ => 0) ⟨#[], #[.slice none 0 0, .slice none 0 0], []⟩).memory Tryz.f5.params.toList Rows.scanTurnsSpec.vars false #[.slice none 0 0, .slice none 0 0].toList 8 = some ([.nil, .nil], [], places) :=
  ⟨[], by kernel_rfl⟩

set_option maxRecDepth 100000 in
theorem lifted (os : Os) (started : os.Started) (H : Type) (enc : TypeId × Value → H) (F : Stop.Interp) :
    ReturnsInHanded {} Tryz.checked os 5 .any ((OpenSpec.ofChange Rows.scanTurnsSpec).preRow enc Tryz.prog Tryz.f5 Rows.scanTurnsRow.domain false Rows.scanTurnsRow.laid) (((OpenSpec.ofChange Rows.scanTurnsSpec).at F).post enc Tryz.prog Tryz.f5 false true false false) := by
  obtain ⟨places, hx⟩ := reads os enc
  refine returnsInHanded_of_row (C := Tryz.checked) (s := OpenSpec.ofChange Rows.scanTurnsSpec) own started (by kernel_rfl) Tryz.func5
    (witness_row_at (enc := enc) (C := Tryz.checked) false (World.laidAll Tryz.prog os Rows.scanTurnsRow.laid) #[.slice none 0 0, .slice none 0 0] (World.laidAll_os _ _ _) (by kernel_rfl) (by kernel_rfl) (by kernel_rfl)
      (OpenSpec.preRow_of_cond 8 hx (by kernel_rfl) (fun k hk => by cases hk) (by kernel_rfl) (laid_met os))) ?_
  intro W base args ds gs before hval hW _ _ hsz hL hS _
  exact contract H enc W base args ds gs before hval hW hsz hL hS

theorem said : Rows.ScanTurnsSaid :=
  OpenClaim.holds_of_cond 5 Tryz.f5 rfl rfl rfl rfl rfl rfl rfl ⟨rfl, rfl, rfl, rfl, rfl⟩ rfl rfl rfl rfl rfl (by kernel_rfl) Tryz.func5 (by kernel_rfl)
    (of_decide_eq_true (by kernel_rfl)) (by unfold Func.isWrapper; first | (rw [if_pos (by decide +kernel)]; kernel_rfl) | (rw [if_neg (by decide +kernel)]; exact ⟨rfl, rfl⟩))
    (fun os started H enc _ F => by rw [OpenClaim.pre_eq_preRow]; exact lifted os started H enc F)

theorem plain (f : FuncId) (fn : Func) (hf : Tryz.pinned.checked.prog.funcNamed "marline/marlaw13.ScanTurns" = some f) (hfn : Tryz.pinned.checked.prog.funcs[f]? = some fn) :
    false = Tryz.pinned.checked.prog.looks [] ∧ ∀ (j : Nat) t, fn.params[j]? = some t → Tryz.pinned.checked.prog.wantsStandIn t = false := by
  obtain rfl : f = 5 := Option.some.inj ((show Tryz.prog.funcNamed "marline/marlaw13.ScanTurns" = some 5 by kernel_rfl).symm.trans hf) |>.symm
  obtain rfl : fn = Tryz.f5 := (Option.some.inj (Tryz.func5.symm.trans hfn)).symm
  refine ⟨by kernel_rfl, fun j t ht => ?_⟩
  rw [Tryz.params5] at ht
  have hm : t ∈ [41, 41] := by simpa using Array.mem_of_getElem? ht
  simp only [List.mem_cons, List.not_mem_nil, or_false] at hm
  rcases hm with rfl | rfl
  · exact (show Tryz.prog.wantsStandIn 41 = false by kernel_rfl)
  · exact (show Tryz.prog.wantsStandIn 41 = false by kernel_rfl)

/-- The card. -/
theorem card : Rows.ScanTurnsCardSaid :=
  Claim7.holds_tied_plain_at .later [] _ _ _ _ said (fun _ h => by cases h) (by kernel_rfl) (fun _ h => by cases h) scanTurns_row_tie rfl ⟨rfl, rfl⟩ (by kernel_rfl) rfl plain (by kernel_rfl)

end Go.Proofs.YtdhgmpibjneplaaGreatDoor.scanTurns
