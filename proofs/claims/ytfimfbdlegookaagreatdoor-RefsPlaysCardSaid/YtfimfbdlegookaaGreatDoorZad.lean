/- What the document's lists of files are, in plain Lean: places, files put in their places, what may be. No conditions. -/
import Derived.Test.YtfimfbdlegookaaGreatDoorZac
import Derived.Sort.OwnSorted
import Derived.Sort.KeysCollected
import Derived.Shelf.SlicesE.DeleteFunc
import Derived.Lib.SliceRun
import Derived.Test.YtfimfbdlegookaaGreatDoorZaa

set_option linter.unusedVariables false
set_option linter.unusedSimpArgs false
set_option linter.unusedSectionVars false

/-! What each call on a file system does, in plain Lean; what holds behind it. Conditions: as each theorem states. -/
namespace Go.Proofs.YtfimfbdlegookaaGreatDoor
open Go Go.RowKit

def putM (r : Fs × Bool × Int) (path : B8) (mode : Int) (data : B8) (only : Bool) : Fs × Int :=
 if r.2.2 ≠ 0 then (r.1, r.2.2) else if wrongE path mode data ≠ 0 then (r.1, wrongE path mode data)
 else if only = true ∧ (look r.1.now path).isSome then (r.1, 8) else putsM r.1 path mode data (!r.2.1 && fitsM r.1 path data.length)
def createM (m : Fs) (path : B8) (mode : Int) (data : B8) : Fs × Int := putM (callM m) path mode data true
def writeM (m : Fs) (path : B8) (mode : Int) (data : B8) : Fs × Int := putM (callM m) path mode data false
def mvM (r : Fs × Bool × Int) (src dst : B8) (fresh : Bool) : Fs × Int :=
 if r.2.2 ≠ 0 then (r.1, r.2.2) else if pathB src = false ∨ pathB dst = false then (r.1, 6)
 else if (look r.1.now src).isNone then (r.1, 7) else if (look r.1.now dst).isSome ∧ fresh = true then (r.1, 8)
 else if src = dst then (r.1, 0) else if (look r.1.now dst).isNone ∧ mayF r.1.now dst src = false then (r.1, 9) else (does r.1 (.mv src dst), 0)
def moveM (m : Fs) (src dst : B8) (fresh : Bool) : Fs × Int := mvM (callM m) src dst fresh
def removeM (m : Fs) (path : B8) : Fs × Int := if (callM m).2.2 ≠ 0 then ((callM m).1, (callM m).2.2) else removesM (callM m).1 path
def syncM (m : Fs) : Fs × Int := if (callM m).2.2 = 0 then (settle (callM m).1, 0) else ((callM m).1, (callM m).2.2)
def zeroFi : Fi := ⟨0, [], 0⟩
def readM (m : Fs) (path : B8) : Fs × Fi × Int :=
 if (callM m).2.2 ≠ 0 then ((callM m).1, zeroFi, (callM m).2.2) else if pathB path = false then ((callM m).1, zeroFi, 6)
 else match look (callM m).1.now path with
  | some f => ((callM m).1, f, 0)
  | none => ((callM m).1, zeroFi, 7)
def pathsL (l : Files) : List B8 := l.map (·.1)
def listM (m : Fs) (dir : B8) : Fs × List B8 × Int :=
 if (callM m).2.2 ≠ 0 then ((callM m).1, [], (callM m).2.2) else if dir = [] then ((callM m).1, pathsL (callM m).1.now, 0)
 else if pathB dir = false then ((callM m).1, [], 6) else ((callM m).1, (pathsL (callM m).1.now).filter (isUnder dir), 0)
def peekM (m : Fs) (path : B8) : Fi × Bool := match look m.now path with
 | some f => (f, true)
 | none => (zeroFi, false)

/-- What a call leaves, in numbers. -/
structure Left (m m' : Fs) (n : Nat) : Prop where
 ok : OkM m'
 time : m'.time ≤ m.time + n
 time0 : m.time ≤ m'.time
 plan : m'.plan = m.plan
 room : m'.room = m.room
theorem Left.trans {a b c : Fs} {n k : Nat} (h : Left a b n) (k2 : Left b c k) : Left a c (n + k) :=
 ⟨k2.ok, by have := h.time; have := k2.time; omega, Nat.le_trans h.time0 k2.time0, k2.plan.trans h.plan, k2.room.trans h.room⟩
theorem Left.refl {m : Fs} (h : OkM m) : Left m m 0 := ⟨h, Nat.le_refl _, Nat.le_refl _, rfl, rfl⟩
theorem Left.mono {m m' : Fs} {n k : Nat} (h : Left m m' n) (hk : n ≤ k) : Left m m' k := ⟨h.ok, Nat.le_trans h.time (by omega), h.time0, h.plan, h.room⟩
theorem call_left {m : Fs} (h : OkM m) (hp : PlanOk m) : Left m (callM m).1 1000 ∧ (callM m).1.calls = m.calls + 1 := by
 obtain ⟨x, hx, he⟩ := call_mid h
 rw [he]
 have := hp.len
 exact ⟨⟨hx.ok, by have := hx.time; omega, hx.time0, hx.plan, hx.room⟩, hx.calls⟩
theorem left_does {m : Fs} {c : Ch} (h : OkM m) (hc : ChOk c) (hmv : ∀ s d, c = .mv s d → (look m.now s).isSome = true) : Left m (does m c) 1 := ⟨ok_does h hc hmv, Nat.le_refl _, Nat.le_succ _, rfl, rfl⟩
theorem left_puts {m : Fs} {path : B8} {mode : Int} {data : B8} {fits : Bool} (h : OkM m) (hp : pathB path = true) (hd : data.length ≤ 20000) : Left m (putsM m path mode data fits).1 1 := by
 unfold putsM
 split
 ·exact (Left.refl h).mono (by omega)
 ·split
  ·exact (Left.refl h).mono (by omega)
  ·exact left_does h ⟨hp, hd⟩ (fun s d e => by cases e)
theorem left_removes {m : Fs} {path : B8} (h : OkM m) : Left m (removesM m path).1 1 := by
 unfold removesM
 split
 ·exact (Left.refl h).mono (by omega)
 ·split
  ·exact (Left.refl h).mono (by omega)
  ·rename_i h1 _
   exact left_does h (show pathB path = true by simpa using h1) (fun s d e => by cases e)
theorem left_settle {m : Fs} (h : OkM m) : Left m (settle m) 0 := ⟨ok_settle h, Nat.le_refl _, Nat.le_refl _, rfl, rfl⟩
end Go.Proofs.YtfimfbdlegookaaGreatDoor

/-! fsim.FS: Create, Write. Conditions: what holds of a file system at all times; short paths. -/
namespace Go.Proofs.YtfimfbdlegookaaGreatDoor
open Go Go.RowKit

theorem FsIn.env1 {S O R : Nat → Prop} {w w1 : World} {p : Value} {m m1 : Fs} (h : FsIn S O R w p m) (h1 : FsPost S O R w p m1 w1) : Env w1 := h.env.fr h1.fr h.noG

set_option maxRecDepth 100000 in
set_option maxHeartbeats 4000000 in
theorem create_any {S O R : Nat → Prop} {w : World} {p : Value} {m : Fs} (path : B8) (mode : Int) (v : Value) (data : B8) (h : FsIn S O R w p m) (hp : path.length ≤ 400) (hv : IsBytes w v data) (hout : Out O w v) :
  Calls Tryz.prog 59 #[p, S8 path, .int .i64 mode, v] w fun e w' => e = .returned (.int .i64 (createM m path mode data).2) ∧ FsPost S O R w p (createM m path mode data).1 w' := by
 obtain ⟨m1, full, er, hcm⟩ : ∃ m1 full er, callM m = (m1, full, er) := ⟨_, _, _, rfl⟩
 have hcl := call_left h.ok h.plan
 rw [hcm] at hcl
 have hdef : createM m path mode data = if er ≠ 0 then (m1, er) else if wrongE path mode data ≠ 0 then (m1, wrongE path mode data) else if true = true ∧ (look m1.now path).isSome then (m1, 8) else putsM m1 path mode data (!full && fitsM m1 path data.length) := by unfold createM putM; rw [hcm]
 have HDEF : Hid _ := hdef
 have HCM : Hid _ := hcm
 have HCL : Hid _ := hcl
 have HI : Hid _ := h
 have HV : Hid _ := hv
 have HO : Hid _ := hout
 have htm := h.time
 have hcs := h.calls
 obtain ⟨a, c, rfl, -⟩ := hv.get
 obtain ⟨g, hpg⟩ : ∃ g, p = .pointer (some ⟨g, 0, none⟩) := by
  obtain ⟨g, gm, gd, vp, vl, vu, L, c0, hpe, -⟩ := h.fs
  exact ⟨g, hpe⟩
 subst hpg
 clear hdef hcm hcl h hv hout
 by_cases her : er = 0
 ·subst her
  obtain ⟨e2, he2⟩ : ∃ e2, wrongE path mode data = e2 := ⟨_, rfl⟩
  have HW : Hid _ := he2
  rw [he2] at HDEF
  go_enter Tryz.func59, Tryz.ntmps59
  go_wp2_with fail
  go_at_call 144
  refine (call_any HI.out.env HI.out.fs HI.out.ok HI.out.plan (by omega) (by omega) HI.out.noG HI.out.apart).mono ?_
  rw [HCM.out]
  rintro e w1 ⟨rfl, h1⟩
  have H1 : Hid (FsPost S O R w (.pointer (some ⟨g, 0, none⟩)) m1 w1) := h1
  have HOK1 : Hid (OkM m1) := HCL.out.1.ok
  have htm1 : m1.time ≤ m.time + 1000 := HCL.out.1.time
  have hroom : m1.room = m.room := HCL.out.1.room
  have HRM : Hid _ := hroom
  clear h1 hroom
  go_wp2_with fail
  go_at_call 54
  refine (wrong_any path mode (.slice a data.length c) data _ (HI.out.env1 H1.out) (IsBytes.fr HV.out HO.out H1.out.fr) (by omega)).mono ?_
  rw [HW.out]
  rintro e w2 ⟨rfl, hx2⟩
  by_cases hz2 : e2 = 0
  ·subst hz2
   have hw0 := wrong_zero he2
   have HW0 : Hid _ := hw0
   obtain ⟨g', gm', gd', vp', vl', vu', L', c0', hpe, hg', hO', hP', -, -⟩ := (FsPost.ext H1.out hx2).fs
   cases hpe
   obtain ⟨z0, z1, z2, z3, z4, z5, z6, z7, z8⟩ := cellsAt9 hg'
   obtain ⟨val, hrun, -, hv1, hv2⟩ := hP'.now.look_run path (by omega)
   have H2 : Hid (FsPost S O R w (.pointer (some ⟨g, 0, none⟩)) m1 w2) := FsPost.ext H1.out hx2
   have HE2 : Hid _ := HI.out.env1 H2.out
   have HV2 : Hid _ := IsBytes.fr HV.out HO.out H2.out.fr
   clear hg' hP' he2 hw0
   cases hlk : look m1.now path with
   | some f =>
    rw [hlk] at hrun
    obtain ⟨sv, rfl, hsv⟩ := hv1 f hlk
    obtain ⟨s1, s2, rfl, -⟩ := hsv.bytes
    simp only [Option.isSome_some] at hrun
    have HDD : Hid (createM m path mode data = (m1, 8)) := by unfold Hid; rw [HDEF.out, hlk]; simp
    clear hv1 hv2 hsv hlk HDEF
    go_wp2
    go_ret
    rw [HDD.out]
    exact ⟨rfl, H2.out.ext ((Ext.refl _).alloc _)⟩
   | none =>
    rw [hlk] at hrun
    obtain rfl := hv2 hlk
    simp only [Option.isSome_none] at hrun
    have HDD : Hid (createM m path mode data = putsM m1 path mode data (!full && fitsM m1 path data.length)) := by unfold Hid; rw [HDEF.out, hlk]; simp
    clear hv1 hv2 hlk HDEF
    cases full with
    | true =>
     have HDE : Hid (createM m path mode data = putsM m1 path mode data false) := HDD.out
     go_wp2_with fail
     go_at_call 55
     refine (puts_any path mode (.slice a data.length c) data false (HE2.out.ext ((Ext.refl _).alloc _)) (IsFs.ext H2.out.fs ((Ext.refl _).alloc _)) HOK1.out (by omega) hp (IsBytes.ext HV2.out ((Ext.refl _).alloc _)) HW0.out.2.2.2 (may_eq _ HW0.out.1)).mono ?_
     rintro e w4 ⟨rfl, h4⟩
     go_wp2
     go_ret
     rw [HDE.out]
     exact ⟨rfl, H2.out.trans (FsPost.pre ((Ext.refl _).alloc _) h4)⟩
    | false =>
     have HDE : Hid (createM m path mode data = putsM m1 path mode data (fitsM m1 path data.length)) := HDD.out
     go_wp2_with fail
     go_at_call 145
     refine (fits_any path data.length (IsFs.ext H2.out.fs ((Ext.refl _).alloc _)) HOK1.out (by omega) (by rw [HRM.out]; exact HI.out.room0) (by rw [HRM.out]; exact HI.out.room1) (by omega)).mono ?_
     rintro e w3 ⟨rfl, hx3⟩
     generalize fitsM m1 path data.length = ft at *
     have HX3 : Hid _ := ((Ext.refl w2).alloc _).trans hx3
     go_wp2_with fail
     go_at_call 55
     refine (puts_any path mode (.slice a data.length c) data ft (HE2.out.ext HX3.out) (IsFs.ext H2.out.fs HX3.out) HOK1.out (by omega) hp (IsBytes.ext HV2.out HX3.out) HW0.out.2.2.2 (may_eq _ HW0.out.1)).mono ?_
     rintro e w4 ⟨rfl, h4⟩
     go_wp2
     go_ret
     rw [HDE.out]
     exact ⟨rfl, H2.out.trans (FsPost.pre HX3.out h4)⟩
  ·have hb : (e2 == 0) = false := by simpa using hz2
   have hb' : (e2 != 0) = true := by simpa using hz2
   have HDD : Hid (createM m path mode data = (m1, e2)) := by unfold Hid; rw [HDEF.out]; simp [hz2]
   clear hz2 he2 HDEF
   go_wp2
   go_ret
   rw [HDD.out]
   exact ⟨rfl, FsPost.ext H1.out hx2⟩
 ·have hb : (er == 0) = false := by simpa using her
  have hb' : (er != 0) = true := by simpa using her
  have HDD : Hid (createM m path mode data = (m1, er)) := by unfold Hid; rw [HDEF.out]; simp [her]
  clear her HDEF
  go_enter Tryz.func59, Tryz.ntmps59
  go_wp2_with (go_at_call 144; go_must (refine (call_any HI.out.env HI.out.fs HI.out.ok HI.out.plan (by omega) (by omega) HI.out.noG HI.out.apart).mono ?_; rw [HCM.out]; rintro e w1 ⟨rfl, h1⟩))
  go_ret
  rw [HDD.out]
  exact ⟨rfl, h1⟩

set_option maxRecDepth 100000 in
set_option maxHeartbeats 4000000 in
theorem write_any {S O R : Nat → Prop} {w : World} {p : Value} {m : Fs} (path : B8) (mode : Int) (v : Value) (data : B8) (h : FsIn S O R w p m) (hp : path.length ≤ 400) (hv : IsBytes w v data) (hout : Out O w v) :
  Calls Tryz.prog 88 #[p, S8 path, .int .i64 mode, v] w fun e w' => e = .returned (.int .i64 (writeM m path mode data).2) ∧ FsPost S O R w p (writeM m path mode data).1 w' := by
 obtain ⟨m1, full, er, hcm⟩ : ∃ m1 full er, callM m = (m1, full, er) := ⟨_, _, _, rfl⟩
 have hcl := call_left h.ok h.plan
 rw [hcm] at hcl
 have hdef : writeM m path mode data = if er ≠ 0 then (m1, er) else if wrongE path mode data ≠ 0 then (m1, wrongE path mode data) else putsM m1 path mode data (!full && fitsM m1 path data.length) := by unfold writeM putM; rw [hcm]; simp only [Bool.false_eq_true, false_and, if_false]
 have HDEF : Hid _ := hdef
 have HCM : Hid _ := hcm
 have HCL : Hid _ := hcl
 have HI : Hid _ := h
 have HV : Hid _ := hv
 have HO : Hid _ := hout
 have htm := h.time
 have hcs := h.calls
 obtain ⟨a, c, rfl, -⟩ := hv.get
 obtain ⟨g, hpg⟩ : ∃ g, p = .pointer (some ⟨g, 0, none⟩) := by
  obtain ⟨g, gm, gd, vp, vl, vu, L, c0, hpe, -⟩ := h.fs
  exact ⟨g, hpe⟩
 subst hpg
 clear hdef hcm hcl h hv hout
 by_cases her : er = 0
 ·subst her
  obtain ⟨e2, he2⟩ : ∃ e2, wrongE path mode data = e2 := ⟨_, rfl⟩
  have HW : Hid _ := he2
  rw [he2] at HDEF
  go_enter Tryz.func88, Tryz.ntmps88
  go_wp2_with fail
  go_at_call 144
  refine (call_any HI.out.env HI.out.fs HI.out.ok HI.out.plan (by omega) (by omega) HI.out.noG HI.out.apart).mono ?_
  rw [HCM.out]
  rintro e w1 ⟨rfl, h1⟩
  have H1 : Hid (FsPost S O R w (.pointer (some ⟨g, 0, none⟩)) m1 w1) := h1
  have HOK1 : Hid (OkM m1) := HCL.out.1.ok
  have htm1 : m1.time ≤ m.time + 1000 := HCL.out.1.time
  have hroom : m1.room = m.room := HCL.out.1.room
  have HRM : Hid _ := hroom
  clear h1 hroom
  go_wp2_with fail
  go_at_call 54
  refine (wrong_any path mode (.slice a data.length c) data _ (HI.out.env1 H1.out) (IsBytes.fr HV.out HO.out H1.out.fr) (by omega)).mono ?_
  rw [HW.out]
  rintro e w2 ⟨rfl, hx2⟩
  by_cases hz2 : e2 = 0
  ·subst hz2
   have hw0 := wrong_zero he2
   have HW0 : Hid _ := hw0
   have H2 : Hid (FsPost S O R w (.pointer (some ⟨g, 0, none⟩)) m1 w2) := FsPost.ext H1.out hx2
   have HE2 : Hid _ := HI.out.env1 H2.out
   have HV2 : Hid _ := IsBytes.fr HV.out HO.out H2.out.fr
   clear he2 hw0
   have HDD : Hid (writeM m path mode data = putsM m1 path mode data (!full && fitsM m1 path data.length)) := by unfold Hid; rw [HDEF.out]; simp
   clear HDEF
   cases full with
   | true =>
    have HDE : Hid (writeM m path mode data = putsM m1 path mode data false) := HDD.out
    go_wp2_with fail
    go_at_call 55
    refine (puts_any path mode (.slice a data.length c) data false HE2.out H2.out.fs HOK1.out (by omega) hp HV2.out HW0.out.2.2.2 (may_eq _ HW0.out.1)).mono ?_
    rintro e w4 ⟨rfl, h4⟩
    go_wp2
    go_ret
    rw [HDE.out]
    exact ⟨rfl, H2.out.trans h4⟩
   | false =>
    have HDE : Hid (writeM m path mode data = putsM m1 path mode data (fitsM m1 path data.length)) := HDD.out
    go_wp2_with fail
    go_at_call 145
    refine (fits_any path data.length H2.out.fs HOK1.out (by omega) (by rw [HRM.out]; exact HI.out.room0) (by rw [HRM.out]; exact HI.out.room1) (by omega)).mono ?_
    rintro e w3 ⟨rfl, hx3⟩
    generalize fitsM m1 path data.length = ft at *
    have HX3 : Hid _ := hx3
    go_wp2_with fail
    go_at_call 55
    refine (puts_any path mode (.slice a data.length c) data ft (HE2.out.ext HX3.out) (IsFs.ext H2.out.fs HX3.out) HOK1.out (by omega) hp (IsBytes.ext HV2.out HX3.out) HW0.out.2.2.2 (may_eq _ HW0.out.1)).mono ?_
    rintro e w4 ⟨rfl, h4⟩
    go_wp2
    go_ret
    rw [HDE.out]
    exact ⟨rfl, H2.out.trans (FsPost.pre HX3.out h4)⟩
  ·have hb : (e2 == 0) = false := by simpa using hz2
   have hb' : (e2 != 0) = true := by simpa using hz2
   have HDD : Hid (writeM m path mode data = (m1, e2)) := by unfold Hid; rw [HDEF.out]; simp [hz2]
   clear hz2 he2 HDEF
   go_wp2
   go_ret
   rw [HDD.out]
   exact ⟨rfl, FsPost.ext H1.out hx2⟩
 ·have hb : (er == 0) = false := by simpa using her
  have hb' : (er != 0) = true := by simpa using her
  have HDD : Hid (writeM m path mode data = (m1, er)) := by unfold Hid; rw [HDEF.out]; simp [her]
  clear her HDEF
  go_enter Tryz.func88, Tryz.ntmps88
  go_wp2_with (go_at_call 144; go_must (refine (call_any HI.out.env HI.out.fs HI.out.ok HI.out.plan (by omega) (by omega) HI.out.noG HI.out.apart).mono ?_; rw [HCM.out]; rintro e w1 ⟨rfl, h1⟩))
  go_ret
  rw [HDD.out]
  exact ⟨rfl, h1⟩

end Go.Proofs.YtfimfbdlegookaaGreatDoor

/-! fsim.FS: Remove, Sync, Move, MoveNew. Conditions: what holds of a file system at all times; short paths. -/
namespace Go.Proofs.YtfimfbdlegookaaGreatDoor
open Go Go.RowKit

set_option maxRecDepth 100000 in
set_option maxHeartbeats 4000000 in
theorem remove_any {S O R : Nat → Prop} {w : World} {p : Value} {m : Fs} (path : B8) (h : FsIn S O R w p m) (hp : path.length ≤ 400) :
  Calls Tryz.prog 63 #[p, S8 path] w fun e w' => e = .returned (.int .i64 (removeM m path).2) ∧ FsPost S O R w p (removeM m path).1 w' := by
 obtain ⟨m1, full, er, hcm⟩ : ∃ m1 full er, callM m = (m1, full, er) := ⟨_, _, _, rfl⟩
 have hcl := call_left h.ok h.plan
 rw [hcm] at hcl
 have hdef : removeM m path = if er ≠ 0 then (m1, er) else removesM m1 path := by unfold removeM; rw [hcm]
 have HDEF : Hid _ := hdef
 have HCM : Hid _ := hcm
 have HCL : Hid _ := hcl
 have HI : Hid _ := h
 have htm := h.time
 have hcs := h.calls
 clear hdef hcm hcl h
 by_cases her : er = 0
 ·subst her
  have htm1 : m1.time ≤ m.time + 1000 := HCL.out.1.time
  have HOK1 : Hid (OkM m1) := HCL.out.1.ok
  have HDD : Hid (removeM m path = removesM m1 path) := HDEF.out
  go_enter Tryz.func63, Tryz.ntmps63
  go_wp2_with (first
   | (go_at_call 144; go_must (refine (call_any HI.out.env HI.out.fs HI.out.ok HI.out.plan (by omega) (by omega) HI.out.noG HI.out.apart).mono ?_; rw [HCM.out]; rintro e w1 ⟨rfl, h1⟩; have H1 : Hid (FsPost S O R w p m1 w1) := h1; clear h1))
   | (go_at_call 146; go_must (refine (removes_any path (HI.out.env1 H1.out) H1.out.fs HOK1.out (by omega) hp).mono ?_; rintro e w2 ⟨rfl, h2⟩)))
  go_ret
  rw [HDD.out]
  exact ⟨rfl, H1.out.trans h2⟩
 ·have hb : (er == 0) = false := by simpa using her
  have hb' : (er != 0) = true := by simpa using her
  have HDD : Hid (removeM m path = (m1, er)) := by unfold Hid; rw [HDEF.out]; simp [her]
  clear her HDEF
  go_enter Tryz.func63, Tryz.ntmps63
  go_wp2_with (go_at_call 144; go_must (refine (call_any HI.out.env HI.out.fs HI.out.ok HI.out.plan (by omega) (by omega) HI.out.noG HI.out.apart).mono ?_; rw [HCM.out]; rintro e w1 ⟨rfl, h1⟩))
  go_ret
  rw [HDD.out]
  exact ⟨rfl, h1⟩

set_option maxRecDepth 100000 in
set_option maxHeartbeats 4000000 in
theorem sync_any {S O R : Nat → Prop} {w : World} {p : Value} {m : Fs} (h : FsIn S O R w p m) :
  Calls Tryz.prog 62 #[p] w fun e w' => e = .returned (.int .i64 (syncM m).2) ∧ FsPost S O R w p (syncM m).1 w' := by
 obtain ⟨m1, full, er, hcm⟩ : ∃ m1 full er, callM m = (m1, full, er) := ⟨_, _, _, rfl⟩
 have hcl := call_left h.ok h.plan
 rw [hcm] at hcl
 have hdef : syncM m = if er = 0 then (settle m1, 0) else (m1, er) := by unfold syncM; rw [hcm]
 have HDEF : Hid _ := hdef
 have HCM : Hid _ := hcm
 have HCL : Hid _ := hcl
 have HI : Hid _ := h
 have htm := h.time
 have hcs := h.calls
 clear hdef hcm hcl h
 by_cases her : er = 0
 ·subst her
  have hln : m1.now.length ≤ 1000000 := by
   have h1 : OkM m1 := HCL.out.1.ok
   have h2 : m1.time ≤ m.time + 1000 := HCL.out.1.time
   have := h1.lnow
   omega
  have HDD : Hid (syncM m = (settle m1, 0)) := HDEF.out
  go_enter Tryz.func62, Tryz.ntmps62
  go_wp2_with (first
   | (go_at_call 144; go_must (refine (call_any HI.out.env HI.out.fs HI.out.ok HI.out.plan (by omega) (by omega) HI.out.noG HI.out.apart).mono ?_; rw [HCM.out]; rintro e w1 ⟨rfl, h1⟩; have H1 : Hid (FsPost S O R w p m1 w1) := h1; clear h1))
   | (go_at_call 56; go_must (refine (settle_any H1.out.fs hln).mono ?_; rintro e w2 ⟨rfl, h2⟩)))
  go_ret
  rw [HDD.out]
  exact ⟨rfl, H1.out.trans h2⟩
 ·have hb : (er == 0) = false := by simpa using her
  have hb' : (er != 0) = true := by simpa using her
  have HDD : Hid (syncM m = (m1, er)) := by unfold Hid; rw [HDEF.out]; simp [her]
  clear her HDEF
  go_enter Tryz.func62, Tryz.ntmps62
  go_wp2_with (go_at_call 144; go_must (refine (call_any HI.out.env HI.out.fs HI.out.ok HI.out.plan (by omega) (by omega) HI.out.noG HI.out.apart).mono ?_; rw [HCM.out]; rintro e w1 ⟨rfl, h1⟩))
  go_ret
  rw [HDD.out]
  exact ⟨rfl, h1⟩

end Go.Proofs.YtfimfbdlegookaaGreatDoor

/-! fsim.FS: move, Move, MoveNew. Conditions: what holds of a file system at all times; short paths. -/
namespace Go.Proofs.YtfimfbdlegookaaGreatDoor
open Go Go.RowKit

set_option maxRecDepth 100000 in
set_option maxHeartbeats 8000000 in
theorem mv_any {S O R : Nat → Prop} {w : World} {p : Value} {m : Fs} (src dst : B8) (fresh : Bool) (h : FsIn S O R w p m) (hs : src.length ≤ 400) (hd : dst.length ≤ 400) :
  Calls Tryz.prog 147 #[p, S8 src, S8 dst, .bool fresh] w fun e w' => e = .returned (.int .i64 (moveM m src dst fresh).2) ∧ FsPost S O R w p (moveM m src dst fresh).1 w' := by
 obtain ⟨m1, full, er, hcm⟩ : ∃ m1 full er, callM m = (m1, full, er) := ⟨_, _, _, rfl⟩
 have hcl := call_left h.ok h.plan
 rw [hcm] at hcl
 have hdef : moveM m src dst fresh = if er ≠ 0 then (m1, er) else if pathB src = false ∨ pathB dst = false then (m1, 6)
   else if (look m1.now src).isNone then (m1, 7) else if (look m1.now dst).isSome ∧ fresh = true then (m1, 8)
   else if src = dst then (m1, 0) else if (look m1.now dst).isNone ∧ mayF m1.now dst src = false then (m1, 9) else (does m1 (.mv src dst), 0) := by unfold moveM mvM; rw [hcm]
 have HDEF : Hid _ := hdef
 have HCM : Hid _ := hcm
 have HCL : Hid _ := hcl
 have HI : Hid _ := h
 have htm := h.time
 have hcs := h.calls
 obtain ⟨g, hpg⟩ : ∃ g, p = .pointer (some ⟨g, 0, none⟩) := by
  obtain ⟨g, gm, gd, vp, vl, vu, L, c0, hpe, -⟩ := h.fs
  exact ⟨g, hpe⟩
 subst hpg
 have hts : (⟨src.toArray⟩ : ByteArray).toList = src := Lib.toList_data _
 have htd : (⟨dst.toArray⟩ : ByteArray).toList = dst := Lib.toList_data _
 clear hdef hcm hcl h
 by_cases her : er = 0
 ·subst her
  have htm1 : m1.time ≤ m.time + 1000 := HCL.out.1.time
  have HOK1 : Hid (OkM m1) := HCL.out.1.ok
  obtain ⟨ps, hps⟩ : ∃ ps, pathB src = ps := ⟨_, rfl⟩
  obtain ⟨pd, hpd⟩ : ∃ pd, pathB dst = pd := ⟨_, rfl⟩
  have HPS : Hid _ := hps
  have HPD : Hid _ := hpd
  rw [hps, hpd] at HDEF
  clear hps hpd
  go_enter Tryz.func147, Tryz.ntmps147
  go_wp2_with fail
  go_at_call 144
  refine (call_any HI.out.env HI.out.fs HI.out.ok HI.out.plan (by omega) (by omega) HI.out.noG HI.out.apart).mono ?_
  rw [HCM.out]
  rintro e w1 ⟨rfl, h1⟩
  have H1 : Hid (FsPost S O R w (.pointer (some ⟨g, 0, none⟩)) m1 w1) := h1
  clear h1
  go_wp2_with fail
  go_at_call 66
  refine (path_l src _ (HI.out.env1 H1.out) (by omega)).mono ?_
  rw [HPS.out]
  rintro e w2 ⟨rfl, hx2⟩
  have H2 : Hid (FsPost S O R w (.pointer (some ⟨g, 0, none⟩)) m1 w2) := FsPost.ext H1.out hx2
  clear hx2
  cases ps with
  | false =>
   have HDD : Hid (moveM m src dst fresh = (m1, 6)) := by unfold Hid; rw [HDEF.out]; simp
   clear HDEF
   go_wp2
   go_ret
   rw [HDD.out]
   exact ⟨rfl, H2.out⟩
  | true =>
   go_wp2_with fail
   go_at_call 66
   refine (path_l dst _ (HI.out.env1 H2.out) (by omega)).mono ?_
   rw [HPD.out]
   rintro e w3 ⟨rfl, hx3⟩
   have H3 : Hid (FsPost S O R w (.pointer (some ⟨g, 0, none⟩)) m1 w3) := FsPost.ext H2.out hx3
   clear hx3
   cases pd with
   | false =>
    have HDD : Hid (moveM m src dst fresh = (m1, 6)) := by unfold Hid; rw [HDEF.out]; simp
    clear HDEF
    go_wp2
    go_ret
    rw [HDD.out]
    exact ⟨rfl, H3.out⟩
   | true =>
    obtain ⟨g', gm', gd', vp', vl', vu', L', c0', hpe, hg', hO', hP', -, -⟩ := H3.out.fs
    cases hpe
    obtain ⟨z0, z1, z2, z3, z4, z5, z6, z7, z8⟩ := cellsAt9 hg'
    obtain ⟨val, hrun, -, hv1, hv2⟩ := hP'.now.look_run src (by omega)
    have HN : Hid _ := hP'.now
    have HG' : Hid _ := hg'
    clear hg' hP'
    cases hlk : look m1.now src with
    | none =>
     rw [hlk] at hrun
     obtain rfl := hv2 hlk
     simp only [Option.isSome_none] at hrun
     have HDD : Hid (moveM m src dst fresh = (m1, 7)) := by unfold Hid; rw [HDEF.out, hlk]; simp
     have hxa : Ext w3 (w3.alloc (.cells #[.int .i64 0, .slice none 0 0, .int .i64 0] 76)) := (Ext.refl _).alloc _
     obtain ⟨q0, q1, q2, q3, q4, q5, q6, q7, q8⟩ := cellsAt9 (Ext.row hxa HG'.out)
     obtain ⟨val2, hrun2, -, hv3, hv4⟩ := (HN.out.ext hxa).look_run dst (by omega)
     have HXA : Hid _ := hxa
     clear hv1 hv2 hlk HDEF hxa q0 q2 q3 q4 q5 q6 q7 q8
     cases hlk2 : look m1.now dst with
     | none =>
      rw [hlk2] at hrun2
      obtain rfl := hv4 hlk2
      simp only [Option.isSome_none] at hrun2
      clear hv3 hv4 hlk2
      go_wp2
      go_ret
      rw [HDD.out]
      exact ⟨rfl, FsPost.ext H3.out (Ext.alloc HXA.out _)⟩
     | some f2 =>
      rw [hlk2] at hrun2
      obtain ⟨sv2, rfl, hsv2⟩ := hv3 f2 hlk2
      obtain ⟨r1, r2, rfl, -⟩ := hsv2.bytes
      simp only [Option.isSome_some] at hrun2
      clear hv3 hv4 hlk2 hsv2
      go_wp2
      go_ret
      rw [HDD.out]
      exact ⟨rfl, FsPost.ext H3.out (Ext.alloc HXA.out _)⟩
    | some f =>
     rw [hlk] at hrun
     obtain ⟨sv, rfl, hsv⟩ := hv1 f hlk
     obtain ⟨s1, s2, rfl, -⟩ := hsv.bytes
     simp only [Option.isSome_some] at hrun
     have hxa : Ext w3 (w3.alloc (.cells #[.int .i64 f.mode, .slice s1 f.data.length s2, .int .i64 f.time] 76)) := (Ext.refl _).alloc _
     obtain ⟨q0, q1, q2, q3, q4, q5, q6, q7, q8⟩ := cellsAt9 (Ext.row hxa HG'.out)
     obtain ⟨val2, hrun2, -, hv3, hv4⟩ := (HN.out.ext hxa).look_run dst (by omega)
     have HXA : Hid _ := hxa
     have HSRC : Hid ((look m1.now src).isSome = true) := by unfold Hid; rw [hlk]; rfl
     have HD2 : Hid (moveM m src dst fresh = if (look m1.now dst).isSome ∧ fresh = true then (m1, 8)
       else if src = dst then (m1, 0) else if (look m1.now dst).isNone ∧ mayF m1.now dst src = false then (m1, 9) else (does m1 (.mv src dst), 0)) := by unfold Hid; rw [HDEF.out, hlk]; simp
     clear hv1 hv2 hsv HDEF hxa q0 q2 q3 q4 q5 q6 q7 q8
     cases hlk2 : look m1.now dst with
     | some f2 =>
      rw [hlk2] at hrun2
      obtain ⟨sv2, rfl, hsv2⟩ := hv3 f2 hlk2
      obtain ⟨r1, r2, rfl, -⟩ := hsv2.bytes
      simp only [Option.isSome_some] at hrun2
      rw [hlk2] at HD2
      clear hv3 hv4 hsv2 hlk hlk2
      cases fresh with
      | true =>
       have HDD : Hid (moveM m src dst true = (m1, 8)) := by unfold Hid; rw [HD2.out]; simp
       clear HD2
       go_wp2
       go_ret
       rw [HDD.out]
       exact ⟨rfl, FsPost.ext H3.out (Ext.alloc HXA.out _)⟩
      | false =>
       obtain ⟨bq, hbq⟩ : ∃ bq, (src == dst) = bq := ⟨_, rfl⟩
       cases bq with
       | true =>
        have HDD : Hid (moveM m src dst false = (m1, 0)) := by unfold Hid; rw [HD2.out, if_neg (by simp), if_pos (by simpa using hbq)]
        clear HD2
        go_wp2
        go_ret
        rw [HDD.out]
        exact ⟨rfl, FsPost.ext H3.out (Ext.alloc HXA.out _)⟩
       | false =>
        have HDD : Hid (moveM m src dst false = (does m1 (.mv src dst), 0)) := by unfold Hid; rw [HD2.out, if_neg (by simp), if_neg (by simpa using hbq), if_neg (by simp)]
        clear HD2
        have H4 : Hid _ := FsPost.ext H3.out (Ext.alloc HXA.out (.cells #[.int .i64 f2.mode, .slice r1 f2.data.length r2, .int .i64 f2.time] 76))
        go_wp2_with (go_at_call 142; go_must (refine (does_any (.mv src dst) [S8 dst, S8 src, .bool false, .int .i64 0, .slice none 0 0, .int .i64 0] (FsPost.fs H4.out) ⟨by omega, by omega, path_ne HPS.out, rfl⟩ (fun s d e => by cases e; exact HSRC.out) (by have := HOK1.out.lnow; omega) (by have := HOK1.out.lpend; omega) (by omega)).mono ?_; rintro e w5 ⟨rfl, h5, hr5⟩))
        go_ret
        rw [HDD.out]
        exact ⟨rfl, FsPost.trans H4.out ⟨h5, hr5⟩⟩
     | none =>
      rw [hlk2] at hrun2
      obtain rfl := hv4 hlk2
      simp only [Option.isSome_none] at hrun2
      rw [hlk2] at HD2
      have hne : (src == dst) = false := by
       rw [beq_eq_false_iff_ne]
       intro e
       rw [e, hlk2] at hlk
       cases hlk
      have HNE : Hid (src ≠ dst) := beq_eq_false_iff_ne.1 hne
      clear hv3 hv4 hlk hlk2
      have H4 : Hid _ := FsPost.ext H3.out (Ext.alloc HXA.out (.cells #[.int .i64 0, .slice none 0 0, .int .i64 0] 76))
      have HN4 : Hid _ := IsFiles.ext HN.out (Ext.alloc HXA.out (.cells #[.int .i64 0, .slice none 0 0, .int .i64 0] 76))
      obtain ⟨t0, t1, t2, t3, t4, t5, t6, t7, t8⟩ := cellsAt9 (Ext.row (Ext.alloc HXA.out (.cells #[.int .i64 0, .slice none 0 0, .int .i64 0] 76)) HG'.out)
      obtain ⟨my, hmy⟩ : ∃ my, mayF m1.now dst src = my := ⟨_, rfl⟩
      have HMY : Hid (mayP m1.now dst src = my) := (may_eq src HPD.out).trans hmy
      rw [hmy] at HD2
      clear hmy t0 t2 t3 t4 t5 t6 t7 t8
      go_wp2_with fail
      go_at_call 141
      refine (may_any dst src (HI.out.env1 H4.out) HN4.out (by omega)).mono ?_
      rw [HMY.out]
      rintro e w5 ⟨rfl, hx5⟩
      have H5 : Hid (FsPost S O R w (.pointer (some ⟨g, 0, none⟩)) m1 w5) := FsPost.ext H4.out hx5
      clear hx5
      cases my with
      | false =>
       have HDD : Hid (moveM m src dst fresh = (m1, 9)) := by unfold Hid; rw [HD2.out, if_neg (by simp), if_neg HNE.out]; simp
       clear HD2
       go_wp2
       go_ret
       rw [HDD.out]
       exact ⟨rfl, H5.out⟩
      | true =>
       have HDD : Hid (moveM m src dst fresh = (does m1 (.mv src dst), 0)) := by unfold Hid; rw [HD2.out, if_neg (by simp), if_neg HNE.out]; simp
       clear HD2
       go_wp2_with (go_at_call 142; go_must (refine (does_any (.mv src dst) [S8 dst, S8 src, .bool false, .int .i64 0, .slice none 0 0, .int .i64 0] H5.out.fs ⟨by omega, by omega, path_ne HPS.out, rfl⟩ (fun s d e => by cases e; exact HSRC.out) (by have := HOK1.out.lnow; omega) (by have := HOK1.out.lpend; omega) (by omega)).mono ?_; rintro e w6 ⟨rfl, h6, hr6⟩))
       go_ret
       rw [HDD.out]
       exact ⟨rfl, FsPost.trans H5.out ⟨h6, hr6⟩⟩
 ·have hb : (er == 0) = false := by simpa using her
  have hb' : (er != 0) = true := by simpa using her
  have HDD : Hid (moveM m src dst fresh = (m1, er)) := by unfold Hid; rw [HDEF.out]; simp [her]
  clear her HDEF
  go_enter Tryz.func147, Tryz.ntmps147
  go_wp2_with (go_at_call 144; go_must (refine (call_any HI.out.env HI.out.fs HI.out.ok HI.out.plan (by omega) (by omega) HI.out.noG HI.out.apart).mono ?_; rw [HCM.out]; rintro e w1 ⟨rfl, h1⟩))
  go_ret
  rw [HDD.out]
  exact ⟨rfl, h1⟩

theorem move_any {S O R : Nat → Prop} {w : World} {p : Value} {m : Fs} (src dst : B8) (h : FsIn S O R w p m) (hs : src.length ≤ 400) (hd : dst.length ≤ 400) :
  Calls Tryz.prog 64 #[p, S8 src, S8 dst] w fun e w' => e = .returned (.int .i64 (moveM m src dst false).2) ∧ FsPost S O R w p (moveM m src dst false).1 w' := by
 have HC : Hid _ := mv_any src dst false h hs hd
 clear h
 go_enter Tryz.func64, Tryz.ntmps64
 go_wp2_with (go_at_call 147; go_must (refine Calls.mono HC.out ?_; rintro e w1 ⟨rfl, h1⟩))
 go_ret
 exact ⟨rfl, h1⟩
theorem moveNew_any {S O R : Nat → Prop} {w : World} {p : Value} {m : Fs} (src dst : B8) (h : FsIn S O R w p m) (hs : src.length ≤ 400) (hd : dst.length ≤ 400) :
  Calls Tryz.prog 90 #[p, S8 src, S8 dst] w fun e w' => e = .returned (.int .i64 (moveM m src dst true).2) ∧ FsPost S O R w p (moveM m src dst true).1 w' := by
 have HC : Hid _ := mv_any src dst true h hs hd
 clear h
 go_enter Tryz.func90, Tryz.ntmps90
 go_wp2_with (go_at_call 147; go_must (refine Calls.mono HC.out ?_; rintro e w1 ⟨rfl, h1⟩))
 go_ret
 exact ⟨rfl, h1⟩

end Go.Proofs.YtfimfbdlegookaaGreatDoor

/-! fsim.FS: Peek, Paths. Conditions: a short path; at most 1000000 files. -/
namespace Go.Proofs.YtfimfbdlegookaaGreatDoor
open Go Go.RowKit

theorem Nu.mono {w0 w1 w w' : World} (h0 : w0.heap.size ≤ w.heap.size) (h1 : w'.heap.size ≤ w1.heap.size) {k : Nat} (h : Nu w w' k) : Nu w0 w1 k := ⟨Nat.le_trans h0 h.1, Nat.lt_of_lt_of_le h.2 h1⟩

/-- What stands at a path, looked up. -/
theorem IsFiles.peek_run {R : Nat → Prop} {w : World} {b : Nat} {l : Files} (h : IsFiles R w b l) (p : B8) (hp : p.length ≤ 1000000) :
  ∃ (fi : Fi) (a : Option Addr) (c : Nat) (ok : Bool), (Instr.lookup 99 (.map (some b)) (S8 p) true).run Tryz.prog w = .ok (.tuple #[.agg #[.int .i64 fi.mode, .slice a fi.data.length c, .int .i64 fi.time], .bool ok]) w ∧ IsData R w (.slice a fi.data.length c) fi.data ∧
   (match look l p with | some f => (f, true) | none => (zeroFi, false)) = (fi, ok) := by
 obtain ⟨val, hrun, -, hv1, hv2⟩ := h.look_run p hp
 cases hlk : look l p with
 | some f =>
  rw [hlk] at hrun
  obtain ⟨sv, rfl, hsv⟩ := hv1 f hlk
  obtain ⟨a, c, rfl, -⟩ := id hsv.bytes
  exact ⟨f, a, c, true, hrun, hsv, rfl⟩
 | none =>
  rw [hlk] at hrun
  obtain rfl := hv2 hlk
  exact ⟨zeroFi, none, 0, false, hrun, IsData.nil _ _, rfl⟩

set_option maxRecDepth 100000 in
set_option maxHeartbeats 2000000 in
theorem peek_any {S O R : Nat → Prop} {w : World} {p : Value} {m : Fs} (path : B8) (h : IsFs S O R w p m) (hp : path.length ≤ 1000000) :
  Calls Tryz.prog 42 #[p, S8 path] w fun e w' => (∃ v, e = .returned (.tuple #[fiV (peekM m path).1 v, .bool (peekM m path).2]) ∧ IsData (Nu w w') w' v (peekM m path).1.data) ∧ Ext w w' := by
 obtain ⟨g, gm, gd, vp, vl, vu, L, c0, rfl, hg, -, hP, -⟩ := h
 have hxz : Ext w (w.alloc (.cells #[.int .i64 0, .slice none 0 0, .int .i64 0] 76)) := (Ext.refl _).alloc _
 obtain ⟨d0, d1, d2, d3, d4, d5, d6, d7, d8⟩ := cellsAt9 (Ext.row hxz hg)
 obtain ⟨fi, a, c, ok, hrun, hd, hpk⟩ := (hP.now.ext hxz).peek_run path hp
 have HPK : Hid (peekM m path = (fi, ok)) := hpk
 have HD : Hid _ := hd
 have hdl := hd.bytes.len
 rw [HPK.out]
 obtain ⟨wb, hwb⟩ : ∃ wb, wb = (w.alloc (.cells #[.int .i64 0, .slice none 0 0, .int .i64 0] 76)).alloc (.cells #[.int .i64 fi.mode, .slice a fi.data.length c, .int .i64 fi.time] 76) := ⟨_, rfl⟩
 have hxb : Ext (w.alloc (.cells #[.int .i64 0, .slice none 0 0, .int .i64 0] 76)) wb := by rw [hwb]; exact (Ext.refl _).alloc _
 have hgb : wb.heap[w.heap.size + 1]? = some (.cells #[.int .i64 fi.mode, .slice a fi.data.length c, .int .i64 fi.time] 76 (0, 0)) := by rw [hwb]; exact alloc_at1 _ _ _
 have hga : wb.heap[w.heap.size]? = some (.cells #[.int .i64 0, .slice none 0 0, .int .i64 0] 76 (0, 0)) := hxb.row (alloc_at _ _)
 obtain ⟨y0, y1, y2⟩ := cellsAt3 hgb
 have HB : Hid (IsData R wb (.slice a fi.data.length c) fi.data) := hd.ext hxb
 have HWB : Hid _ := hwb
 have hxwb := hxz.trans hxb
 have hsb : w.heap.size + 2 ≤ wb.heap.size := by rw [hwb]; simp
 clear hwb hg hP hd hpk hxz hxb d0 d2 d3 d4 d5 d6 d7 d8
 go_enter Tryz.func42, Tryz.ntmps42
 go_upto_region 2 with fail
 rw [show (w.alloc (.cells #[.int .i64 0, .slice none 0 0, .int .i64 0] 76)).alloc (.cells #[.int .i64 fi.mode, .slice a fi.data.length c, .int .i64 fi.time] 76) = wb from HWB.out.symm]
 go_wp2_with fail
 go_at_call 57
 refine (clone_any _ fi.data _ HB.out.bytes (by omega)).mono ?_
 rintro e w2 ⟨⟨v2, rfl, hd2⟩, hx2⟩
 obtain ⟨c1, c2, rfl, -⟩ := id hd2.bytes
 have HD2 : Hid _ := hd2
 have hgb2 := hx2.row hgb
 have hga2 := hx2.row hga
 have hne2 : w.heap.size ≠ w.heap.size + 1 := by omega
 clear hd2 hgb hga y0 y1 y2
 go_wp2_with (first
  | (refine store_field rfl 31 (.tmp 20) (.tmp 19) rfl (w.heap.size + 1) 1 rfl (.slice c1 fi.data.length c2) rfl rfl _ _ hgb2 (Nat.le_of_ble_eq_true rfl) size_bytes #[.int .i64 fi.mode, .slice c1 fi.data.length c2, .int .i64 fi.time] (by simp) ?_; intro w3 hg3 hgr3; have hga3 := but_row hgr3 hga2 hne2)
  | (refine wpList_load_row rfl 76 (.tmp 6) rfl (w.heap.size + 1) rfl 76 _ (0, 0) _ hg3 Tryz.underlying76 rfl size_fi ?_)
  | (refine wpList_store_row rfl 76 (.tmp 4) (.tmp 21) rfl w.heap.size #[.int .i64 fi.mode, .slice c1 fi.data.length c2, .int .i64 fi.time] rfl rfl 76 _ hga3 size_fi rfl (by simp [Value.oneCell']) ?_))
 refine bodyPost_ret (results_row_tmp rfl _ _ w.heap.size 76 #[.int .i64 fi.mode, .slice c1 fi.data.length c2, .int .i64 fi.time] (0, 0) _ (.bool ok) rfl rfl (setRow_heap _ _ _ _ _ _ hga3) Tryz.underlying76 size_fi) rfl ?_
 have hk3 : KeepB w2 w3 := KeepB.of_grown hgr3 hgb2 (by kernel_rfl)
 have hk4 : KeepB w3 (w3.setRow w.heap.size #[.int .i64 fi.mode, .slice c1 fi.data.length c2, .int .i64 fi.time]) := KeepB.of_grown (setRow_grown _ _ _) hga3 (by kernel_rfl)
 have hx3 : Ext w w3 := Ext.but (hxwb.trans hx2) hgr3 (by omega)
 refine ⟨⟨_, rfl, (HD2.out.keep (hk3.trans hk4)).mono (fun k hk => Nu.mono (by omega) (Nat.le_trans hk3.1 hk4.1) hk)⟩, hx3.setRow _ _ (Nat.le_refl _)⟩

/-! ### Paths -/
theorem sort_any {w : World} {base : Nat} {v : Value} {ss : List B8} (hown : w.ownsRow base 9 1 v ss.length (ss.map S8)) (hl : ss.length ≤ 1000000) :
  Calls Tryz.prog 119 #[v] w fun e w' => e = .returned (.tuple #[]) ∧ w'.ownsRow base 9 1 v ss.length ((ss.mergeSort Go.leB).map S8) ∧ w.grownBy w' v.ownBlock := by
 rcases hown.2 with ⟨rfl, h0⟩ | ⟨g, cap, cur, rfl, hbase, hb, h1, h2, h3, h4⟩
 ·have hs : ss = [] := List.eq_nil_of_length_eq_zero (by simpa using h0)
  subst hs
  exact (Tryz.slices_Sort_string_none none 0 w).mono fun e w' ⟨he, hw⟩ => ⟨he, by rw [hw, List.mergeSort_nil]; exact hown, by rw [hw]; exact ⟨rfl, rfl, rfl, Nat.le_refl _, fun _ _ _ => rfl⟩⟩
 ·refine (Tryz.slices_Sort_string g 0 cap ss w (holds_of_block hb (by simpa using h4)) (Array.getElem?_eq_some_iff.1 hb).1 (by omega)).mono fun e w' ⟨he, n, os, hw⟩ => ⟨he, ?_, ?_⟩
  ·rw [hw]
   exact ownsRow_sorted (by simp) hbase hb h1 h2 h3
  ·rw [hw]
   exact grownBy_sorted _

theorem paths_sorted {l : Files} (h : Rising l) : (pathsL l).mergeSort Go.leB = pathsL l := by
 have tr : ∀ a b c : B8, Go.leB a b = true → Go.leB b c = true → Go.leB a c = true := fun a b c h1 h2 => by simp only [Go.leB, decide_eq_true_eq] at *; exact List.le_trans h1 h2
 have tot : ∀ a b : B8, (Go.leB a b || Go.leB b a) = true := fun a b => by simp only [Go.leB, Bool.or_eq_true, decide_eq_true_eq]; exact List.le_total a b
 refine List.Perm.eq_of_pairwise (le := fun a b => Go.leB a b = true) (fun a b _ _ h1 h2 => ?_) (List.pairwise_mergeSort tr tot _) ?_ (List.mergeSort_perm _ _)
 ·simp only [Go.leB, decide_eq_true_eq] at h1 h2
  exact List.le_antisymm h1 h2
 ·unfold pathsL
  refine List.pairwise_map.2 (h.imp fun {a b} hab => ?_)
  simp only [Go.leB, decide_eq_true_eq]
  exact List.le_of_lt (by simpa [ltB] using hab)

set_option maxRecDepth 100000 in
set_option maxHeartbeats 2000000 in
theorem paths_any {S O R : Nat → Prop} {w : World} {p : Value} {m : Fs} (h : IsFs S O R w p m) (hl : m.now.length ≤ 1000000) :
  Calls Tryz.prog 43 #[p] w fun e w' => (∃ v, e = .returned v ∧ w'.ownsRow w.heap.size 9 1 v m.now.length ((pathsL m.now).map S8)) ∧ Ext w w' := by
 obtain ⟨g, gm, gd, vp, vl, vu, L, c0, rfl, hg, -, hP, -⟩ := h
 obtain ⟨h1, h0, sl, hown, hd⟩ := hP.now
 have hsd := IsFiles.sliced hd
 obtain ⟨d0, d1, d2, d3, d4, d5, d6, d7, d8⟩ := cellsAt9 hg
 have hbl := hown.lt
 have HS : Hid _ := hsd
 have HR : Hid _ := h1
 have hall := leftF_all sl h1
 have HA : Hid _ := hall
 have HSO : Hid _ := paths_sorted h1
 clear hsd h1 hd hall h0 hg hP d0 d2 d3 d4 d5 d6 d7 d8
 go_enter Tryz.func43, Tryz.ntmps43
 go_wp2_with (first
  | (at_range; refine wpList_range_own _ rfl _ 99 rfl 9 76 K_str Tryz.underlying99 _ gm _ _ rfl hown ?_; intro w0 hrg0 hg0 hs0)
  | go_in)
 go_frame
 go_loopw [3] (fun sv wr => ∃ (left : Lit → Bool) (cnt : Nat) (C : List B8), wr.ranges Tryz.prog 9 elemV gm w.heap.size m.now.length (dat sl m.now) left cnt ∧ wr.ownsRow w.heap.size 9 1 sv C.length (C.map S8) ∧ (C ++ pathsL (leftF left m.now)).Perm (pathsL m.now) ∧ Ext w wr)
  (fun _ wr => wr.rangeLeft gm w.heap.size)
 case atStart => exact ⟨_, _, [], hrg0, World.ownsRow_nil _ _ _ _, by rw [HA.out]; exact List.Perm.refl _, Below.grown (Below.refl _ _) hg0 (Nat.le_refl _) (fun j hj => by cases hj)⟩
 case round =>
  obtain ⟨left, cnt, C, hrg, hown, hpm, hx⟩ := hrel
  have HPM : Hid _ := hpm
  have hCl : C.length ≤ m.now.length := by
   have := hpm.length_eq
   simp only [List.length_append, pathsL, List.length_map] at this
   omega
  have HOW : Hid _ := hown
  clear hpm hown
  go_wp2_with (at_next; refine next_files rfl _ rfl gm w.heap.size _ sl m.now _ _ rfl hrg HS.out ?_ ?_)
  ·intro hc0 hl0
   have hpe : C.Perm (pathsL m.now) := by
    have := HPM.out
    rw [leftF_none hl0] at this
    simpa [pathsL] using this
   have hms : C.mergeSort Go.leB = pathsL m.now := (Go.mergeSort_of_perm hpe).trans HSO.out
   have hle : C.length = m.now.length := by have := hpe.length_eq; simpa [pathsL] using this
   have HMS : Hid _ := hms
   have HLE : Hid _ := hle
   clear hl0 hpe hms hle
   go_wp2_with (go_at_call 119; go_must (refine (sort_any HOW.out (by omega)).mono ?_; rintro e w5 ⟨rfl, ho5, hg5⟩))
   go_ret
   rw [HMS.out, HLE.out] at ho5
   exact ⟨⟨_, rfl, ho5⟩, Below.grown hx hg5 hx.size (fun q hq => (World.ownsRow.lt HOW.out q hq).1)⟩
  ·intro q f ad c w1 cnt1 hlk hsl hlx hat hrg1 hlt hg1 hs1 hen
   have hst := strike_perm (f := f) hlx HR.out hlk
   have hpm1 : ((C ++ [q]) ++ pathsL (leftF (strike left q) m.now)).Perm (pathsL m.now) := by
    refine List.Perm.trans ?_ HPM.out
    rw [List.append_assoc]
    refine List.Perm.append_left C ?_
    exact (List.Perm.map Prod.fst hst).symm
   have HM : Hid _ := hpm1
   have hne := row_ne_iter HOW.out hrg
   have hown1 := World.ownsRow.kept HOW.out hg1 (.inr hne.symm)
   have hx1 : Ext w w1 := Below.grown hx hg1 hx.size (fun j hj => by cases hj; exact Nat.le_refl _)
   have hxa : Ext w1 (w1.alloc (.cells #[S8 q] 9)) := (Ext.refl _).alloc _
   have hown2 := owns_ext hown1 hxa
   have hx2 := hx1.trans hxa
   have hsz : w.heap.size ≤ (w1.alloc (.cells #[S8 q] 9)).heap.size := hx2.size
   have hrg2 := hrg1.alloc (.cells #[S8 q] 9)
   have HNE2 : Hid _ := row_ne_iter hown2 hrg2
   have HLOW : Hid _ := row_ne_low hown2 hbl
   clear hlk hsl hat hst hpm1 hlx hne hown1 hx1 hxa hs1
   go_wp2_with (at_builtin; go_must (refine app_str rfl _ _ rfl w.heap.size _ C.length C rfl hown2 w1.heap.size 1 1 [q] rfl rfl (alloc_at _ _) (by omega) hsz ?_); intro v' w3 hown3 hgr3)
   go_roundw
   case rel => exact ⟨_, cnt1, C ++ [q], hrg2.kept hgr3 HLOW.out HNE2.out, by rw [List.length_append]; exact hown3, HM.out, Below.grown hx2 hgr3 hx2.size (fun j hj => (hown2.lt j hj).1)⟩
   case measure => rw [(hrg2.kept hgr3 HLOW.out HNE2.out).left_eq, hrg.left_eq]; exact hlt

end Go.Proofs.YtfimfbdlegookaaGreatDoor

/-! fsim.FS: List, Read. Conditions: what holds of a file system at all times; short paths. -/
namespace Go.Proofs.YtfimfbdlegookaaGreatDoor
open Go Go.RowKit Go.Sort Go.Shelf

set_option maxRecDepth 100000 in
theorem under_gives (dir x : B8) (B : Nat) (W : World) (hd : dir.length ≤ 1000000) (hc : W.cell? ⟨B, 0, none⟩ = some (S8 dir)) :
  FnGives Tryz.prog 151 #[.pointer (some ⟨B, 0, none⟩)] #[S8 x] (.bool (!isUnder dir x)) W := by
 show Calls Tryz.prog 151 #[S8 x, .pointer (some ⟨B, 0, none⟩)] W _
 have hu : (dir ++ [47]).isPrefixOf x = isUnder dir x := rfl
 obtain ⟨u, hue⟩ : ∃ u, isUnder dir x = u := ⟨_, rfl⟩
 have HU : Hid _ := hu.trans hue
 rw [hue]
 clear hu hue
 go_enter Tryz.func151, Tryz.ntmps151
 go_wp2_with (go_at_call 67; go_must (refine (prefix_any _ _ _).mono ?_; rw [und_str, show (⟨x.toArray⟩ : ByteArray).data.toList = x from rfl, HU.out]; rintro e w' ⟨rfl, rfl⟩))
 go_ret
 exact ⟨rfl, 0, rfl⟩

theorem putRow_grown {w : World} {g n : Nat} (d : Array B8) : w.grownBy (putRow encStr (Sort.ahead w n) g 0 d) (some g) := by
 refine ⟨rfl, rfl, rfl, by simp [Sort.ahead], fun k hk hne => ?_⟩
 have : g ≠ k := fun e => hne (by rw [e])
 simp [putRow, mapBlock, Sort.ahead, Array.getElem?_modify, this]

set_option maxRecDepth 100000 in
theorem index_nil (f : Value) (w : World) :
  Calls Tryz.prog 187 #[.slice none 0 0, f] w fun e w' => e = .returned (.int .i64 (-1)) ∧ w' = w := by
 go_enter Tryz.func187, Tryz.ntmps187
 go_wp2
 go_loop [8] (fun i => i = .int .i64 0) (fun _ => 0)
 case atStart => rfl
 case round =>
  subst hrel
  go_wp2
  go_ret
  exact ⟨rfl, rfl⟩
set_option maxRecDepth 100000 in
theorem delFn_nil (f : Value) (w : World) :
  Calls Tryz.prog 150 #[.slice none 0 0, f] w fun e w' => e = .returned (.slice none 0 0) ∧ w' = w := by
 go_enter Tryz.func150, Tryz.ntmps150
 go_wp2_with (go_at_call 187; go_must (refine (index_nil _ _).mono ?_; rintro e w' ⟨rfl, rfl⟩))
 go_ret
 exact ⟨rfl, rfl⟩

/-- The paths under one: of a slice of the call's own. -/
theorem delFn_any (dir : B8) (B : Nat) {w : World} {base : Nat} {v : Value} {ss : List B8} (hd : dir.length ≤ 1000000) (hc : w.cell? ⟨B, 0, none⟩ = some (S8 dir)) (hB : B < base) (hown : w.ownsRow base 9 1 v ss.length (ss.map S8)) (hl : ss.length ≤ 1000000) :
  Calls Tryz.prog 150 #[v, .func (.func 151) #[] #[.pointer (some ⟨B, 0, none⟩)]] w fun e w' => (∃ v', e = .returned v' ∧ IsStrs w' v' (ss.filter (isUnder dir)) ∧ ∀ k, v'.ownBlock = some k → base ≤ k) ∧ w.grownBy w' v.ownBlock := by
 rcases hown.2 with ⟨rfl, h0⟩ | ⟨g, cap, cur, rfl, hbase, hb, h1, h2, h3, h4⟩
 ·have hs : ss = [] := List.eq_nil_of_length_eq_zero (by simpa using h0)
  subst hs
  exact (delFn_nil _ w).mono fun e w' ⟨he, hw⟩ => ⟨⟨_, he, by rw [hw]; exact IsStrs.nil w, fun k hk => by simp [Value.ownBlock] at hk⟩, by rw [hw]; exact ⟨rfl, rfl, rfl, Nat.le_refl _, fun _ _ _ => rfl⟩⟩
 ·have hH := holds_of_block hb (by simpa using h4)
  have eg : ∀ args w, (callFunc 151 args).run Tryz.prog w = .ok (.enter 151 args) w := enters_of Tryz.func151 (by kernel_rfl) rfl
  have hBl : B < w.heap.size := World.block_lt_of_cell? _ _ hc
  have hne : B ≠ g := by omega
  have hp : PredAt Tryz.prog 151 #[.pointer (some ⟨B, 0, none⟩)] encStr (fun x => !isUnder dir x) w := fun W x hb => under_gives dir x B W hd ((hb.cell (p := ⟨B, 0, none⟩) hBl).trans hc)
  have hpo : PredOver Tryz.prog 151 #[.pointer (some ⟨B, 0, none⟩)] encStr (fun x => !isUnder dir x) g 0 ss.toArray.size w := fun n os dk x _ => under_gives dir x B _ hd (by
   unfold sortWorld
   rw [cell?_grow _ _ _ (by show B < (putRow _ _ _ _ _).heap.size; rw [size_putRow]; exact hBl), cell?_putRow_other _ _ g 0 _ _ (Or.inl hne)]
   exact hc)
  have hcon := AnyE.slices_DeleteFunc Tryz.laysDel encStr (fun _ => rfl) (fun x => !isUnder dir x) 151 #[.pointer (some ⟨B, 0, none⟩)] eg [] Tryz.zeroValue9 g 0 cap ss.toArray w hp hpo hH (by simp; omega) (by simpa using h1)
  have hfe : (ss.toArray.toList.filter fun x => !(fun x => !isUnder dir x) x) = ss.filter (isUnder dir) := by simp
  rw [hfe, show ss.toArray.size = ss.length from rfl] at hcon
  refine Calls.mono hcon fun e w' ⟨he, q, hw⟩ => ⟨⟨_, he, ?_, fun k hk => ?_⟩, ?_⟩
  ·have hle : (ss.filter (isUnder dir)).length ≤ ss.length := List.length_filter_le _ _
   refine ⟨_, cap, rfl, by omega, by unfold maxLen at h2; omega, by omega, fun _ => ⟨g, 0, rfl, fun i u hu => ?_⟩⟩
   obtain ⟨x, hx, rfl⟩ := (by simpa [List.getElem?_map] using hu : ∃ x, (ss.filter (isUnder dir))[i]? = some x ∧ S8 x = u)
   have hi := (List.getElem?_eq_some_iff.1 hx).1
   rw [hw]
   have hH2 : Holds encStr (Sort.ahead w q) g 0 ss.toArray := hH
   rw [cell?_putRow encStr (Sort.ahead w q) g 0 ss.toArray _ hH2 (by simp; omega) i (by simp; omega)]
   congr 1
   have : ((ss.filter (isUnder dir)) ++ List.replicate (ss.length - (ss.filter (isUnder dir)).length) [])[i]? = some x := by rw [List.getElem?_append_left hi]; exact hx
   simp [this]
  ·have : g = k := by simpa [Value.ownBlock] using hk
   omega
  ·rw [hw]; exact putRow_grown _

end Go.Proofs.YtfimfbdlegookaaGreatDoor

/-! fsim.FS: List, Read. Conditions: what holds of a file system at all times; short paths. -/
namespace Go.Proofs.YtfimfbdlegookaaGreatDoor
open Go Go.RowKit

theorem FsIn.ext {S O R : Nat → Prop} {w wx : World} {p : Value} {m : Fs} (h : FsIn S O R w p m) (hx : Ext w wx) : FsIn S O R wx p m :=
 ⟨h.env.ext hx, h.fs.ext hx, h.ok, h.plan, h.time, h.calls, h.noG, fun k hk => ⟨(h.apart k hk).1, Nat.lt_of_lt_of_le (h.apart k hk).2 hx.size⟩, fun k hk => Nat.lt_of_lt_of_le (h.low k hk) hx.size, h.room0, h.room1⟩
theorem FsPost.cell {S O R : Nat → Prop} {w w1 : World} {p : Value} {m1 : Fs} (h : FsPost S O R w p m1 w1) {b o : Nat} {v : Value} (hc : w.cell? ⟨b, o, none⟩ = some v) (hb : ¬ O b) : w1.cell? ⟨b, o, none⟩ = some v := by
 rw [World.cell?_of_block (w := w) (w' := w1) (a := ⟨b, o, none⟩) (h.fr.block b (World.block_lt_of_cell? _ _ hc) (.inl hb))]
 exact hc
theorem FsPost.row {S O R : Nat → Prop} {w w1 : World} {p : Value} {m1 : Fs} (h : FsPost S O R w p m1 w1) {b : Nat} {o : Obj} (hc : w.heap[b]? = some o) (hb : ¬ O b) : w1.heap[b]? = some o := h.fr.row hc hb
theorem strs_owned {w : World} {base : Nat} {v : Value} {L : List B8} {n : Nat} (h : w.ownsRow base 9 1 v n (L.map S8)) (hn : n = L.length) (hl : n ≤ 1000000) : IsStrs w v L := by
 subst hn
 exact Row.of_owns h (by omega)

set_option maxRecDepth 100000 in
set_option maxHeartbeats 4000000 in
theorem list_any {S O R : Nat → Prop} {w : World} {p : Value} {m : Fs} (dir : B8) (h : FsIn S O R w p m) (hp : dir.length ≤ 400) :
  Calls Tryz.prog 70 #[p, S8 dir] w fun e w' => (∃ v, e = .returned (.tuple #[v, .int .i64 (listM m dir).2.2]) ∧ IsStrs w' v (listM m dir).2.1 ∧ ∀ k, v.ownBlock = some k → w.heap.size ≤ k) ∧ FsPost S O R w p (listM m dir).1 w' := by
 obtain ⟨m1, full, er, hcm⟩ : ∃ m1 full er, callM m = (m1, full, er) := ⟨_, _, _, rfl⟩
 have hcl := call_left h.ok h.plan
 rw [hcm] at hcl
 have hdef : listM m dir = if er ≠ 0 then (m1, [], er) else if dir = [] then (m1, pathsL m1.now, 0) else if pathB dir = false then (m1, [], 6) else (m1, (pathsL m1.now).filter (isUnder dir), 0) := by unfold listM; rw [hcm]
 have HDEF : Hid _ := hdef
 have HCM : Hid _ := hcm
 have HCL : Hid _ := hcl
 have htm := h.time
 have hcs := h.calls
 obtain ⟨wa, hwa⟩ : ∃ wa, wa = w.alloc (.cells #[S8 dir] 9) := ⟨_, rfl⟩
 have hxa : Ext w wa := by rw [hwa]; exact (Ext.refl _).alloc _
 have hba : wa.cell? ⟨w.heap.size, 0, none⟩ = some (S8 dir) := by rw [hwa]; exact (cell_of_row _ _ 0 _ _ _ (alloc_at w _)).trans rfl
 have hsa : w.heap.size < wa.heap.size := by rw [hwa]; simp
 have HNO : Hid (¬ O w.heap.size) := fun ho => by have := h.low _ ho; omega
 have HI : Hid _ := h.ext hxa
 have HWA : Hid _ := hwa
 have HXA : Hid _ := hxa
 have htd : (⟨dir.toArray⟩ : ByteArray).toList = dir := Lib.toList_data _
 clear hdef hcm hcl h hwa hxa
 go_enter Tryz.func70, Tryz.ntmps70
 go_wp2_with fail
 rw [show w.alloc (.cells #[S8 dir] 9) = wa from HWA.out.symm]
 go_at_call 144
 refine (call_any HI.out.env HI.out.fs HI.out.ok HI.out.plan (by omega) (by omega) HI.out.noG HI.out.apart).mono ?_
 rw [HCM.out]
 rintro e w1 ⟨rfl, h1⟩
 have H1 : Hid (FsPost S O R wa p m1 w1) := h1
 have H0 : Hid (FsPost S O R w p m1 w1) := FsPost.pre HXA.out h1
 have hb1 := h1.cell hba HNO.out
 have hln : m1.now.length ≤ 1000000 := by
  have h1 : OkM m1 := HCL.out.1.ok
  have h2 : m1.time ≤ m.time + 1000 := HCL.out.1.time
  have := h1.lnow
  omega
 have hpl : (pathsL m1.now).length = m1.now.length := by simp [pathsL]
 have HPL : Hid _ := hpl
 have hs1 : wa.heap.size ≤ w1.heap.size := h1.fr.size
 clear h1 hba hpl
 by_cases her : er = 0
 ·subst her
  by_cases hd0 : dir = []
  ·subst hd0
   have HDD : Hid (listM m [] = (m1, pathsL m1.now, 0)) := HDEF.out
   clear HDEF
   go_wp2_with (go_at_call 43; go_must (refine (paths_any H1.out.fs hln).mono ?_; rintro e w2 ⟨⟨v, rfl, hv⟩, hx2⟩))
   go_ret2
   rw [HDD.out]
   exact ⟨⟨_, rfl, strs_owned hv HPL.out.symm hln, fun k hk => by have := (World.ownsRow.lt hv k hk).1; omega⟩, H0.out.ext hx2⟩
  ·have hde : dir.isEmpty = false := by cases dir <;> simp_all
   have hdb : (dir == []) = false := by simpa using hd0
   have HD0 : Hid _ := hd0
   obtain ⟨pd, hpd⟩ : ∃ pd, pathB dir = pd := ⟨_, rfl⟩
   have HPD : Hid _ := hpd
   rw [hpd, if_neg (by simp), if_neg hd0] at HDEF
   clear hpd
   go_wp2_with fail
   go_at_call 66
   refine (path_l dir _ (HI.out.env1 H1.out) (by omega)).mono ?_
   rw [HPD.out]
   rintro e w2 ⟨rfl, hx2⟩
   have hb2 := hx2.cell hb1
   have H2 : Hid _ := H1.out.ext hx2
   have H02 : Hid _ := H0.out.ext hx2
   have hs2 := hx2.size
   cases pd with
   | false =>
    have HDD : Hid (listM m dir = (m1, [], 6)) := HDEF.out
    clear HDEF hx2
    go_wp2
    go_ret2
    rw [HDD.out]
    exact ⟨⟨_, rfl, IsStrs.nil _, fun k hk => by simp [Value.ownBlock] at hk⟩, H02.out⟩
   | true =>
    have HDD : Hid (listM m dir = (m1, (pathsL m1.now).filter (isUnder dir), 0)) := HDEF.out
    clear HDEF hx2
    go_wp2_with (first
     | (go_at_call 43; go_must (refine (paths_any H2.out.fs hln).mono ?_; rintro e w3 ⟨⟨v, rfl, hv⟩, hx3⟩; rw [← HPL.out] at hv; have hb3 := hx3.cell hb2; have HV : Hid _ := hv; clear hv))
     | (go_at_call 150; go_must (refine (delFn_any dir w.heap.size (by omega) hb3 (by omega) HV.out (by rw [HPL.out]; exact hln)).mono ?_; rintro e w4 ⟨⟨v4, rfl, hv4, hi4⟩, hg4⟩)))
    go_ret2
    rw [HDD.out]
    have hx24 : Ext w2 w4 := Below.grown hx3 hg4 hx3.size (fun q hq => (World.ownsRow.lt HV.out q hq).1)
    exact ⟨⟨_, rfl, hv4, fun k hk => by have := hi4 k hk; omega⟩, H02.out.ext hx24⟩
 ·have hb : (er == 0) = false := by simpa using her
  have hb' : (er != 0) = true := by simpa using her
  have HDD : Hid (listM m dir = (m1, [], er)) := by unfold Hid; rw [HDEF.out]; simp [her]
  clear her HDEF
  go_wp2
  go_ret2
  rw [HDD.out]
  exact ⟨⟨_, rfl, IsStrs.nil _, fun k hk => by simp [Value.ownBlock] at hk⟩, H0.out⟩

/-- A row of a file that is written into a block of the call's own: the file system stands. -/
theorem readBlock {S O R : Nat → Prop} {w w1 : World} {p : Value} {m1 : Fs} {g : Nat} {cs cur : Array Value} (h : FsPost S O R w p m1 w1) (hb : w1.heap[g]? = some (.cells cur 76 (0, 0))) (hg : g = w.heap.size) : FsPost S O R w p m1 (w1.setRow g cs) := by
 subst hg
 have hgr := setRow_grown w1 w.heap.size cs
 obtain ⟨g, gm, gd, vp, vl, vu, L, c0, rfl, hg, hO, hP, hpl, hc0⟩ := h.fs
 have hne := apart_kind hg hb (by simp)
 obtain ⟨e1, c1, k1⟩ := hP.now.kind
 obtain ⟨e2, c2, k2⟩ := hP.sure.kind
 have ne : ∀ k, (∃ x, w1.heap[k]? = some x ∧ ∀ cs fr, x ≠ Obj.cells cs 76 fr) → (w1.setRow w.heap.size cs).heap[k]? = w1.heap[k]? := fun k ⟨x, hx, hn⟩ => hgr.block k (Array.getElem?_eq_some_iff.1 hx).1 (fun heq => by
  simp only [Option.some.injEq] at heq
  subst heq
  rw [hb] at hx
  exact hn cur (0, 0) (Option.some.inj hx).symm)
 have hP2 := hP.stay (ne _ ⟨_, k1, by simp⟩) (ne _ ⟨_, k2, by simp⟩) (fun k hv => by obtain ⟨xs, f, hx⟩ := hP.pend.typed k hv; exact ne k ⟨_, hx, by simp⟩) (fun k hv => by obtain ⟨xs, f, hx⟩ := hP.plan.typed k hv; exact ne k ⟨_, hx, by simp⟩) (fun k hv => by obtain ⟨xs, f, hx⟩ := hP.users.typed k hv; exact ne k ⟨_, hx, by simp⟩) (grownR hgr (by rintro k hk; cases hk; exact cells_u8 hb (by kernel_rfl)))
 have hsz : (w1.setRow w.heap.size cs).heap.size = w1.heap.size := by simp [World.setRow]
 have hmo : ∀ (Q : Nat → Prop) k, Nw Q w w1 k → Nw Q w (w1.setRow w.heap.size cs) k := fun Q k hk => hk.imp id (fun h => ⟨h.1, by rw [hsz]; exact h.2⟩)
 refine ⟨IsFs.mono ⟨g, gm, gd, vp, vl, vu, L, c0, rfl, (ne g ⟨_, hg, by simp⟩).trans hg, hO, hP2, hpl, hc0⟩ (hmo O) (hmo R), h.fr.step hgr (fun k hk => by cases hk; exact .inr (Nat.le_refl _)) (by rintro k hk; cases hk; exact cells_u8 hb (by kernel_rfl))⟩

set_option maxRecDepth 100000 in
set_option maxHeartbeats 4000000 in
theorem read_any {S O R : Nat → Prop} {w : World} {p : Value} {m : Fs} (path : B8) (h : FsIn S O R w p m) (hp : path.length ≤ 400) :
  Calls Tryz.prog 68 #[p, S8 path] w fun e w' => (∃ v, e = .returned (.tuple #[fiV (readM m path).2.1 v, .int .i64 (readM m path).2.2]) ∧ IsData (Nu w w') w' v (readM m path).2.1.data) ∧ FsPost S O R w p (readM m path).1 w' := by
 obtain ⟨m1, full, er, hcm⟩ : ∃ m1 full er, callM m = (m1, full, er) := ⟨_, _, _, rfl⟩
 have hcl := call_left h.ok h.plan
 rw [hcm] at hcl
 have hdef : readM m path = if er ≠ 0 then (m1, zeroFi, er) else if pathB path = false then (m1, zeroFi, 6) else match look m1.now path with | some f => (m1, f, 0) | none => (m1, zeroFi, 7) := by
  unfold readM
  rw [hcm]
  all_goals (dsimp only; cases look m1.now path <;> rfl)
 have HDEF : Hid _ := hdef
 have HCM : Hid _ := hcm
 have HCL : Hid _ := hcl
 have htm := h.time
 have hcs := h.calls
 obtain ⟨wa, hwa⟩ : ∃ wa, wa = w.alloc (.cells #[.int .i64 0, .slice none 0 0, .int .i64 0] 76) := ⟨_, rfl⟩
 have hxa : Ext w wa := by rw [hwa]; exact (Ext.refl _).alloc _
 have hba : wa.heap[w.heap.size]? = some (.cells #[.int .i64 0, .slice none 0 0, .int .i64 0] 76 (0, 0)) := by rw [hwa]; exact alloc_at w _
 have hsa : w.heap.size < wa.heap.size := by rw [hwa]; simp
 have HNO : Hid (¬ O w.heap.size) := fun ho => by have := h.low _ ho; omega
 have HI : Hid _ := h.ext hxa
 have HWA : Hid _ := hwa
 have HXA : Hid _ := hxa
 clear hdef hcm hcl h hwa hxa
 go_enter Tryz.func68, Tryz.ntmps68
 go_wp2_with fail
 rw [show w.alloc (.cells #[.int .i64 0, .slice none 0 0, .int .i64 0] 76) = wa from HWA.out.symm]
 go_at_call 144
 refine (call_any HI.out.env HI.out.fs HI.out.ok HI.out.plan (by omega) (by omega) HI.out.noG HI.out.apart).mono ?_
 rw [HCM.out]
 rintro e w1 ⟨rfl, h1⟩
 have H1 : Hid (FsPost S O R wa p m1 w1) := h1
 have H0 : Hid (FsPost S O R w p m1 w1) := FsPost.pre HXA.out h1
 have hb1 := h1.row hba HNO.out
 have hs1 : wa.heap.size ≤ w1.heap.size := h1.fr.size
 clear h1 hba
 by_cases her : er = 0
 ·subst her
  obtain ⟨pd, hpd⟩ : ∃ pd, pathB path = pd := ⟨_, rfl⟩
  have HPD : Hid _ := hpd
  rw [hpd, if_neg (by simp)] at HDEF
  clear hpd
  go_wp2_with fail
  go_at_call 66
  refine (path_l path _ (HI.out.env1 H1.out) (by omega)).mono ?_
  rw [HPD.out]
  rintro e w2 ⟨rfl, hx2⟩
  have hb2 := hx2.row hb1
  have H2 : Hid _ := H1.out.ext hx2
  have H02 : Hid _ := H0.out.ext hx2
  have hs2 := hx2.size
  cases pd with
  | false =>
   have HDD : Hid (readM m path = (m1, zeroFi, 6)) := HDEF.out
   clear HDEF hx2
   go_wp2_with (refine wpList_store_row rfl 76 (.tmp 4) (.tmp 22) rfl w.heap.size #[.int .i64 0, .slice none 0 0, .int .i64 0] rfl rfl 76 _ hb2 size_fi rfl (by simp [Value.oneCell']) ?_)
   refine bodyPost_ret (results_row_tmp rfl _ _ w.heap.size 76 #[.int .i64 0, .slice none 0 0, .int .i64 0] (0, 0) _ (.int .i64 6) rfl rfl (setRow_heap _ _ _ _ _ _ hb2) Tryz.underlying76 size_fi) rfl ?_
   rw [HDD.out]
   exact ⟨⟨_, rfl, IsData.nil _ _⟩, readBlock H02.out hb2 rfl⟩
  | true =>
   have HDE : Hid (readM m path = (m1, (peekM m1 path).1, if (peekM m1 path).2 then 0 else 7)) := by
    unfold Hid peekM
    rw [HDEF.out, if_neg (by simp)]
    cases look m1.now path <;> rfl
   have HZ : Hid ((peekM m1 path).2 = false → (peekM m1 path).1 = zeroFi) := by
    unfold Hid peekM
    cases look m1.now path <;> simp
   obtain ⟨fi, ok, hpk⟩ : ∃ fi ok, peekM m1 path = (fi, ok) := ⟨_, _, rfl⟩
   have HPK : Hid _ := hpk
   rw [hpk] at HDE HZ
   clear HDEF hx2 hpk
   go_wp2_with fail
   go_at_call 42
   refine (peek_any path H2.out.fs (by omega)).mono ?_
   rw [HPK.out]
   rintro e w3 ⟨⟨v, rfl, hv⟩, hx3⟩
   obtain ⟨c1, c2, rfl, -⟩ := id hv.bytes
   have hb3 := hx3.row hb2
   have HV : Hid _ := hv
   have H03 : Hid _ := H02.out.ext hx3
   have hs3 := hx3.size
   have hx4 : Ext w3 (w3.alloc (.cells #[.int .i64 fi.mode, .slice c1 fi.data.length c2, .int .i64 fi.time] 76)) := (Ext.refl _).alloc _
   have hb4 := hx4.row hb3
   have hbv := alloc_at w3 (.cells #[.int .i64 fi.mode, .slice c1 fi.data.length c2, .int .i64 fi.time] 76)
   have H04 : Hid _ := H03.out.ext hx4
   have HX4 : Hid _ := hx4
   clear hv hx3 hx4
   cases ok with
   | false =>
    have hfz : fi = zeroFi := HZ.out rfl
    subst hfz
    have HDD : Hid (readM m path = (m1, zeroFi, 7)) := HDE.out
    clear HDE HZ
    go_wp2_with (refine wpList_store_row rfl 76 (.tmp 4) (.tmp 31) rfl w.heap.size #[.int .i64 0, .slice none 0 0, .int .i64 0] rfl rfl 76 _ hb4 size_fi rfl (by simp [Value.oneCell']) ?_)
    refine bodyPost_ret (results_row_tmp rfl _ _ w.heap.size 76 #[.int .i64 0, .slice none 0 0, .int .i64 0] (0, 0) _ (.int .i64 7) rfl rfl (setRow_heap _ _ _ _ _ _ hb4) Tryz.underlying76 size_fi) rfl ?_
    rw [HDD.out]
    exact ⟨⟨_, rfl, IsData.nil _ _⟩, readBlock H04.out hb4 rfl⟩
   | true =>
    have HDD : Hid (readM m path = (m1, fi, 0)) := HDE.out
    clear HDE HZ
    go_wp2_with (first
     | (refine wpList_load_row rfl 76 (.tmp 8) rfl w3.heap.size rfl 76 _ (0, 0) _ hbv Tryz.underlying76 rfl size_fi ?_)
     | (refine wpList_store_row rfl 76 (.tmp 4) (.tmp 32) rfl w.heap.size #[.int .i64 fi.mode, .slice c1 fi.data.length c2, .int .i64 fi.time] rfl rfl 76 _ hb4 size_fi rfl (by simp [Value.oneCell']) ?_))
    refine bodyPost_ret (results_row_tmp rfl _ _ w.heap.size 76 #[.int .i64 fi.mode, .slice c1 fi.data.length c2, .int .i64 fi.time] (0, 0) _ (.int .i64 0) rfl rfl (setRow_heap _ _ _ _ _ _ hb4) Tryz.underlying76 size_fi) rfl ?_
    rw [HDD.out]
    have hk4 : KeepB w3 _ := (KeepB.of_ext HX4.out).trans (KeepB.of_grown (setRow_grown _ w.heap.size #[.int .i64 fi.mode, .slice c1 fi.data.length c2, .int .i64 fi.time]) hb4 (by kernel_rfl))
    exact ⟨⟨_, rfl, (HV.out.keep hk4).mono (fun k hk => Nu.mono (by omega) hk4.1 hk)⟩, readBlock H04.out hb4 rfl⟩
 ·have hb : (er == 0) = false := by simpa using her
  have hb' : (er != 0) = true := by simpa using her
  have HDD : Hid (readM m path = (m1, zeroFi, er)) := by unfold Hid; rw [HDEF.out]; simp [her]
  clear her HDEF
  go_wp2_with (refine wpList_store_row rfl 76 (.tmp 4) (.tmp 17) rfl w.heap.size #[.int .i64 0, .slice none 0 0, .int .i64 0] rfl rfl 76 _ hb1 size_fi rfl (by simp [Value.oneCell']) ?_)
  refine bodyPost_ret (results_row_tmp rfl _ _ w.heap.size 76 #[.int .i64 0, .slice none 0 0, .int .i64 0] (0, 0) _ (.int .i64 er) rfl rfl (setRow_heap _ _ _ _ _ _ hb1) Tryz.underlying76 size_fi) rfl ?_
  rw [HDD.out]
  exact ⟨⟨_, rfl, IsData.nil _ _⟩, readBlock H0.out hb1 rfl⟩

end Go.Proofs.YtfimfbdlegookaaGreatDoor

/-! slices.Clone at events and changes; fsim.copiedEvents; Plan, User. Conditions: at most 1000000 elements. -/
namespace Go.Proofs.YtfimfbdlegookaaGreatDoor
open Go Go.RowKit

theorem owns_empty {w : World} {e : TypeId} {size : Nat} : (w.alloc (.cells #[] e)).ownsRow w.heap.size e size (.slice (some ⟨w.heap.size, 0, none⟩) 0 0) 0 [] :=
 ⟨by simp, .inr ⟨w.heap.size, 0, #[], rfl, Nat.le_refl _, alloc_at _ _, Nat.le_refl _, Nat.zero_le _, by simp, by simp⟩⟩
theorem add_at (b o i : Nat) : (⟨b, o, none⟩ : Addr).add i = ⟨b, o + i, none⟩ := by unfold Addr.add; split <;> simp_all


set_option maxRecDepth 100000 in
set_option maxHeartbeats 1000000 in
theorem clone_evs {w : World} {v : Value} {n : Nat} {xs : List Value} (hv : Row w v n xs) (hl : xs.length = n * 7) (h1 : ∀ u ∈ xs, u.oneCell' = true) (hn : n ≤ 1000000) :
  Calls Tryz.prog 153 #[v] w fun e w' => (∃ v', e = .returned v' ∧ w'.ownsRow w.heap.size 53 7 v' n xs) ∧ Ext w w' := by
 obtain ⟨a, cap, rfl, r1, r2, r3, r4⟩ := hv
 have hq : ∀ W : World, (binOp .eql 32 (.slice a n cap) (.slice none 0 0)).run Tryz.prog W = .ok (.bool a.isNone) W := fun W => Go.Lib.run_eql_slice_nil W _ _ a n cap 0 0 Tryz.underlying32
 cases a with
 | none =>
  have hx : xs = [] := by
   cases xs with
   | nil => rfl
   | cons x l => obtain ⟨b, o, he, _⟩ := r4 (by simp); cases he
  subst hx
  have hn0 : n = 0 := by simp at hl; omega
  subst hn0
  go_enter Tryz.func153, Tryz.ntmps153
  go_wp2
  go_ret
  exact ⟨⟨_, rfl, World.ownsRow_nil _ _ _ _⟩, Ext.refl _⟩
 | some ad =>
  have hxa : Ext w (w.alloc (.cells #[] 53)) := (Ext.refl _).alloc _
  have hnews : ∀ j u, xs[j]? = some u → (w.alloc (.cells #[] 53)).cell? (ad.add j) = some u := fun j u hu => by
   obtain ⟨b, o, he, hc⟩ := r4 (by rintro rfl; simp at hu)
   cases he
   rw [add_at]
   exact hxa.cell (hc j u hu)
  have HN : Hid _ := hnews
  have H1 : Hid _ := h1
  have HL : Hid _ := hl
  clear hnews r4 h1 hl
  go_enter Tryz.func153, Tryz.ntmps153
  go_wp2_with (at_builtin; go_must (refine app_any _ _ _ 7 80 Tryz.underlying32 info_ev rfl (by omega) rfl _ _ rfl w.heap.size _ 0 [] rfl owns_empty ad n cap xs rfl HL.out HN.out H1.out (by omega) (by omega) (by simp) ?_); intro v' w2 hown hgr _)
  simp only [Nat.zero_add, List.nil_append] at hown
  have hx2 : Ext w w2 := Below.grown hxa hgr hxa.size (fun k hk => by cases hk; exact Nat.le_refl _)
  go_wp2
  go_ret
  exact ⟨⟨_, rfl, hown⟩, hx2⟩


end Go.Proofs.YtfimfbdlegookaaGreatDoor

/-! fsim.copiedEvents, Plan, User: events copied, with their data. Conditions: at most 100000 events. -/
namespace Go.Proofs.YtfimfbdlegookaaGreatDoor
open Go Go.RowKit

theorem flat_set (m : Nat) : ∀ (css : List (List Value)) (k j : Nat) (c : List Value) (u : Value), (∀ c ∈ css, c.length = m) → css[k]? = some c → j < m → css.flatten.set (m * k + j) u = (css.set k (c.set j u)).flatten
 | [], k, j, c, u, _, hc, _ => by simp at hc
 | d :: css, 0, j, c, u, hl, hc, hj => by
  have : d = c := by simpa using hc
  subst this
  have hd := hl d (by simp)
  simp only [List.flatten_cons, Nat.mul_zero, Nat.zero_add, List.set_cons_zero]
  rw [List.set_append_left _ _ (by omega)]
 | d :: css, k + 1, j, c, u, hl, hc, hj => by
  have hd := hl d (by simp)
  have ih := flat_set m css k j c u (fun c h => hl c (by simp [h])) (by simpa using hc) hj
  simp only [List.flatten_cons, List.set_cons_succ]
  rw [List.set_append_right _ _ (by rw [hd, Nat.mul_add]; omega), hd, show m * (k + 1) + j - m = m * k + j by rw [Nat.mul_add]; omega, ih]

/-- Events that lie in new blocks, data too. -/
def OwnE (base : Nat) (w : World) (v : Value) (L : List Ev) : Prop := ∃ css : List (List Value), w.ownsRow base 53 7 v L.length css.flatten ∧ Each (IsEvR (fun k => base ≤ k ∧ k < w.heap.size) w) css L

/-- An event that is read alone. -/
def IsEvB (w : World) (cs : List Value) (e : Ev) : Prop := ∃ vd, cs = [.int .i64 e.t, .int .i64 e.kind, .int .i64 e.mode, .int .i64 e.keep, .int .i64 e.torn, S8 e.path, vd] ∧ IsBytes w vd e.data ∧ e.path.length ≤ 1000000
theorem IsEvR.read {R : Nat → Prop} {w : World} {cs : List Value} {e : Ev} (h : IsEvR R w cs e) : IsEvB w cs e := by
 obtain ⟨v, h1, h2, h3⟩ := h
 exact ⟨v, h1, h2.bytes, h3⟩
theorem IsEvB.length {w : World} {cs : List Value} {e : Ev} (h : IsEvB w cs e) : cs.length = 7 ∧ cs.all (·.oneCell') = true := by
 obtain ⟨v, rfl, h2, _⟩ := h
 obtain ⟨_, _, rfl, _⟩ := h2
 exact ⟨rfl, by simp [Value.oneCell']⟩
theorem IsEvB.ext {w w' : World} {cs : List Value} {e : Ev} (h : IsEvB w cs e) (hx : Ext w w') : IsEvB w' cs e := by
 obtain ⟨v, h1, h2, h3⟩ := h
 exact ⟨v, h1, h2.ext hx, h3⟩
def ReadB (w : World) (v : Value) (L : List Ev) : Prop := ∃ css : List (List Value), Row w v L.length css.flatten ∧ Each (IsEvB w) css L
theorem ReadB.ext {w w' : World} {v : Value} {L : List Ev} (h : ReadB w v L) (hx : Ext w w') : ReadB w' v L := by
 obtain ⟨css, h1, h2⟩ := h
 exact ⟨css, h1.ext hx, h2.imp (fun c x hc => hc.ext hx)⟩
theorem OwnL.read {R : Nat → Prop} {w : World} {v : Value} {L : List Ev} (h : OwnL w 53 7 (IsEvR R w) v L) (hl : L.length ≤ 1000000) : ReadB w v L := by
 obtain ⟨css, h1, h2⟩ := h
 exact ⟨css, Row.of_owns h1 (by omega), h2.imp (fun c x hc => hc.read)⟩
theorem ReadL.read {R : Nat → Prop} {w : World} {v : Value} {L : List Ev} (h : ReadL w 53 (IsEvR R w) v L) : ReadB w v L := by
 obtain ⟨css, h1, _, h2⟩ := h
 exact ⟨css, h1, h2.imp (fun c x hc => hc.read)⟩

theorem read_cells {w : World} {v : Value} {L : List Ev} (h : ReadB w v L) : ∃ css : List (List Value), Row w v L.length css.flatten ∧ Each (IsEvB w) css L ∧ css.flatten.length = L.length * 7 ∧ (∀ u ∈ css.flatten, u.oneCell' = true) ∧ (∀ c ∈ css, c.length = 7) := by
 obtain ⟨css, h1, h3⟩ := h
 have hc : ∀ c ∈ css, c.length = 7 ∧ c.all (·.oneCell') = true := fun c hm => by
  obtain ⟨i, hi, rfl⟩ := List.mem_iff_getElem.1 hm
  have hi2 : i < L.length := by rw [← h3.1]; exact hi
  exact (h3.2 i css[i] L[i] (List.getElem?_eq_getElem hi) (List.getElem?_eq_getElem hi2)).length
 refine ⟨css, h1, h3, ?_, fun u hu => ?_, fun c hm => (hc c hm).1⟩
 ·rw [List.length_flatten, ← h3.1]
  have : ∀ l : List (List Value), (∀ c ∈ l, c.length = 7) → (l.map List.length).sum = l.length * 7 := fun l => by
   induction l with
   | nil => intro _; rfl
   | cons c l ih =>
    intro h
    have h1 := h c (by simp)
    have h2 := ih (fun d hd => h d (by simp [hd]))
    simp only [List.map_cons, List.sum_cons, List.length_cons]
    omega
  exact this css (fun c hm => (hc c hm).1)
 ·obtain ⟨c, hm, hu⟩ := List.mem_flatten.1 hu
  exact List.all_eq_true.1 (hc c hm).2 u hu

set_option maxRecDepth 100000 in
set_option maxHeartbeats 4000000 in
theorem copiedEvents_any {w : World} {v : Value} {L : List Ev} (h : ReadB w v L) (hl : L.length ≤ 100000) :
  Calls Tryz.prog 73 #[v] w fun e w' => (∃ v', e = .returned v' ∧ OwnE w.heap.size w' v' L) ∧ Ext w w' := by
 obtain ⟨css0, hrow, heach, hfl, hone, h7⟩ := read_cells h
 obtain ⟨a, cap, rfl, -⟩ := id hrow
 have HC : Hid _ := clone_evs hrow hfl hone (by omega)
 have HE0 : Hid _ := heach
 have H7 : Hid _ := h7
 have hcl := heach.1
 clear h hrow heach hfl hone h7
 go_enter Tryz.func73, Tryz.ntmps73
 go_wp2_with (go_at_call 153; go_must (refine Calls.mono HC.out ?_; rintro e w1 ⟨⟨v1, rfl, hown1⟩, hx1⟩; obtain ⟨a1, cap1, rfl, -⟩ := Row.of_owns hown1 (by omega)))
 go_loopw [8] (fun i wr => ∃ (k : Nat) (css : List (List Value)), k ≤ L.length ∧ i = .int .i64 k ∧ css.length = L.length ∧ (∀ c ∈ css, c.length = 7) ∧ wr.ownsRow w.heap.size 53 7 (.slice a1 L.length cap1) L.length css.flatten ∧
   (∀ (j : Nat) c e, css[j]? = some c → L[j]? = some e → (j < k → IsEvR (fun k => w.heap.size ≤ k ∧ k < wr.heap.size) wr c e) ∧ (k ≤ j → IsEvB w c e)) ∧ Ext w wr) (fun i _ => L.length - (intOf i).toNat)
 case atStart => exact ⟨0, css0, Nat.zero_le _, rfl, hcl, H7.out, hown1, fun j c e hc he => ⟨fun h => absurd h (Nat.not_lt_zero _), fun _ => HE0.out.2 j c e hc he⟩, hx1⟩
 case round =>
  obtain ⟨k, css, hk, rfl, hcl, h7, hown, hall, hx⟩ := hrel
  have HALL : Hid _ := hall
  have H7' : Hid _ := h7
  have HOW : Hid _ := hown
  clear hall h7 hown
  by_cases hlt : k < L.length
  ·obtain ⟨e, hke⟩ : ∃ e, L[k]? = some e := ⟨_, List.getElem?_eq_getElem hlt⟩
   obtain ⟨c, hkc⟩ : ∃ c, css[k]? = some c := ⟨_, List.getElem?_eq_getElem (by omega)⟩
   have hev := (HALL.out k c e hkc hke).2 (Nat.le_refl _)
   obtain ⟨vd, rfl, hd, hpl⟩ := hev
   obtain ⟨d1, d2, rfl, -⟩ := id hd
   obtain ⟨g, cap', hge⟩ := owns_some HOW.out (by omega)
   simp only [Value.slice.injEq, true_and] at hge
   obtain ⟨rfl, rfl⟩ := hge
   have hcell : wr.cell? ⟨g, k * 7 + 6, none⟩ = some (.slice d1 e.data.length d2) := by
    rw [World.ownsRow.cellAt HOW.out (k * 7 + 6) (by omega), Nat.mul_comm k 7]
    exact flat_get 7 css k 6 _ _ H7'.out hkc rfl
   have HD : Hid _ := hd
   have HKE : Hid _ := hke
   have HKC : Hid _ := hkc
   have HPL : Hid _ := hpl
   have hdl := hd.len
   clear hd hke hkc hpl
   go_wp2_with fail
   go_at_call 57
   refine (clone_any _ e.data _ (IsBytes.ext HD.out hx) (by omega)).mono ?_
   rintro x w2 ⟨⟨v2, rfl, hd2⟩, hx2⟩
   obtain ⟨c1, c2, rfl, -⟩ := id hd2.bytes
   have HD2 : Hid _ := hd2
   have hown2 := owns_ext HOW.out hx2
   have hfz := World.ownsRow.frozenAt hown2 (k * 7 + 6)
   have hcell2 := hx2.cell hcell
   have HOW2 : Hid _ := hown2
   clear hd2 hown2 hcell
   go_wp2
   go_roundw
   case rel =>
    obtain ⟨ho3, hg3⟩ := World.ownsRow.stored HOW2.out (k * 7 + 6) (.slice c1 e.data.length c2)
    rw [show k * 7 + 6 = 7 * k + 6 by omega, flat_set 7 css k 6 _ _ H7'.out HKC.out (by omega)] at ho3
    obtain ⟨g2, cap2, cur2, he2, hb2, hgb, -⟩ : ∃ (g2 : Nat) (cap2 : Nat) (cur : Array Value), (Value.slice (some ⟨g, 0, none⟩) L.length cap1) = .slice (some ⟨g2, 0, none⟩) L.length cap2 ∧ w.heap.size ≤ g2 ∧ w2.heap[g2]? = some (.cells cur 53 (0, 0)) ∧ True := by
     rcases HOW2.out.2 with ⟨h9, _⟩ | ⟨g2, cap2, cur, h9, hb, hg, _⟩
     ·cases h9
     ·exact ⟨g2, cap2, cur, h9, hb, hg, trivial⟩
    simp only [Value.slice.injEq, Option.some.injEq, Addr.mk.injEq, and_true, true_and] at he2
    obtain ⟨rfl, rfl⟩ := he2
    have k23 := KeepB.of_grown hg3 hgb (by kernel_rfl)
    have kr3 := (KeepB.of_ext hx2).trans k23
    have hx3 : Ext w _ := Ext.but (hx.trans hx2) hg3 hb2
    rw [show k * 7 + 6 = 7 * k + 6 by omega] at k23 kr3 hx3
    refine ⟨k + 1, css.set k [.int .i64 e.t, .int .i64 e.kind, .int .i64 e.mode, .int .i64 e.keep, .int .i64 e.torn, S8 e.path, .slice c1 e.data.length c2], by omega, by go_num, by rw [List.length_set]; exact hcl, fun c hc => ?_, ?_, ?_, ?_⟩
    ·rcases List.mem_or_eq_of_mem_set hc with h | h
     ·exact H7'.out c h
     ·rw [h]; rfl
    ·rw [show k * 7 + 6 = 7 * k + 6 by omega]; exact ho3
    ·rw [show k * 7 + 6 = 7 * k + 6 by omega]
     intro j c f hc hf
     by_cases hj : j = k
     ·subst hj
      rw [List.getElem?_set_self (by omega)] at hc
      cases hc
      rw [HKE.out] at hf
      cases hf
      refine ⟨fun _ => ⟨_, rfl, ?_, HPL.out⟩, fun h => by omega⟩
      exact (HD2.out.keep k23).mono (fun k hk => ⟨Nat.le_trans hx.size hk.1, Nat.lt_of_lt_of_le hk.2 k23.1⟩)
     ·rw [List.getElem?_set_ne (fun h => hj h.symm)] at hc
      have := HALL.out j c f hc hf
      exact ⟨fun h => ((this.1 (by omega)).keepR (KeepR.of_keep kr3)).mono (fun k hk => ⟨hk.1, Nat.lt_of_lt_of_le hk.2 kr3.1⟩), fun h => this.2 (by omega)⟩
    ·rw [show k * 7 + 6 = 7 * k + 6 by omega]; exact hx3
   case measure => simp [intOf]; omega
  ·have hkk : k = L.length := by omega
   subst hkk
   go_wp2
   go_ret
   exact ⟨⟨_, rfl, css, HOW.out, hcl, fun i c x hc hx' => (HALL.out i c x hc hx').1 (List.getElem?_eq_some_iff.1 hx').1⟩, hx⟩

theorem OwnE.readL {base : Nat} {w : World} {v : Value} {L : List Ev} (h : OwnE base w v L) (hl : L.length ≤ 1000000) : ReadL w 53 (IsEvR (fun k => base ≤ k ∧ k < w.heap.size) w) v L := by
 obtain ⟨css, h1, h2⟩ := h
 exact ⟨css, Row.of_owns h1 (by omega), Typed.of_owns h1, h2⟩

set_option maxRecDepth 100000 in
set_option maxHeartbeats 2000000 in
theorem plan_any {S O R : Nat → Prop} {w : World} {p v : Value} {m : Fs} {L : List Ev} (h : IsFs S O R w p m) (hlow : ∀ k, O k → k < w.heap.size) (hv : ReadB w v L) (hl : L.length ≤ 1000) :
  Calls Tryz.prog 25 #[p, v] w fun e w' => e = .returned (.tuple #[]) ∧ IsFs (Nu w w') O (Nw R w w') w' p (planM m L) ∧ Fr O w w' := by
 have HC : Hid _ := copiedEvents_any hv (by omega)
 obtain ⟨g, gm, gd, vp, vl, vu, L0, c0, rfl, hg, hO, hP, hpl, hc0⟩ := h
 have HP : Hid _ := hP
 have HG : Hid _ := hg
 clear hv hP hg hpl
 go_enter Tryz.func25, Tryz.ntmps25
 go_wp2_with (first
  | (go_at_call 73; go_must (refine Calls.mono HC.out ?_; rintro e w2 ⟨⟨v2, rfl, ho2⟩, hx2⟩; obtain ⟨a2, c2, rfl, -⟩ := Row.of_owns ho2.choose_spec.1 (by omega); have hg2 := Ext.row hx2 HG.out; have HO2 : Hid _ := ho2; clear ho2))
  | (refine store_field rfl 32 (.tmp 8) (.tmp 6) rfl g 4 rfl (.slice a2 L.length c2) rfl rfl _ _ hg2 (Nat.le_of_ble_eq_true rfl) size_evs (fsCells m.room gm gd vp (.slice a2 L.length c2) m.calls vu m.time m.down) (by simp) ?_; intro w3 hg3 hgr3))
 go_end0
 have hP2 := HP.out.ext hx2
 have hs2 := hx2.size
 have hrl := OwnE.readL HO2.out (by omega)
 have hu : ¬ IsU8 w2 g := cells_u8 hg2 (by kernel_rfl)
 have hP2' : Parts (Nu w w3) O (Nw R w w3) w2 gm gd vp (.slice a2 L.length c2) vu m.now m.sure m.pend L m.users := by
  have h9 : w2.heap.size ≤ w3.heap.size := hgr3.size
  have hm := hP2.mono (O' := O) (R' := Nw R w w3) (fun k hk => hk) (fun k hk => .inl hk)
  refine ⟨hm.ne, hm.om, hm.od, hm.now, hm.sure, hm.pend, hm.op, hrl.mono (fun c x hx => IsEvR.mono hx (fun k hk => .inr ⟨hk.1, by omega⟩)), fun k hk => ?_, hm.users, hm.ou, fun k hk hk2 => ?_⟩
  ·obtain ⟨css, h1, _⟩ := HO2.out
   have := h1.lt k hk
   exact ⟨this.1, by omega⟩
  ·obtain ⟨css, h1, _⟩ := HO2.out
   have h2 := h1.lt k hk2
   have h3 := hlow k (HP.out.ou k hk)
   omega
 refine ⟨rfl, ⟨g, gm, gd, vp, _, vu, L, m.calls, rfl, hg3, hO, hP2'.own hg2 hgr3, rfl, Nat.le_refl _, hl⟩, ?_⟩
 exact ((Fr.refl O w).ext hx2).step hgr3 (fun k hk => by cases hk; exact .inl hO) (by rintro k hk; cases hk; exact hu)

set_option maxRecDepth 100000 in
set_option maxHeartbeats 2000000 in
theorem user_any {S O R : Nat → Prop} {w : World} {p : Value} {m : Fs} (h : IsFs S O R w p m) (hl : m.users.length ≤ 100000) :
  Calls Tryz.prog 111 #[p] w fun e w' => (∃ v', e = .returned v' ∧ OwnE w.heap.size w' v' m.users) ∧ Ext w w' := by
 obtain ⟨g, gm, gd, vp, vl, vu, L, c0, rfl, hg, hO, hP, -, -⟩ := h
 obtain ⟨d0, d1, d2, d3, d4, d5, d6, d7, d8⟩ := cellsAt9 hg
 have HC : Hid _ := copiedEvents_any (hP.users.read (by omega)) hl
 clear hP hg
 go_enter Tryz.func111, Tryz.ntmps111
 go_wp2_with (go_at_call 73; go_must (refine Calls.mono HC.out ?_; rintro e w2 ⟨⟨v2, rfl, ho2⟩, hx2⟩))
 go_ret
 exact ⟨⟨_, rfl, ho2⟩, hx2⟩

end Go.Proofs.YtfimfbdlegookaaGreatDoor

/-! fsim.New: a file system without files. No conditions. -/
namespace Go.Proofs.YtfimfbdlegookaaGreatDoor
open Go Go.RowKit

def newM (room : Int) : Fs := ⟨room, [], [], [], [], 0, [], 0, false⟩
theorem files_made (R : Nat → Prop) (w : World) : IsFiles R (w.alloc (.map #[] 0)) w.heap.size [] :=
 ⟨List.Pairwise.nil, fun e he => by simp at he, fun _ => .slice none 0 0, World.ownsMap_made _ _ _ _, fun e he => by simp at he⟩
theorem new_ok (room : Int) : OkM (newM room) ∧ PlanOk (newM room) := by
 refine ⟨⟨Nat.le_refl _, Nat.le_refl _, Nat.le_refl _, Nat.le_refl _, Nat.le_refl _, ?_, ?_, ?_, rfl, ?_⟩, ⟨Nat.zero_le _, ?_⟩⟩
 ·intro e he; cases he
 ·intro e he; cases he
 ·intro c hc; cases hc
 ·intro k s d hk; simp [newM] at hk
 ·intro e he; cases he

set_option maxRecDepth 100000 in
theorem new_no (room : Int) (w : World) (h : room < 0 ∨ 1073741824 < room) :
  Calls Tryz.prog 11 #[.int .i64 room] w fun e w' => e = .returned (.tuple #[.pointer none, .int .i64 1]) ∧ w' = w := by
 rcases h with h | h
 ·go_enter Tryz.func11, Tryz.ntmps11
  go_wp2
  go_ret2
  exact ⟨rfl, rfl⟩
 ·have h0 : ¬ room < 0 := by omega
  go_enter Tryz.func11, Tryz.ntmps11
  go_wp2
  go_ret2
  exact ⟨rfl, rfl⟩

def NewPost (room : Int) (w : World) (e : Ending) (w' : World) : Prop := (∃ p, e = .returned (.tuple #[p, .int .i64 0]) ∧ IsFs (fun _ => False) (Nu w w') (fun _ => False) w' p (newM room)) ∧ Ext w w'
set_option maxRecDepth 100000 in
set_option maxHeartbeats 1000000 in
theorem new_yes (room : Int) (w : World) (h0 : 0 ≤ room) (h1 : room ≤ 1073741824) :
  Calls Tryz.prog 11 #[.int .i64 room] w (NewPost room w) := by
 have hmm := @run_makeMap Tryz.prog
 go_enter Tryz.func11, Tryz.ntmps11
 go_wp2
 go_ret2
 have hx1 : Ext w (w.alloc (.map #[] 0)) := (Ext.refl _).alloc _
 have hx2 : Ext (w.alloc (.map #[] 0)) ((w.alloc (.map #[] 0)).alloc (.map #[] 0)) := (Ext.refl _).alloc _
 have hx3 : Ext ((w.alloc (.map #[] 0)).alloc (.map #[] 0)) (((w.alloc (.map #[] 0)).alloc (.map #[] 0)).alloc (.cells (fsCells room w.heap.size (w.heap.size + 1) (.slice none 0 0) (.slice none 0 0) 0 (.slice none 0 0) 0 false) 107)) := (Ext.refl _).alloc _
 have hg := alloc_at ((w.alloc (.map #[] 0)).alloc (.map #[] 0)) (.cells (fsCells room w.heap.size (w.heap.size + 1) (.slice none 0 0) (.slice none 0 0) 0 (.slice none 0 0) 0 false) 107)
 have e1 : (w.alloc (.map #[] 0)).heap.size = w.heap.size + 1 := by simp
 have e2 : ((w.alloc (.map #[] 0)).alloc (.map #[] 0)).heap.size = w.heap.size + 2 := by simp
 have f1 := (files_made (fun _ => False) w).ext (hx2.trans hx3)
 have f2 := (files_made (fun _ => False) (w.alloc (.map #[] 0))).ext hx3
 rw [e1] at f2
 rw [e2] at hg
 have hs : (((w.alloc (.map #[] 0)).alloc (.map #[] 0)).alloc (.cells (fsCells room w.heap.size (w.heap.size + 1) (.slice none 0 0) (.slice none 0 0) 0 (.slice none 0 0) 0 false) 107)).heap.size = w.heap.size + 3 := by simp
 refine ⟨⟨_, rfl, w.heap.size + 2, w.heap.size, w.heap.size + 1, .slice none 0 0, .slice none 0 0, .slice none 0 0, [], 0, by simp, hg, ⟨by omega, by simp <;> omega⟩, ?_, rfl, Nat.le_refl _, Nat.zero_le _⟩, (hx1.trans hx2).trans hx3⟩
 exact ⟨by omega, ⟨by omega, by simp <;> omega⟩, ⟨by omega, by simp <;> omega⟩, f1, f2, ⟨[], World.ownsRow_nil _ _ _ _, Each.nil _⟩, Inn.nil _ _ _, ⟨[], Row.nil _, Typed.nil _ _ _ _, Each.nil _⟩, Inn.nil _ _ _, ⟨[], World.ownsRow_nil _ _ _ _, Each.nil _⟩, Inn.nil _ _ _, fun k hk => by simp [Value.ownBlock] at hk⟩


end Go.Proofs.YtfimfbdlegookaaGreatDoor

/-! A region that draws its order and whose calls make blocks of their own: that the blocks of two of them differ is known behind it. Conditions: each operation of the head leaves what was there as it was. -/
namespace Go.Proofs.YtfimfbdlegookaaGreatDoor
open Go Go.RowKit

/-- The block that a map or a slice lies in. -/
def blkOf : Value → Option Nat
 | .map (some g) => some g
 | .slice (some a) _ _ => some a.block
 | .pointer (some a) => some a.block
 | _ => none
/-- What an operation hands back lies in a block that it made. -/
def FreshIn (u : Value) (w w' : World) : Prop := ∀ b, blkOf u = some b → w.heap.size ≤ b ∧ b < w'.heap.size
def Dis (F : List Nat) (xs : Nat → Value) (i j : Nat) : Prop := i ∈ F → j ∈ F → i ≠ j → ∀ b, blkOf (xs i) = some b → blkOf (xs j) = some b → False

section
variable {P : Program} {C : World → Prop} {le : World → World → Prop}
def stepDis (P : Program) (C : World → Prop) (le : World → World → Prop) (F : List Nat) (ops : Array Oper) (V : List (Value → World → Prop)) (head : List Oper) (a0 : Act) (k : Nat) (d : List Nat) (o : Oper) : Prop :=
 ∀ (xs : Nat → Value) (w : World), C w → knows V xs w d → ∀ R : Value → World → Prop, (∀ u w', le w w' → getV V k u w' → (k ∈ F → FreshIn u w w') → R u w') →
  if Region.wanted o (yielded ops (fillFrom xs head 0 a0).tmps) then relUpon P R ((execOp (fillFrom xs head 0 a0).eval o).run P w) else R undef w
def oblDis (P : Program) (C : World → Prop) (le : World → World → Prop) (F : List Nat) (ops : Array Oper) (V : List (Value → World → Prop)) (D : List (List Nat)) (head : List Oper) (a0 : Act) : List Oper → Nat → Prop
 | [], _ => True
 | o :: l, k => stepDis P C le F ops V head a0 k (D.getD k []) o ∧ oblDis P C le F ops V D head a0 l (k + 1)
structure RDis (C : World → Prop) (F : List Nat) (ops : Array Oper) (n : Nat) (V : List (Value → World → Prop)) (a0 : Act) (listed : Array Bool) (a : Act) (w : World) : Prop where
 head : HeadInv .any ops n listed
 ext : C w
 fill : ∃ xs : Nat → Value, a = fillFrom xs (ops.toList.take n) 0 a0 ∧ (∀ j, j < n → listed.getD j false = true → getV V j (xs j) w) ∧ (∀ i j, i < n → j < n → listed.getD i false = true → listed.getD j false = true → Dis F xs i j) ∧ (∀ j, j < n → listed.getD j false = true → j ∈ F → ∀ b, blkOf (xs j) = some b → b < w.heap.size)

end

end Go.Proofs.YtfimfbdlegookaaGreatDoor

/-! fsim.FS: Copy. Conditions: what holds of a file system at all times. -/
namespace Go.Proofs.YtfimfbdlegookaaGreatDoor
open Go Go.RowKit

theorem owns_low {w : World} {base base' : Nat} {e : TypeId} {size : Nat} {v : Value} {n : Nat} {xs : List Value} (h : w.ownsRow base e size v n xs) (hb : base' ≤ base) : w.ownsRow base' e size v n xs := by
 refine ⟨h.1, h.2.imp id ?_⟩
 rintro ⟨g, cap, cur, h1, h2, h3⟩
 exact ⟨g, cap, cur, h1, Nat.le_trans hb h2, h3⟩
theorem OwnE.ext {base : Nat} {w w' : World} {v : Value} {L : List Ev} (h : OwnE base w v L) (hx : Ext w w') : OwnE base w' v L := by
 obtain ⟨css, h1, h2⟩ := h
 exact ⟨css, owns_ext h1 hx, h2.imp (fun c x hc => (hc.keepR (KeepR.of_keep (KeepB.of_ext hx))).mono (fun k hk => ⟨hk.1, Nat.lt_of_lt_of_le hk.2 hx.size⟩))⟩
theorem OwnE.low {base base' : Nat} {w : World} {v : Value} {L : List Ev} (h : OwnE base w v L) (hb : base' ≤ base) : OwnE base' w v L := by
 obtain ⟨css, h1, h2⟩ := h
 exact ⟨css, owns_low h1 hb, h2.imp (fun c x hc => hc.mono (fun k hk => ⟨Nat.le_trans hb hk.1, hk.2⟩))⟩

end Go.Proofs.YtfimfbdlegookaaGreatDoor

/-! How the document's file system lies in memory: rows, changes, events, all in slices; what an operation leaves as it was. No conditions of its own. -/
namespace Go.Proofs.YtfimfbdlegookaaGreatDoor
open Go Go.RowKit

/-! ### Rows and changes -/
def IsRowR (R : Nat → Prop) (w : World) (cs : List Value) (e : B8 × Fi) : Prop := e.1.length ≤ 1000000 ∧ ∃ v, cs = [S8 e.1, .int .i64 e.2.mode, v, .int .i64 e.2.time] ∧ IsData R w v e.2.data
theorem IsRowR.mono {R R' : Nat → Prop} {w : World} {cs : List Value} {e : B8 × Fi} (h : IsRowR R w cs e) (hr : ∀ k, R k → R' k) : IsRowR R' w cs e := by
 obtain ⟨h1, v, h2, h3⟩ := h
 exact ⟨h1, v, h2, h3.mono hr⟩
theorem IsRowR.keepR {R : Nat → Prop} {w w' : World} {cs : List Value} {e : B8 × Fi} (h : IsRowR R w cs e) (hk : KeepR R w w') : IsRowR R w' cs e := by
 obtain ⟨h1, v, h2, h3⟩ := h
 exact ⟨h1, v, h2, h3.keepR hk⟩
theorem IsRowR.length {R : Nat → Prop} {w : World} {cs : List Value} {e : B8 × Fi} (h : IsRowR R w cs e) : cs.length = 4 ∧ cs.all (·.oneCell') = true := by
 obtain ⟨_, v, rfl, h3⟩ := h
 obtain ⟨_, _, rfl, _⟩ := h3.bytes
 exact ⟨rfl, by simp [Value.oneCell']⟩
theorem IsRowR.bound {R : Nat → Prop} {w : World} {cs : List Value} {e : B8 × Fi} (h : IsRowR R w cs e) : IsRowR (fun k => R k ∧ k < w.heap.size) w cs e := by
 obtain ⟨h1, v, h2, h3⟩ := h
 exact ⟨h1, v, h2, h3.bound⟩

def IsOp (R : Nat → Prop) (w : World) (cs : List Value) : Ch → Prop
 | .put p f => p.length ≤ 1000000 ∧ ∃ v, cs = [.int .i64 1, S8 [], S8 p, .int .i64 f.mode, v, .int .i64 f.time] ∧ IsData R w v f.data
 | .mv s d => s.length ≤ 1000000 ∧ d.length ≤ 1000000 ∧ cs = [.int .i64 2, S8 s, S8 d, .int .i64 0, .slice none 0 0, .int .i64 0]
 | .del p => p.length ≤ 1000000 ∧ cs = [.int .i64 3, S8 p, S8 [], .int .i64 0, .slice none 0 0, .int .i64 0]
theorem IsOp.mono {R R' : Nat → Prop} {w : World} {cs : List Value} {c : Ch} (h : IsOp R w cs c) (hr : ∀ k, R k → R' k) : IsOp R' w cs c := by
 cases c with
 | put p f =>
  obtain ⟨h1, v, h2, h3⟩ := h
  exact ⟨h1, v, h2, h3.mono hr⟩
 | mv s d => exact h
 | del p => exact h
theorem IsOp.keepR {R : Nat → Prop} {w w' : World} {cs : List Value} {c : Ch} (h : IsOp R w cs c) (hk : KeepR R w w') : IsOp R w' cs c := by
 cases c with
 | put p f =>
  obtain ⟨h1, v, h2, h3⟩ := h
  exact ⟨h1, v, h2, h3.keepR hk⟩
 | mv s d => exact h
 | del p => exact h
theorem IsOp.length {R : Nat → Prop} {w : World} {cs : List Value} {c : Ch} (h : IsOp R w cs c) : cs.length = 6 ∧ cs.all (·.oneCell') = true := by
 cases c with
 | put p f =>
  obtain ⟨_, v, rfl, h3⟩ := h
  obtain ⟨_, _, rfl, _⟩ := h3.bytes
  exact ⟨rfl, by simp [Value.oneCell']⟩
 | mv s d => obtain ⟨_, _, rfl⟩ := h; exact ⟨rfl, by simp [Value.oneCell']⟩
 | del p => obtain ⟨_, rfl⟩ := h; exact ⟨rfl, by simp [Value.oneCell']⟩
theorem IsOp.bound {R : Nat → Prop} {w : World} {cs : List Value} {c : Ch} (h : IsOp R w cs c) : IsOp (fun k => R k ∧ k < w.heap.size) w cs c := by
 cases c with
 | put p f =>
  obtain ⟨h1, v, h2, h3⟩ := h
  exact ⟨h1, v, h2, h3.bound⟩
 | mv s d => exact h
 | del p => exact h

theorem ReadL.lt {α : Type} {w : World} {t : TypeId} {p : List Value → α → Prop} {v : Value} {xs : List α} (h : ReadL w t p v xs) : ∀ k, v.ownBlock = some k → k < w.heap.size := fun k hv => by
 obtain ⟨cs, fr, hb⟩ := h.typed k hv
 exact (Array.getElem?_eq_some_iff.1 hb).1
theorem ReadL.nil {α : Type} (w : World) (t : TypeId) (p : List Value → α → Prop) : ReadL w t p (.slice none 0 0) [] := ⟨[], Row.nil _, Typed.nil _ _ _ _, Each.nil _⟩
theorem OwnL.nil {α : Type} (w : World) (t : TypeId) (size : Nat) (p : List Value → α → Prop) : OwnL w t size p (.slice none 0 0) [] := ⟨[], World.ownsRow_nil _ _ _ _, Each.nil _⟩

abbrev IsRows (R : Nat → Prop) (w : World) (v : Value) (l : Files) : Prop := ReadL w 182 (IsRowR R w) v l
theorem ReadL.rows {R : Nat → Prop} {w w' : World} {v : Value} {l : Files} (h : IsRows R w v l) (hb : ∀ k, v.ownBlock = some k → w'.heap[k]? = w.heap[k]?) (hk : KeepR R w w') : IsRows R w' v l :=
 (ReadL.stay h hb).mono (fun c x hx => hx.keepR hk)
theorem ReadL.rowsExt {R : Nat → Prop} {w w' : World} {v : Value} {l : Files} (h : IsRows R w v l) (hx : Ext w w') : IsRows R w' v l :=
 h.rows (fun k hk => hx.block k (h.lt k hk)) (KeepR.of_keep (KeepB.of_ext hx))
theorem ReadL.rowsMono {R R' : Nat → Prop} {w : World} {v : Value} {l : Files} (h : IsRows R w v l) (hr : ∀ k, R k → R' k) : IsRows R' w v l :=
 h.mono (fun c x hx => hx.mono hr)

/-! ### A base world: what was there when the law's function was called -/
structure BaseW where
 w : World
def baseW [Inhabited BaseW] : World := (default : BaseW).w
variable [Inhabited BaseW]
/-- Bytes that were there. -/
structure OldB (v : Value) (l : B8) : Prop where
 bytes : IsBytes baseW v l
 low : ∀ a n c, v = .slice (some a) n c → n ≠ 0 → a.block < baseW.heap.size
def IsEvD (cs : List Value) (e : Ev) : Prop := ∃ vd, cs = [.int .i64 e.t, .int .i64 e.kind, .int .i64 e.mode, .int .i64 e.keep, .int .i64 e.torn, S8 e.path, vd] ∧ OldB vd e.data ∧ e.path.length ≤ 1000000
/-- .. as it comes in: its path may be of any length. -/
def IsEvI (cs : List Value) (e : Ev) : Prop := ∃ vd, cs = [.int .i64 e.t, .int .i64 e.kind, .int .i64 e.mode, .int .i64 e.keep, .int .i64 e.torn, S8 e.path, vd] ∧ OldB vd e.data
theorem IsEvI.length {cs : List Value} {e : Ev} (h : IsEvI cs e) : cs.length = 7 ∧ cs.all (·.oneCell') = true := by
 obtain ⟨v, rfl, h2⟩ := h
 obtain ⟨_, _, rfl, _⟩ := h2.bytes
 exact ⟨rfl, by simp [Value.oneCell']⟩
theorem IsEvI.up {cs : List Value} {e : Ev} (h : IsEvI cs e) (hp : e.path.length ≤ 400) : IsEvD cs e := by
 obtain ⟨v, h1, h2⟩ := h
 exact ⟨v, h1, h2, by omega⟩
theorem IsEvD.length {cs : List Value} {e : Ev} (h : IsEvD cs e) : cs.length = 7 ∧ cs.all (·.oneCell') = true := by
 obtain ⟨v, rfl, h2, _⟩ := h
 obtain ⟨_, _, rfl, _⟩ := h2.bytes
 exact ⟨rfl, by simp [Value.oneCell']⟩
theorem OldB.at {v : Value} {l : B8} {w : World} (h : OldB v l) (hx : Ext baseW w) : IsBytes w v l := h.bytes.ext hx
theorem OldB.out {v : Value} {l : B8} {w : World} {O : Nat → Prop} (h : OldB v l) (hO : ∀ k, O k → baseW.heap.size ≤ k) : Out O w v := fun a n c he hn => .inl fun ho => by have := h.low a n c he hn; have := hO _ ho; omega
theorem IsEvD.read {cs : List Value} {e : Ev} {w : World} (h : IsEvD cs e) (hx : Ext baseW w) : IsEvB w cs e := by
 obtain ⟨v, h1, h2, h3⟩ := h
 exact ⟨v, h1, h2.at hx, h3⟩

/-! ### The parts of the document's file system, but for its own block -/
structure RParts (O R : Nat → Prop) (w : World) (vn vs vp vl vu : Value) (now sure : Files) (pend : List Ch) (L users : List Ev) : Prop where
 now : IsRows R w vn now
 on : Inn O vn
 sure : IsRows R w vs sure
 os : Inn O vs
 pend : OwnL w 185 6 (IsOp R w) vp pend
 op : Inn O vp
 plan : OwnL w 146 7 IsEvD vl L
 ol : Inn O vl
 users : OwnL w 146 7 (IsEvR R w) vu users
 ou : Inn O vu
 off : ∀ k, vu.ownBlock = some k → vl.ownBlock ≠ some k
abbrev refCells (room : Int) (vn vs vp vl : Value) (calls time : Nat) (down : Bool) (vu : Value) : Array Value := #[.int .i64 room, vn, vs, vp, vl, .int .i64 calls, .int .i64 time, .bool down, vu]
def IsRef (O R : Nat → Prop) (w : World) (p : Value) (m : Fs) : Prop := ∃ (g : Nat) (vn vs vp vl vu : Value), p = .pointer (some ⟨g, 0, none⟩) ∧
  w.heap[g]? = some (.cells (refCells m.room vn vs vp vl m.calls m.time m.down vu) 133 (0, 0)) ∧ O g ∧ RParts O R w vn vs vp vl vu m.now m.sure m.pend m.plan m.users

section
variable {O R : Nat → Prop} {w w' : World} {vn vs vp vl vu : Value} {now sure : Files} {pend : List Ch} {L users : List Ev}
theorem RParts.mono {O' R' : Nat → Prop} (h : RParts O R w vn vs vp vl vu now sure pend L users) (ho : ∀ k, O k → O' k) (hr : ∀ k, R k → R' k) : RParts O' R' w vn vs vp vl vu now sure pend L users :=
 ⟨h.now.rowsMono hr, h.on.mono ho, h.sure.rowsMono hr, h.os.mono ho, h.pend.mono (fun c x hx => hx.mono hr), h.op.mono ho, h.plan, h.ol.mono ho, h.users.mono (fun c x hx => hx.mono hr), h.ou.mono ho, h.off⟩
theorem RParts.stay (h : RParts O R w vn vs vp vl vu now sure pend L users)
  (hn : ∀ k, vn.ownBlock = some k → w'.heap[k]? = w.heap[k]?) (hs : ∀ k, vs.ownBlock = some k → w'.heap[k]? = w.heap[k]?) (hp : ∀ k, vp.ownBlock = some k → w'.heap[k]? = w.heap[k]?) (hl : ∀ k, vl.ownBlock = some k → w'.heap[k]? = w.heap[k]?) (hu : ∀ k, vu.ownBlock = some k → w'.heap[k]? = w.heap[k]?) (hk : KeepR R w w') :
  RParts O R w' vn vs vp vl vu now sure pend L users :=
 ⟨h.now.rows hn hk, h.on, h.sure.rows hs hk, h.os, (h.pend.stay hp).mono (fun c x hx => hx.keepR hk), h.op, h.plan.stay hl, h.ol, (h.users.stay hu).mono (fun c x hx => hx.keepR hk), h.ou, h.off⟩
theorem RParts.stayO (h : RParts O R w vn vs vp vl vu now sure pend L users)
  (ho : ∀ k, O k → k < w.heap.size → w'.heap[k]? = w.heap[k]?) (hk : KeepR R w w') : RParts O R w' vn vs vp vl vu now sure pend L users :=
 h.stay (fun k hv => ho k (h.on k hv) (h.now.lt k hv)) (fun k hv => ho k (h.os k hv) (h.sure.lt k hv)) (fun k hv => ho k (h.op k hv) (h.pend.lt k hv)) (fun k hv => ho k (h.ol k hv) (h.plan.lt k hv)) (fun k hv => ho k (h.ou k hv) (h.users.lt k hv)) hk
theorem RParts.ext (h : RParts O R w vn vs vp vl vu now sure pend L users) (hx : Ext w w') : RParts O R w' vn vs vp vl vu now sure pend L users :=
 h.stayO (fun k _ hlt => hx.block k hlt) (KeepR.of_keep (KeepB.of_ext hx))
/-- .. where only the own block is written. -/
theorem RParts.own (h : RParts O R w vn vs vp vl vu now sure pend L users)
  {g : Nat} {cs : Array Value} {fr : Nat × Nat} (hg : w.heap[g]? = some (.cells cs 133 fr)) (hw : w.grownBy w' (some g)) : RParts O R w' vn vs vp vl vu now sure pend L users := by
 have ne : ∀ k, (∃ x, w.heap[k]? = some x ∧ x ≠ Obj.cells cs 133 fr) → w'.heap[k]? = w.heap[k]? := fun k ⟨x, hx, hn⟩ => hw.block k (Array.getElem?_eq_some_iff.1 hx).1 (by simpa using apart_kind hx hg hn)
 refine h.stay (fun k hv => ?_) (fun k hv => ?_) (fun k hv => ?_) (fun k hv => ?_) (fun k hv => ?_) (grownR hw (by rintro k hk; simp at hk; subst hk; exact cells_u8 hg (by kernel_rfl)))
 ·obtain ⟨xs, f, hx⟩ := h.now.typed k hv; exact ne k ⟨_, hx, by simp⟩
 ·obtain ⟨xs, f, hx⟩ := h.sure.typed k hv; exact ne k ⟨_, hx, by simp⟩
 ·obtain ⟨xs, f, hx⟩ := h.pend.typed k hv; exact ne k ⟨_, hx, by simp⟩
 ·obtain ⟨xs, f, hx⟩ := h.plan.typed k hv; exact ne k ⟨_, hx, by simp⟩
 ·obtain ⟨xs, f, hx⟩ := h.users.typed k hv; exact ne k ⟨_, hx, by simp⟩
theorem RParts.setNow (h : RParts O R w vn vs vp vl vu now sure pend L users) {vn' : Value} {now' : Files} (hn : IsRows R w vn' now') (hi : Inn O vn') : RParts O R w vn' vs vp vl vu now' sure pend L users :=
 ⟨hn, hi, h.sure, h.os, h.pend, h.op, h.plan, h.ol, h.users, h.ou, h.off⟩
theorem RParts.setSure (h : RParts O R w vn vs vp vl vu now sure pend L users) {vs' : Value} {sure' : Files} (hn : IsRows R w vs' sure') (hi : Inn O vs') : RParts O R w vn vs' vp vl vu now sure' pend L users :=
 ⟨h.now, h.on, hn, hi, h.pend, h.op, h.plan, h.ol, h.users, h.ou, h.off⟩
theorem RParts.noPend (h : RParts O R w vn vs vp vl vu now sure pend L users) : RParts O R w vn vs (.slice none 0 0) vl vu now sure [] L users :=
 ⟨h.now, h.on, h.sure, h.os, OwnL.nil _ _ _ _, Inn.nil _ _ _, h.plan, h.ol, h.users, h.ou, h.off⟩
/-- .. where the changes' slice grows. -/
theorem RParts.appPend (h : RParts O R w vn vs vp vl vu now sure pend L users)
  (hw : w.grownBy w' vp.ownBlock) {vp' : Value} {pend' : List Ch} (hn : OwnL w' 185 6 (IsOp R w') vp' pend') (hi : Inn O vp') : RParts O R w' vn vs vp' vl vu now sure pend' L users := by
 have hk : KeepR R w w' := grownR hw (fun k hk => by obtain ⟨cs, fr, hx⟩ := h.pend.typed k hk; exact cells_u8 hx (by kernel_rfl))
 have ne : ∀ k, (∃ x, w.heap[k]? = some x ∧ ∀ cs fr, x ≠ Obj.cells cs 185 fr) → w'.heap[k]? = w.heap[k]? := fun k ⟨x, hx, hn⟩ => hw.block k (Array.getElem?_eq_some_iff.1 hx).1 (fun heq => by
  obtain ⟨cs, fr, hy⟩ := h.pend.typed k heq.symm
  rw [hx] at hy
  exact hn cs fr (Option.some.inj hy))
 refine ⟨h.now.rows (fun k hv => ?_) hk, h.on, h.sure.rows (fun k hv => ?_) hk, h.os, hn, hi, h.plan.stay (fun k hv => ?_), h.ol, (h.users.stay (fun k hv => ?_)).mono (fun c x hx => hx.keepR hk), h.ou, h.off⟩
 ·obtain ⟨xs, f, hx⟩ := h.now.typed k hv; exact ne k ⟨_, hx, by simp⟩
 ·obtain ⟨xs, f, hx⟩ := h.sure.typed k hv; exact ne k ⟨_, hx, by simp⟩
 ·obtain ⟨xs, f, hx⟩ := h.plan.typed k hv; exact ne k ⟨_, hx, by simp⟩
 ·obtain ⟨xs, f, hx⟩ := h.users.typed k hv; exact ne k ⟨_, hx, by simp⟩
theorem RParts.appUsers (h : RParts O R w vn vs vp vl vu now sure pend L users)
  (hw : w.grownBy w' vu.ownBlock) {vu' : Value} {users' : List Ev} (hn : OwnL w' 146 7 (IsEvR R w') vu' users') (hi : Inn O vu') (hoff : ∀ k, vu'.ownBlock = some k → vl.ownBlock ≠ some k) : RParts O R w' vn vs vp vl vu' now sure pend L users' := by
 have hk : KeepR R w w' := grownR hw (fun k hk => by obtain ⟨cs, fr, hx⟩ := h.users.typed k hk; exact cells_u8 hx (by kernel_rfl))
 have ne : ∀ k, (∃ x, w.heap[k]? = some x ∧ ∀ cs fr, x ≠ Obj.cells cs 146 fr) → w'.heap[k]? = w.heap[k]? := fun k ⟨x, hx, hn⟩ => hw.block k (Array.getElem?_eq_some_iff.1 hx).1 (fun heq => by
  obtain ⟨cs, fr, hy⟩ := h.users.typed k heq.symm
  rw [hx] at hy
  exact hn cs fr (Option.some.inj hy))
 refine ⟨h.now.rows (fun k hv => ?_) hk, h.on, h.sure.rows (fun k hv => ?_) hk, h.os, (h.pend.stay (fun k hv => ?_)).mono (fun c x hx => hx.keepR hk), h.op, h.plan.stay (fun k hv => ?_), h.ol, hn, hi, hoff⟩
 ·obtain ⟨xs, f, hx⟩ := h.now.typed k hv; exact ne k ⟨_, hx, by simp⟩
 ·obtain ⟨xs, f, hx⟩ := h.sure.typed k hv; exact ne k ⟨_, hx, by simp⟩
 ·obtain ⟨xs, f, hx⟩ := h.pend.typed k hv; exact ne k ⟨_, hx, by simp⟩
 ·obtain ⟨xs, f, hx⟩ := h.plan.typed k hv
  exact hw.block k (Array.getElem?_eq_some_iff.1 hx).1 (fun heq => h.off k heq.symm hv)
theorem RParts.bound (h : RParts O R w vn vs vp vl vu now sure pend L users) :
  RParts (fun k => O k ∧ k < w.heap.size) (fun k => R k ∧ k < w.heap.size) w vn vs vp vl vu now sure pend L users :=
 ⟨h.now.mono (fun c x hx => hx.bound), fun k hk => ⟨h.on k hk, h.now.lt k hk⟩, h.sure.mono (fun c x hx => hx.bound), fun k hk => ⟨h.os k hk, h.sure.lt k hk⟩, h.pend.mono (fun c x hx => hx.bound), fun k hk => ⟨h.op k hk, h.pend.lt k hk⟩, h.plan, fun k hk => ⟨h.ol k hk, h.plan.lt k hk⟩, h.users.mono (fun c x hx => hx.bound), fun k hk => ⟨h.ou k hk, h.users.lt k hk⟩, h.off⟩
end

/-! ### The whole -/
section
variable {O O' R R' : Nat → Prop} {w w' : World} {p : Value} {m : Fs}
theorem IsRef.mono (h : IsRef O R w p m) (ho : ∀ k, O k → O' k) (hr : ∀ k, R k → R' k) : IsRef O' R' w p m := by
 obtain ⟨g, vn, vs, vp, vl, vu, h1, h2, h3, h4⟩ := h
 exact ⟨g, vn, vs, vp, vl, vu, h1, h2, ho _ h3, h4.mono ho hr⟩
theorem IsRef.fit (h : IsRef (On O w.heap.size) (On R w.heap.size) w' p m) : IsRef (Nw O w w') (Nw R w w') w' p m := by
 obtain ⟨g, vn, vs, vp, vl, vu, h1, h2, h3, h4⟩ := h
 have hlt := (Array.getElem?_eq_some_iff.1 h2).1
 have hb : ∀ (S : Nat → Prop) k, On S w.heap.size k ∧ k < w'.heap.size → Nw S w w' k := fun S k hk => hk.1.imp id (fun h => ⟨h, hk.2⟩)
 exact ⟨g, vn, vs, vp, vl, vu, h1, h2, hb O g ⟨h3, hlt⟩, h4.bound.mono (hb O) (hb R)⟩
theorem IsRef.stay (h : IsRef O R w p m) (ho : ∀ k, O k → k < w.heap.size → w'.heap[k]? = w.heap[k]?) (hk : KeepR R w w') : IsRef O R w' p m := by
 obtain ⟨g, vn, vs, vp, vl, vu, h1, h2, h3, h4⟩ := h
 exact ⟨g, vn, vs, vp, vl, vu, h1, (ho g h3 (Array.getElem?_eq_some_iff.1 h2).1).trans h2, h3, h4.stayO ho hk⟩
theorem IsRef.other (h : IsRef O R w p m) (hf : Fr O' w w') (hd : ∀ k, O k → ¬ O' k) : IsRef O R w' p m :=
 h.stay (fun k hk hlt => hf.block k hlt (.inl (hd k hk))) (KeepR.of_keep hf.keep)
theorem IsRef.ext (h : IsRef O R w p m) (hx : Ext w w') : IsRef O R w' p m :=
 h.stay (fun k _ hlt => hx.block k hlt) (KeepR.of_keep (KeepB.of_ext hx))
end

/-- What a call leaves of the document's file system. -/
structure RefPost (O R : Nat → Prop) (w : World) (p : Value) (m : Fs) (w' : World) : Prop where
 fs : IsRef (Nw O w w') (Nw R w w') w' p m
 fr : Fr O w w'
section
variable {O R : Nat → Prop} {w wx w1 w' : World} {p : Value} {m m1 : Fs}
theorem RefPost.of_ext (hx : Ext w wx) (h : RefPost O (Nw R w wx) wx p m w') : RefPost O R w p m w' := by
 refine ⟨h.fs.mono (fun k hk => ?_) (fun k hk => hk.nw hx.size h.fr.size), (Fr.of_ext hx).trans (h.fr.mono fun k hk => .inl hk)⟩
 rcases hk with hk | hk
 ·exact .inl hk
 ·exact .inr ⟨Nat.le_trans hx.size hk.1, hk.2⟩
theorem RefPost.trans (h1 : RefPost O R w p m1 w1) (h : RefPost (Nw O w w1) (Nw R w w1) w1 p m w') : RefPost O R w p m w' :=
 ⟨h.fs.mono (fun k hk => hk.nw h1.fr.size h.fr.size) (fun k hk => hk.nw h1.fr.size h.fr.size), h1.fr.trans h.fr⟩
theorem RefPost.same (h : IsRef O R w p m) (hx : Ext w w') : RefPost O R w p m w' :=
 ⟨(h.ext hx).mono (fun k hk => .inl hk) (fun k hk => .inl hk), Fr.of_ext hx⟩
theorem RefPost.ext (h : RefPost O R w p m w1) (hx : Ext w1 w') : RefPost O R w p m w' := h.trans (RefPost.same h.fs hx)
theorem RefPost.pre (hx : Ext w wx) (h : RefPost O R wx p m w') : RefPost O R w p m w' := RefPost.of_ext hx ⟨h.fs.mono (fun k hk => hk) (fun k hk => hk.imp .inl id), h.fr⟩
end

end Go.Proofs.YtfimfbdlegookaaGreatDoor

/-! What the document's lists of files are, in plain Lean: places, files put in their places, what may be. No conditions. -/
namespace Go.Proofs.YtfimfbdlegookaaGreatDoor
open Go Go.RowKit

/-- The place of a path. -/
def PlaceOf (l : Files) (p : B8) (i : Int) : Prop := (look l p = none ∧ i = -1) ∨ ∃ (k : Nat) (f : Fi), i = k ∧ l[k]? = some (p, f) ∧ look l p = some f
theorem look_none {l : Files} {p : B8} (h : ∀ e ∈ l, e.1 ≠ p) : look l p = none := by
 unfold look
 rw [Option.map_eq_none_iff, List.find?_eq_none]
 intro e he
 simpa using h e he
theorem look_at : ∀ {l : Files} {p : B8} {k : Nat} {f : Fi}, (∀ e ∈ l.take k, e.1 ≠ p) → l[k]? = some (p, f) → look l p = some f
 | [], p, k, f, _, h => by simp at h
 | e :: l, p, 0, f, _, h => by
  have : e = (p, f) := by simpa using h
  subst this
  simp [look]
 | e :: l, p, k + 1, f, hn, h => by
  have h1 := look_at (l := l) (p := p) (k := k) (f := f) (fun e he => hn e (by simp [he])) (by simpa using h)
  have h2 : (e.1 == p) = false := by simpa using hn e (by simp)
  unfold look at h1 ⊢
  rw [List.find?_cons, h2]
  exact h1
theorem take_ne_snoc {l : Files} {p : B8} {k : Nat} {e : B8 × Fi} (h : ∀ e ∈ l.take k, e.1 ≠ p) (hk : l[k]? = some e) (he : e.1 ≠ p) : ∀ e ∈ l.take (k + 1), e.1 ≠ p := by
 intro x hx
 rw [List.take_add_one, hk, Option.toList_some] at hx
 rcases List.mem_append.1 hx with hx | hx
 ·exact h x hx
 ·have : x = e := by simpa using hx
  rw [this]; exact he
theorem delF_snoc {l : Files} {p : B8} {k : Nat} {e : B8 × Fi} (hk : l[k]? = some e) : delF (l.take (k + 1)) p = if e.1 = p then delF (l.take k) p else delF (l.take k) p ++ [e] := by
 unfold delF
 rw [List.take_add_one, hk, Option.toList_some, List.filter_append]
 by_cases h : e.1 = p
 ·rw [if_pos h, List.filter_cons_of_neg (by simpa using h)]; simp
 ·rw [if_neg h, List.filter_cons_of_pos (by simpa using h)]; simp
theorem insF_at (x : B8 × Fi) : ∀ (l : Files) (k : Nat), k ≤ l.length → (∀ j e, j < k → l[j]? = some e → ltB x.1 e.1 = false) → (∀ e, l[k]? = some e → ltB x.1 e.1 = true) → insF x l = l.take k ++ x :: l.drop k
 | [], k, hk, _, _ => by
  have : k = 0 := by simpa using hk
  subst this
  rfl
 | e :: l, 0, _, _, h => by
  have h1 := h e (by simp)
  simp [insF, h1]
 | e :: l, k + 1, hk, h1, h2 => by
  have h3 := h1 0 e (by omega) (by simp)
  have ih := insF_at x l k (by simpa using hk) (fun j e hj he => h1 (j + 1) e (by omega) (by simpa using he)) (fun e he => h2 e (by simpa using he))
  simp [insF, h3, ih]
theorem ltB_asymm {a b : B8} (h : ltB a b = true) : ltB b a = false := by
 cases hb : ltB b a with
 | false => rfl
 | true => exact absurd rfl (ltB_ne (ltB_trans h hb))
theorem putF_at {l : Files} {p : B8} {f : Fi} {k : Nat} (hk : k ≤ (delF l p).length) (h1 : ∀ j e, j < k → (delF l p)[j]? = some e → ltB e.1 p = true) (h2 : ∀ e, (delF l p)[k]? = some e → ltB e.1 p = false) : putF l p f = (delF l p).take k ++ (p, f) :: (delF l p).drop k :=
 insF_at (p, f) _ k hk (fun j e hj he => ltB_asymm (h1 j e hj he)) (fun e he => ltB_total (h2 e he) (delF_ne l p e (List.mem_of_getElem? he)))

def mayR (l : Files) (path : B8) : Bool := !(l.any fun e => isUnder path e.1 || isUnder e.1 path)
theorem mayR_nil {l : Files} {path : B8} (h : ∀ e ∈ l, e.1 ≠ []) : mayF l path [] = mayR l path := by
 unfold mayF mayR
 congr 1
 rw [Bool.eq_iff_iff, List.any_eq_true, List.any_eq_true]
 constructor
 ·rintro ⟨e, he, hx⟩
  refine ⟨e, he, ?_⟩
  simp only [Bool.and_eq_true] at hx
  rw [Bool.or_comm]
  exact hx.2
 ·rintro ⟨e, he, hx⟩
  refine ⟨e, he, ?_⟩
  have : (e.1 == ([] : B8)) = false := by simpa using h e he
  rw [this, Bool.or_comm]
  simpa using hx
theorem mayR_del {l : Files} {path but : B8} : mayF l path but = mayR (delF l but) path := by
 unfold mayF mayR delF
 congr 1
 rw [Bool.eq_iff_iff, List.any_eq_true, List.any_eq_true]
 constructor
 ·rintro ⟨e, he, hx⟩
  simp only [Bool.and_eq_true] at hx
  refine ⟨e, List.mem_filter.2 ⟨he, hx.1⟩, ?_⟩
  rw [Bool.or_comm]
  exact hx.2
 ·rintro ⟨e, he, hx⟩
  have h1 := List.mem_filter.1 he
  refine ⟨e, h1.1, ?_⟩
  simp only [Bool.and_eq_true]
  rw [Bool.or_comm]
  exact ⟨h1.2, hx⟩
theorem mayR_take {l : Files} {path : B8} {k : Nat} {e : B8 × Fi} (h : mayR (l.take k) path = true) (hk : l[k]? = some e) : mayR (l.take (k + 1)) path = !(isUnder path e.1 || isUnder e.1 path) := by
 unfold mayR at h ⊢
 rw [Bool.not_eq_true'] at h
 rw [List.take_add_one, hk, Option.toList_some, List.any_append, h]
 simp
theorem mayR_no {l : Files} {path : B8} {e : B8 × Fi} (he : e ∈ l) (h : (isUnder path e.1 || isUnder e.1 path) = true) : mayR l path = false := by
 unfold mayR
 rw [Bool.not_eq_false', List.any_eq_true]
 exact ⟨e, he, h⟩
theorem used_take {l : Files} {k : Nat} {e : B8 × Fi} (hk : l[k]? = some e) : usedF (l.take (k + 1)) = usedF (l.take k) + e.2.data.length := by
 unfold usedF
 rw [List.take_add_one, hk, Option.toList_some]
 simp
theorem used_take_le {l : Files} (k : Nat) : usedF (l.take k) ≤ usedF l := by
 have h := List.take_append_drop k l
 have : usedF l = usedF (l.take k) + usedF (l.drop k) := by
  conv => lhs; rw [← h]
  unfold usedF
  rw [List.map_append, List.sum_append]
 omega

end Go.Proofs.YtfimfbdlegookaaGreatDoor
