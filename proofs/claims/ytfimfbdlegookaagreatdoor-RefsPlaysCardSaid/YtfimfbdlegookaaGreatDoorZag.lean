/- What marlaw8.RefsExpect says, in plain Lean: one ref, set and deleted just from what it is. Conditions: as each theorem states. -/
import Derived.Test.YtfimfbdlegookaaGreatDoorZae
import Derived.Test.YtfimfbdlegookaaGreatDoorZad
import Derived.Lib.ConvBytes

set_option linter.unusedVariables false
set_option linter.unusedSimpArgs false

/-! What holds of the files behind any operations, crashes among them: no file under another one, modes, times, the room: in plain Lean. Conditions: as each theorem states. -/
namespace Go.Proofs.YtfimfbdlegookaaGreatDoor
open Go Go.RowKit

/-! ### Bytes of files -/
theorem usedF_ins (x : B8 × Fi) : ∀ l : Files, usedF (insF x l) = x.2.data.length + usedF l
 | [] => by simp [insF, usedF]
 | y :: r => by
  unfold insF
  split
  ·simp [usedF]
  ·have := usedF_ins x r
   simp only [usedF, List.map_cons, List.sum_cons] at *
   omega
theorem delF_none {l : Files} {p : B8} (h : ∀ e ∈ l, e.1 ≠ p) : delF l p = l := List.filter_eq_self.2 (fun e he => by simpa using h e he)
theorem usedF_del {l : Files} (h : Rising l) (p : B8) : usedF (delF l p) + oldLen l p = usedF l := by
 induction l with
 | nil => rfl
 | cons y r ih =>
  obtain ⟨h1, h2⟩ := List.pairwise_cons.1 h
  have ih := ih h2
  by_cases hy : y.1 = p
  ·have hr : delF r p = r := delF_none (fun e he => by rw [← hy]; exact (ltB_ne (h1 e he)).symm)
   have e1 : delF (y :: r) p = r := by
    unfold delF at *
    rw [List.filter_cons, hr]
    simp [hy]
   have e2 : oldLen (y :: r) p = y.2.data.length := by unfold oldLen look; simp [hy]
   rw [e1, e2]
   simp only [usedF, List.map_cons, List.sum_cons]
   omega
  ·have e1 : delF (y :: r) p = y :: delF r p := by unfold delF; rw [List.filter_cons]; simp [hy]
   have e2 : oldLen (y :: r) p = oldLen r p := by unfold oldLen look; simp [hy]
   rw [e1, e2]
   simp only [usedF, List.map_cons, List.sum_cons] at *
   omega
theorem usedF_put {l : Files} (h : Rising l) (p : B8) (f : Fi) : usedF (putF l p f) + oldLen l p = usedF l + f.data.length := by
 have h1 := usedF_ins (p, f) (delF l p)
 have h2 := usedF_del h p
 unfold putF
 simp only at h1
 omega
theorem mem_put {l : Files} {p : B8} {f : Fi} {e : B8 × Fi} : e ∈ putF l p f ↔ e = (p, f) ∨ (e ∈ l ∧ e.1 ≠ p) := by
 unfold putF
 rw [mem_insF]
 simp [delF]
theorem mem_del {l : Files} {p : B8} {e : B8 × Fi} : e ∈ delF l p ↔ e ∈ l ∧ e.1 ≠ p := by simp [delF]

/-! ### Paths -/
theorem not_under_self (p : B8) : isUnder p p = false := by
 cases h : isUnder p p with
 | false => rfl
 | true =>
  obtain ⟨r, hr⟩ := (under_iff p p).1 h
  have := congrArg List.length hr
  simp at this
theorem may_spec {l : Files} {p but : B8} (h : mayF l p but = true) : ∀ e ∈ l, e.1 ≠ but → isUnder e.1 p = false ∧ isUnder p e.1 = false := by
 intro e he hb
 unfold mayF at h
 simp only [Bool.not_eq_true', List.any_eq_false] at h
 have := h e he
 simpa [hb] using this

/-- Files as they are to be: b: is the room to be kept? t: no file is younger. -/
structure Fine (r : Int) (b : Prop) (t : Nat) (l : Files) : Prop where
 rise : Rising l
 path : ∀ e ∈ l, pathB e.1 = true
 tree : ∀ x ∈ l, ∀ y ∈ l, isUnder x.1 y.1 = false
 mode : ∀ e ∈ l, 1 ≤ e.2.mode ∧ e.2.mode ≤ 3
 time : ∀ e ∈ l, 0 ≤ e.2.time ∧ e.2.time ≤ t
 used : b → (usedF l : Int) ≤ r
theorem Fine.mono {r : Int} {b b' : Prop} {t t' : Nat} {l : Files} (h : Fine r b t l) (hb : b' → b) (ht : t ≤ t') : Fine r b' t' l :=
 ⟨h.rise, h.path, h.tree, h.mode, fun e he => by have := h.time e he; omega, fun hb' => h.used (hb hb')⟩
theorem Fine.nil {r : Int} {b : Prop} {t : Nat} (hr : 0 ≤ r) : Fine r b t [] :=
 ⟨List.Pairwise.nil, fun e he => (by cases he), fun e he => (by cases he), fun e he => (by cases he), fun e he => (by cases he), fun _ => (by simpa [usedF] using hr)⟩
theorem Fine.put {r : Int} {b : Prop} {t : Nat} {l : Files} (h : Fine r b t l) {p : B8} {f : Fi} (hp : pathB p = true) (hm : 1 ≤ f.mode ∧ f.mode ≤ 3) (ht : 0 ≤ f.time ∧ f.time ≤ t) (hmay : look l p = none → mayF l p [] = true)
  (hu : b → (f.data.length : Int) ≤ r - usedF l + oldLen l p) : Fine r b t (putF l p f) := by
 have hmem : ∀ e ∈ putF l p f, e = (p, f) ∨ (e ∈ l ∧ e.1 ≠ p) := fun e he => mem_put.1 he
 have hno : ∀ e ∈ l, isUnder e.1 p = false ∧ isUnder p e.1 = false := by
  intro e he
  cases hl : look l p with
  | none => exact may_spec (hmay hl) e he (path_ne (h.path e he))
  | some f0 => exact ⟨h.tree e he _ (look_mem hl), h.tree _ (look_mem hl) e he⟩
 refine ⟨h.rise.put p f, fun e he => ?_, fun x hx y hy => ?_, fun e he => ?_, fun e he => ?_, fun hb => ?_⟩
 ·rcases hmem e he with rfl | he
  ·exact hp
  ·exact h.path e he.1
 ·rcases hmem x hx with rfl | hx <;> rcases hmem y hy with rfl | hy
  ·exact not_under_self p
  ·exact (hno y hy.1).2
  ·exact (hno x hx.1).1
  ·exact h.tree x hx.1 y hy.1
 ·rcases hmem e he with rfl | he
  ·exact hm
  ·exact h.mode e he.1
 ·rcases hmem e he with rfl | he
  ·exact ht
  ·exact h.time e he.1
 ·have := usedF_put h.rise p f
  have := hu hb
  omega
theorem Fine.del {r : Int} {b : Prop} {t : Nat} {l : Files} (h : Fine r b t l) (p : B8) : Fine r b t (delF l p) := by
 have hmem : ∀ e ∈ delF l p, e ∈ l := fun e he => (mem_del.1 he).1
 refine ⟨h.rise.del p, fun e he => h.path e (hmem e he), fun x hx y hy => h.tree x (hmem x hx) y (hmem y hy), fun e he => h.mode e (hmem e he), fun e he => h.time e (hmem e he), fun hb => ?_⟩
 have := usedF_del h.rise p
 have := h.used hb
 omega
theorem Fine.mv {r : Int} {b : Prop} {t : Nat} {l : Files} (h : Fine r b t l) {s d : B8} {x : Fi} (hs : look l s = some x) (hd : pathB d = true) (hmay : look l d = none → mayF l d s = true) : Fine r b t (putF (delF l s) d x) := by
 have hmem : ∀ e ∈ putF (delF l s) d x, e = (d, x) ∨ (e ∈ l ∧ e.1 ≠ s) := fun e he => (mem_put.1 he).imp id (fun h => mem_del.1 h.1)
 have hx := look_mem hs
 have hno : ∀ e ∈ l, e.1 ≠ s → isUnder e.1 d = false ∧ isUnder d e.1 = false := by
  intro e he hne
  cases hl : look l d with
  | none => exact may_spec (hmay hl) e he hne
  | some f0 => exact ⟨h.tree e he _ (look_mem hl), h.tree _ (look_mem hl) e he⟩
 refine ⟨(h.rise.del s).put d x, fun e he => ?_, fun x hx y hy => ?_, fun e he => ?_, fun e he => ?_, fun hb => ?_⟩
 ·rcases hmem e he with rfl | he
  ·exact hd
  ·exact h.path e he.1
 ·rcases hmem x hx with rfl | hx <;> rcases hmem y hy with rfl | hy
  ·exact not_under_self d
  ·exact (hno y hy.1 hy.2).2
  ·exact (hno x hx.1 hx.2).1
  ·exact h.tree x hx.1 y hy.1
 ·rcases hmem e he with rfl | he
  ·exact h.mode (s, x) hx
  ·exact h.mode e he.1
 ·rcases hmem e he with rfl | he
  ·exact h.time (s, x) hx
  ·exact h.time e he.1
 ·have h1 := usedF_put (h.rise.del s) d x
  have h2 := usedF_del h.rise s
  have h3 := h.used hb
  have h4 : oldLen l s = x.data.length := by unfold oldLen; rw [hs]
  omega

/-! ### At all times -/
def FineM (m : Fs) : Prop := ∀ k, Fine m.room (m.users = []) m.time ((m.pend.take k).foldl ap m.sure)
theorem FineM.now {m : Fs} (h : FineM m) (hok : OkM m) : Fine m.room (m.users = []) m.time m.now := by
 have := h m.pend.length
 rwa [List.take_length, hok.fold] at this
theorem FineM.same {m m' : Fs} (h : FineM m) (h1 : m'.sure = m.sure) (h2 : m'.pend = m.pend) (h3 : m'.room = m.room) (h4 : m'.users = m.users) (h5 : m'.time = m.time) : FineM m' := by
 intro k
 rw [h1, h2, h3, h4, h5]
 exact h k
theorem ite_fs {P : Fs → Prop} {c : Prop} [Decidable c] {a b : Fs} (ha : P a) (hb : P b) : P (if c then a else b) := by
 by_cases h : c
 ·rw [if_pos h]; exact ha
 ·rw [if_neg h]; exact hb
/-- A file system behind operations. -/
def playM (room : Int) (l : List Opn) : Fs := l.foldl stepM (newM room)
end Go.Proofs.YtfimfbdlegookaaGreatDoor

/-! Calls without events, crashes, users: what each leaves; what a crash behind them leaves; moves, failing calls: in plain Lean. Conditions: as each theorem states. -/
namespace Go.Proofs.YtfimfbdlegookaaGreatDoor
open Go Go.RowKit

/-! ### Finds behind changes -/
/-- A change that does not touch a path. -/
def Away (p : B8) : Ch → Prop
 | .put q _ => q ≠ p
 | .mv s d => s ≠ p ∧ d ≠ p
 | .del q => q ≠ p
/-! ### Calls with nothing planned -/
theorem call_calm {m : Fs} (hp : m.plan = []) (hd : m.down = false) : callM m = ({ m with calls := m.calls + 1 }, false, 0) := by
 unfold callM
 rw [hp]
 simp [hd]
/-- A path that stays as it is. -/
structure Stays (p : B8) (v : Option Fi) (m : Fs) : Prop where
 plan : m.plan = []
 down : m.down = false
 all : ∀ k, look ((m.pend.take k).foldl ap m.sure) p = v
 away : ∀ c ∈ m.pend, Away p c
theorem Stays.now {p : B8} {v : Option Fi} {m : Fs} (hok : OkM m) (h : Stays p v m) : look m.now p = v := by
 have := h.all m.pend.length
 rwa [List.take_length, hok.fold] at this
/-- Calls but a sync: nothing new is durable. -/
structure Kept (F : Files) (m : Fs) : Prop where
 plan : m.plan = []
 down : m.down = false
 sure : m.sure = F
/-! ### A move -/
end Go.Proofs.YtfimfbdlegookaaGreatDoor

/-! Names for commits, over a file system: what each call does, in plain Lean. Conditions: as each theorem states. -/
namespace Go.Proofs.YtfimfbdlegookaaGreatDoor
open Go Go.RowKit

def lockD : B8 := [115, 47, 108]
def placeD : B8 := [115, 47, 114]
def lockP (n : B8) : B8 := [115, 47, 108, 47] ++ n
def placeP (n : B8) : B8 := [115, 47, 114, 47] ++ n
def lineM (id : B8) : B8 := id ++ [10]
/-- A file is read: what the program makes of it. -/
def expectE (x : Fi × Int) (old : B8) : Int :=
 if x.2 = 7 then (if old = [] then 0 else 13) else if x.2 ≠ 0 then x.2 else if old = [] ∨ x.1.data ≠ lineM old then 13 else 0
def expectM (m : Fs) (name old : B8) : Fs × Int := ((readM m (placeP name)).1, expectE (readM m (placeP name)).2 old)
def setEnd (m : Fs) (name : B8) : Fs × Int :=
 if (moveM m (lockP name) (placeP name) false).2 ≠ 0 then moveM m (lockP name) (placeP name) false else syncM (moveM m (lockP name) (placeP name) false).1
def setMid (x : Fs × Int) (name : B8) : Fs × Int :=
 if (if x.2 = 0 then syncM x.1 else x).2 ≠ 0 then ((removeM (if x.2 = 0 then syncM x.1 else x).1 (lockP name)).1, (if x.2 = 0 then syncM x.1 else x).2)
 else setEnd (if x.2 = 0 then syncM x.1 else x).1 name
def setM (m : Fs) (name old next : B8) : Fs × Int :=
 if nameB name = false then (m, 6) else if validB next = false ∨ (old ≠ [] ∧ validB old = false) then (m, 1)
 else if (createM m (lockP name) 1 (lineM next)).2 ≠ 0 then ((createM m (lockP name) 1 (lineM next)).1, if (createM m (lockP name) 1 (lineM next)).2 = 8 then 13 else (createM m (lockP name) 1 (lineM next)).2)
 else setMid (expectM (createM m (lockP name) 1 (lineM next)).1 name old) name
def deleteM (m : Fs) (name old : B8) : Fs × Int :=
 if nameB name = false then (m, 6) else if validB old = false then (m, 1)
 else if (readM m (placeP name)).2.2 ≠ 0 then ((readM m (placeP name)).1, (readM m (placeP name)).2.2)
 else if (readM m (placeP name)).2.1.data ≠ lineM old then ((readM m (placeP name)).1, 13)
 else if (removeM (readM m (placeP name)).1 (placeP name)).2 ≠ 0 then removeM (readM m (placeP name)).1 (placeP name)
 else syncM (removeM (readM m (placeP name)).1 (placeP name)).1
def getE (x : Fi × Int) : B8 × Int :=
 if x.2 ≠ 0 then ([], x.2) else if validB (Lib.trimSuffix x.1.data [10]) = false ∨ lineM (Lib.trimSuffix x.1.data [10]) ≠ x.1.data then ([], 4) else (Lib.trimSuffix x.1.data [10], 0)
def getM (m : Fs) (name : B8) : Fs × B8 × Int := if nameB name = false then (m, [], 6) else ((readM m (placeP name)).1, getE (readM m (placeP name)).2)
def lastL (l : List B8) (dir : B8) : List B8 := (l.map fun p => Lib.trimPrefix p (dir ++ [47])).filter nameB
def refsM (m : Fs) : Fs × List B8 × Int := ((listM m placeD).1, lastL (listM m placeD).2.1 placeD, (listM m placeD).2.2)
def dropsM (m : Fs) : List B8 → Fs × Int
 | [] => (m, 0)
 | n :: l => if (removeM m (lockP n)).2 ≠ 0 then removeM m (lockP n) else dropsM (removeM m (lockP n)).1 l
def unlockM (m : Fs) : Fs × Int × Int :=
 if (listM m lockD).2.2 ≠ 0 then ((listM m lockD).1, 0, (listM m lockD).2.2)
 else if (dropsM (listM m lockD).1 (lastL (listM m lockD).2.1 lockD)).2 ≠ 0 then ((dropsM (listM m lockD).1 (lastL (listM m lockD).2.1 lockD)).1, 0, (dropsM (listM m lockD).1 (lastL (listM m lockD).2.1 lockD)).2)
 else ((dropsM (listM m lockD).1 (lastL (listM m lockD).2.1 lockD)).1, ((lastL (listM m lockD).2.1 lockD).length : Int), 0)

theorem read_len {m : Fs} {p : B8} (h : OkM m) (hp : PlanOk m) : (readM m p).2.1.data.length ≤ 20000 := by
 have hok := (call_left h hp).1.ok
 have hz : zeroFi.data.length ≤ 20000 := Nat.zero_le _
 unfold readM
 split
 ·exact hz
 ·split
  ·exact hz
  ·split
   ·rename_i f hl
    obtain ⟨e, he, rfl⟩ := Option.map_eq_some_iff.1 hl
    exact (hok.dnow e (List.mem_of_find?_eq_some he)).2
   ·exact hz
/-! ### What each leaves, in numbers -/
theorem good_create {n : Nat} {m : Fs} (h : Good n m) (path : B8) (mode : Int) (data : B8) : Good (n + 1) (createM m path mode data).1 :=
 h.left (left_putN h.ok h.few) (by have e1 : (createM m path mode data).1.calls = _ := put_calls m _ _ _ _; have e2 := (call_leftN h.ok h.few).2; omega)
theorem good_move {n : Nat} {m : Fs} (h : Good n m) (s d : B8) (fresh : Bool) : Good (n + 1) (moveM m s d fresh).1 :=
 h.left (left_moveN h.ok h.few) (by rw [move_calls]; have e2 := (call_leftN h.ok h.few).2; omega)
theorem good_remove {n : Nat} {m : Fs} (h : Good n m) (p : B8) : Good (n + 1) (removeM m p).1 :=
 h.left (left_removeN h.ok h.few) (by rw [remove_calls]; have e2 := (call_leftN h.ok h.few).2; omega)
theorem good_sync {n : Nat} {m : Fs} (h : Good n m) : Good (n + 1) (syncM m).1 :=
 h.left (left_syncN h.ok h.few) (by rw [sync_calls]; have e2 := (call_leftN h.ok h.few).2; omega)
theorem good_call {n : Nat} {m : Fs} (h : Good n m) : Good (n + 1) (callM m).1 :=
 h.left ((call_leftN h.ok h.few).1.mono (by omega)) (by have e2 := (call_leftN h.ok h.few).2; omega)
theorem good_read {n : Nat} {m : Fs} (h : Good n m) (p : B8) : Good (n + 1) (readM m p).1 := by rw [read_fst]; exact good_call h
theorem good_setEnd {n : Nat} {m : Fs} (h : Good n m) (name : B8) : Good (n + 2) (setEnd m name).1 := by
 have h1 := good_move h (lockP name) (placeP name) false
 unfold setEnd
 split
 ·exact h1.mono (by omega)
 ·exact good_sync h1
theorem good_setMid {n : Nat} {x : Fs × Int} (h : Good n x.1) (name : B8) : Good (n + 3) (setMid x name).1 := by
 have h1 : Good (n + 1) (if x.2 = 0 then syncM x.1 else x).1 := by
  split
  ·exact good_sync h
  ·exact h.mono (by omega)
 unfold setMid
 generalize (if x.2 = 0 then syncM x.1 else x) = y at h1 ⊢
 split
 ·exact (good_remove h1 _).mono (by omega)
 ·exact good_setEnd h1 name
theorem good_set {n : Nat} {m : Fs} (h : Good n m) (name old next : B8) : Good (n + 6) (setM m name old next).1 := by
 have h1 := good_create h (lockP name) 1 (lineM next)
 unfold setM
 split
 ·exact h.mono (by omega)
 ·split
  ·exact h.mono (by omega)
  ·split
   ·exact h1.mono (by omega)
   ·exact (good_setMid (x := expectM (createM m (lockP name) 1 (lineM next)).1 name old) (good_read h1 _) name).mono (by omega)
end Go.Proofs.YtfimfbdlegookaaGreatDoor

/-! refs: line, place, expected, Get, last. Conditions: as each theorem states. -/
namespace Go.Proofs.YtfimfbdlegookaaGreatDoor
open Go Go.RowKit

theorem line_any (l : B8) (w : World) (hl : l.length ≤ 1000000) : Calls Tryz.prog 60 #[S8 l] w fun e w' => e = .returned (S8 (lineM l)) ∧ w' = w := by
 go_enter Tryz.func60, Tryz.ntmps60
 go_wp2
 go_ret
 exact ⟨rfl, rfl⟩
theorem place_any (l : B8) (w : World) (hl : l.length ≤ 1000000) : Calls Tryz.prog 65 #[S8 l] w fun e w' => e = .returned (S8 (placeP l)) ∧ w' = w := by
 go_enter Tryz.func65, Tryz.ntmps65
 go_wp2
 go_ret
 exact ⟨rfl, rfl⟩

set_option maxRecDepth 100000 in
set_option maxHeartbeats 2000000 in
theorem expected_any {S O R : Nat → Prop} {w : World} {p : Value} {m : Fs} (name old : B8) (h : FsIn S O R w p m) (hn : name.length ≤ 100) (hol : old.length ≤ 1000000) :
  Calls Tryz.prog 61 #[p, S8 name, S8 old] w fun e w' => e = .returned (.int .i64 (expectM m name old).2) ∧ FsPost S O R w p (expectM m name old).1 w' := by
 have hpl : (placeP name).length ≤ 400 := by unfold placeP; simp; omega
 have HR : Hid _ := read_any (placeP name) h hpl
 unfold expectM
 obtain ⟨⟨m1, fx, er⟩, hrd⟩ : ∃ q, readM m (placeP name) = q := ⟨_, rfl⟩
 rw [hrd] at HR ⊢
 clear hrd h
 go_enter Tryz.func61, Tryz.ntmps61
 go_wp2_with fail
 go_at_call 65
 refine (place_any name _ (by omega)).mono ?_
 rintro e w0 ⟨rfl, rfl⟩
 go_wp2_with fail
 go_at_call 68
 refine Calls.mono HR.out ?_
 rintro e w1 ⟨⟨v, rfl, hd⟩, hp1⟩
 try dsimp only at hd hp1
 obtain ⟨s1, t1, rfl, -⟩ := id hd.bytes
 try dsimp only
 go_upto_region 2 with fail
 obtain ⟨w2, hw2⟩ : ∃ wq, wq = w1.alloc (.cells #[.int .i64 fx.mode, .slice s1 fx.data.length t1, .int .i64 fx.time] 76) := ⟨_, rfl⟩
 rw [← hw2]
 have hx2 : Ext w1 w2 := by rw [hw2]; exact (Ext.refl _).alloc _
 have hb2 : w2.heap[w1.heap.size]? = some (.cells #[.int .i64 fx.mode, .slice s1 fx.data.length t1, .int .i64 fx.time] 76 (0, 0)) := by rw [hw2]; exact alloc_at _ _
 have HP : Hid _ := FsPost.ext hp1 hx2
 have HD : Hid (IsBytes w2 (.slice s1 fx.data.length t1) fx.data) := (IsData.ext hd hx2).bytes
 obtain ⟨c0, c1, c2⟩ := cellsAt3 hb2
 clear hw2 hb2 hd hp1 HR hx2
 try dsimp only
 by_cases h7 : er = 7
 ·subst h7
  by_cases hoe : old = []
  ·subst hoe
   go_wp2
   go_ret
   exact ⟨rfl, HP.out⟩
  ·have hne : (old == ([] : B8)) = false := by simpa using hoe
   have HEE : Hid (expectE (fx, 7) old = 13) := by unfold Hid expectE; simp [hoe]
   clear hoe
   go_wp2
   go_ret
   rw [HEE.out]
   exact ⟨rfl, HP.out⟩
 ·have b7 : (er == 7) = false := by simpa using h7
  by_cases h0 : er = 0
  ·subst h0
   by_cases hoe : old = []
   ·subst hoe
    have he : expectE (fx, 0) [] = 13 := rfl
    have HEE : Hid _ := he
    clear he h7 b7
    go_wp2_with fail
    apply wp_region_mix 10 [_, _, _, _, _, _, _, _, _, _] [none, none, none, none, none, none, none, none, none, none] [[], [0], [1], [2], [2, 3], [2, 4], [2], [2, 6], [2, 5, 7], [2, 8]] (by kernel_rfl) (by kernel_rfl) (by simp [mixV])
    ·trivial
    ·simp (maxSteps := 1000000) only [List.take_succ_cons, List.take_zero, oblFrom, stepObl, fillFrom, Act.put, List.setIfInBounds_toArray, List.set_cons_zero, List.set_cons_succ, knows, getV, mixV, List.getD_cons_zero, List.getD_cons_succ, and_true, true_and, forall_const]
     refine ⟨?_, ?_, ?_, ?_, ?_, ?_, ?_, ?_, ?_, ?_⟩
     ·intro xs wq hq R hR
      go_simp
      exact hR _ _ (Ext.refl _) rfl
     ·intro xs wq hq hk R hR
      go_simp
      exact hR _ _ (Ext.refl _) rfl
     ·intro xs wq hq hk R hR
      go_simp
      exact hR _ _ (Ext.refl _) rfl
     ·intro xs wq hq hk R hR
      go_simp
      exact hR _ _ (Ext.refl _) rfl
     ·intro xs wq hq hk R hR
      obtain ⟨hk0, hk1⟩ := hk
      go_simp
      exact hR _ _ (Ext.refl _) rfl
     ·intro xs wq hq hk R hR
      obtain ⟨hk0, hk1⟩ := hk
      go_simp
      exact hR _ _ (Ext.refl _) rfl
     ·intro xs wq hq hk R hR
      go_simp
      exact hR _ _ (Ext.refl _) rfl
     ·intro xs wq hq hk R hR
      obtain ⟨hk0, hk1⟩ := hk
      go_simp
      exact hR _ _ (Ext.refl _) rfl
     ·intro xs wq hq hk R hR
      obtain ⟨hk0, hk1, hk2⟩ := hk
      go_simp
      exact hR _ _ (Ext.refl _) rfl
     ·intro xs wq hq hk R hR
      obtain ⟨hk0, hk1⟩ := hk
      go_simp
      exact hR _ _ (Ext.refl _) rfl
    intro xs w3 hx3 hk
    simp only [heldV, Nat.zero_add, Nat.reduceAdd, and_true] at hk
    obtain ⟨q0, q1, q2, q3, q4, q5, q6, q7, q8, q9⟩ := hk
    simp (maxSteps := 1000000) only [List.take_succ_cons, List.take_zero, List.drop_succ_cons, List.drop_zero, fillFrom, Act.put, List.setIfInBounds_toArray, List.set_cons_zero, List.set_cons_succ, Nat.zero_add, Nat.reduceAdd, q0, q1, q2, q3, q4, q5, q6, q7, q8, q9]
    clear q0 q1 q2 q3 q4 q5 q6 q7 q8 q9
    go_wp2
    go_ret
    rw [HEE.out]
    exact ⟨rfl, FsPost.ext HP.out hx3⟩
   ·have hne : (old == ([] : B8)) = false := by simpa using hoe
    have hne2 : old ≠ [] := hoe
    clear hoe
    obtain ⟨bq, hbq⟩ : ∃ bq, (fx.data == lineM old) = bq := ⟨_, rfl⟩
    have he : expectE (fx, 0) old = if bq then 0 else 13 := by
     unfold expectE
     simp only [ne_eq]
     rw [if_neg (by decide), if_neg (by decide)]
     cases bq with
     | true =>
      have : fx.data = lineM old := by simpa using hbq
      rw [if_neg (fun hh => hh.elim (fun h => hne2 h) (fun h => h this))]
      rfl
     | false =>
      have : fx.data ≠ lineM old := by simpa using hbq
      rw [if_pos (.inr this)]
      rfl
    have HEE : Hid _ := he
    have HBQ : Hid _ := hbq
    clear he h7 b7 hbq hne2
    go_wp2_with fail
    apply wp_region_mix 10 [_, _, _, _, .slice s1 fx.data.length t1, S8 fx.data, _, S8 (lineM old), .bool (!bq), .bool (!bq)] [none, none, none, none, none, none, none, none, none, none] [[], [0], [1], [2], [2, 3], [2, 4], [2], [2, 6], [2, 5, 7], [2, 8]] (by kernel_rfl) (by kernel_rfl) (by simp [mixV])
    ·trivial
    ·simp (maxSteps := 1000000) only [List.take_succ_cons, List.take_zero, oblFrom, stepObl, fillFrom, Act.put, List.setIfInBounds_toArray, List.set_cons_zero, List.set_cons_succ, knows, getV, mixV, List.getD_cons_zero, List.getD_cons_succ, and_true, true_and, forall_const]
     refine ⟨?_, ?_, ?_, ?_, ?_, ?_, ?_, ?_, ?_, ?_⟩
     ·intro xs wq hq R hR
      have f1 := hq.cell c1
      go_simp
      exact hR _ _ (Ext.refl _) rfl
     ·intro xs wq hq hk R hR
      have f1 := hq.cell c1
      go_simp
      exact hR _ _ (Ext.refl _) rfl
     ·intro xs wq hq hk R hR
      have f1 := hq.cell c1
      go_simp
      exact hR _ _ (Ext.refl _) rfl
     ·intro xs wq hq hk R hR
      have f1 := hq.cell c1
      go_simp
      exact hR _ _ (Ext.refl _) rfl
     ·intro xs wq hq hk R hR
      obtain ⟨hk0, hk1⟩ := hk
      have f1 := hq.cell c1
      go_simp
      exact hR _ _ (Ext.refl _) rfl
     ·intro xs wq hq hk R hR
      obtain ⟨hk0, hk1⟩ := hk
      have hcv := conv_bytes (IsBytes.ext HD.out hq)
      go_simp
      exact hR _ _ (Ext.refl _) rfl
     ·intro xs wq hq hk R hR
      have f1 := hq.cell c1
      go_simp
      exact hR _ _ (Ext.refl _) rfl
     ·intro xs wq hq hk R hR
      obtain ⟨hk0, hk1⟩ := hk
      go_simp
      exact (line_any old _ hol).mono (by rintro e' w4 ⟨rfl, rfl⟩; exact ⟨_, rfl, hR _ _ (Ext.refl _) rfl⟩)
     ·intro xs wq hq hk R hR
      obtain ⟨hk0, hk1, hk2⟩ := hk
      have hb := HBQ.out
      go_simp
      exact hR _ _ (Ext.refl _) rfl
     ·intro xs wq hq hk R hR
      obtain ⟨hk0, hk1⟩ := hk
      have f1 := hq.cell c1
      go_simp
      exact hR _ _ (Ext.refl _) rfl
    intro xs w3 hx3 hk
    simp only [heldV, Nat.zero_add, Nat.reduceAdd, and_true] at hk
    obtain ⟨q0, q1, q2, q3, q4, q5, q6, q7, q8, q9⟩ := hk
    simp (maxSteps := 1000000) only [List.take_succ_cons, List.take_zero, List.drop_succ_cons, List.drop_zero, fillFrom, Act.put, List.setIfInBounds_toArray, List.set_cons_zero, List.set_cons_succ, Nat.zero_add, Nat.reduceAdd, q0, q1, q2, q3, q4, q5, q6, q7, q8, q9]
    clear q0 q1 q2 q3 q4 q5 q6 q7 q8 q9
    cases bq with
    | true =>
     go_wp2
     go_ret
     rw [HEE.out]
     exact ⟨rfl, FsPost.ext HP.out hx3⟩
    | false =>
     go_wp2
     go_ret
     rw [HEE.out]
     exact ⟨rfl, FsPost.ext HP.out hx3⟩
  ·have b0 : (er != 0) = true := by simpa using h0
   have he : expectE (fx, er) old = er := by
    unfold expectE
    simp only [ne_eq]
    rw [if_neg h7, if_pos h0]
   have HEE : Hid _ := he
   clear he h0 h7
   go_wp2
   go_ret
   rw [HEE.out]
   exact ⟨rfl, HP.out⟩

end Go.Proofs.YtfimfbdlegookaaGreatDoor

/-! refs: Get, Delete, Set, last, List. Conditions: as each theorem states. -/
namespace Go.Proofs.YtfimfbdlegookaaGreatDoor
open Go Go.RowKit

/-- []byte(s). -/
theorem str_bytes (w : World) (l : B8) (hl : l.length ≤ 1000000) : ∃ v w', (convert 9 31 (S8 l)).run Tryz.prog w = .ok v w' ∧ Ext w w' ∧ IsBytes w' v l ∧ TypB w' v ∧ ∃ a c, v = .slice a l.length c := by
 have hr := Lib.run_convert_string_bytes (P := Tryz.prog) w 9 31 5 ⟨l.toArray⟩ Tryz.underlying9 Tryz.underlying31 Tryz.underlying5
 have hsz : (⟨l.toArray⟩ : ByteArray).size = l.length := by simp [ByteArray.size]
 rw [hsz] at hr
 have hc1 := grownCap_ge w l.length 0 5
 have hc2 := grownCap_le_maxLen w l.length 0 5 (by unfold maxLen; omega)
 unfold maxLen at hc2
 refine ⟨_, _, hr, ⟨rfl, rfl, rfl, ?_, fun k hk => Lib.bytesWorld_at_old w _ _ k hk⟩, ⟨_, _, rfl, hc1, by omega, by omega, fun hn => ⟨w.heap.size, 0, rfl, fun i u hu => ?_⟩⟩, ?_, _, _, rfl⟩
 ·rw [Lib.bytesWorld_size]; omega
 ·have hi : i < l.length := by
   have := (List.getElem?_eq_some_iff.1 hu).1
   simpa using this
  have hu' : u = .int .u8 ((l.getD i 0).toNat : Int) := by
   rw [List.getElem?_map, List.getElem?_eq_getElem hi] at hu
   have := Option.some.inj hu
   rw [← this, List.getD_eq_getElem?_getD, List.getElem?_eq_getElem hi]
   rfl
  rw [hu', Nat.zero_add]
  have := Lib.bytesWorld_cell w 5 ⟨l.toArray⟩ i (by rw [hsz]; exact hi)
  simpa using this
 ·intro a n c he
  cases he
  exact ⟨_, _, _, Lib.bytesWorld_at_new w _ _, byt_u8⟩

set_option maxRecDepth 100000 in
set_option maxHeartbeats 2000000 in
theorem get_any {S O R : Nat → Prop} {w : World} {p : Value} {m : Fs} (name : B8) (h : FsIn S O R w p m) (hn : name.length ≤ 1000000) :
  Calls Tryz.prog 18 #[p, S8 name] w fun e w' => e = .returned (.tuple #[S8 (getM m name).2.1, .int .i64 (getM m name).2.2]) ∧ FsPost S O R w p (getM m name).1 w' := by
 unfold getM
 cases hnb : nameB name with
 | false =>
  rw [if_pos rfl]
  have HF : Hid _ := h.fs
  clear h
  go_enter Tryz.func18, Tryz.ntmps18
  go_wp2_with fail
  go_at_call 17
  refine (name_any name _ (by omega)).mono ?_
  rw [hnb]
  rintro e w1 ⟨rfl, rfl⟩
  go_wp2
  go_ret2
  exact ⟨rfl, FsPost.same HF.out (Ext.refl _)⟩
 | true =>
  rw [if_neg (by simp)]
  have hnl : name.length ≤ 64 := by
   unfold nameB at hnb
   simp only [Bool.and_eq_true, decide_eq_true_eq] at hnb
   exact hnb.2.2.1
  have hpl : (placeP name).length ≤ 400 := by unfold placeP; simp; omega
  have HR : Hid _ := read_any (placeP name) h hpl
  have HOK : Hid _ := (call_left h.ok h.plan).1.ok
  have hrf := read_fst m (placeP name)
  have hdl0 : (readM m (placeP name)).2.1.data.length ≤ 20000 := read_len h.ok h.plan
  obtain ⟨⟨m1, fx, er⟩, hrd⟩ : ∃ q, readM m (placeP name) = q := ⟨_, rfl⟩
  rw [hrd] at HR hdl0 ⊢
  have hdl : fx.data.length ≤ 20000 := hdl0
  clear hrd h hrf HOK hdl0
  go_enter Tryz.func18, Tryz.ntmps18
  go_wp2_with fail
  go_at_call 17
  refine (name_any name _ (by omega)).mono ?_
  rw [hnb]
  rintro e w1 ⟨rfl, rfl⟩
  clear hnb
  go_wp2_with fail
  go_at_call 65
  refine (place_any name _ (by omega)).mono ?_
  rintro e w0 ⟨rfl, rfl⟩
  go_wp2_with fail
  go_at_call 68
  refine Calls.mono HR.out ?_
  rintro e w1 ⟨⟨v, rfl, hd⟩, hp1⟩
  try dsimp only at hd hp1
  obtain ⟨s1, t1, rfl, -⟩ := id hd.bytes
  try dsimp only
  go_upto_region 4 with fail
  obtain ⟨w2, hw2⟩ : ∃ wq, wq = w1.alloc (.cells #[.int .i64 fx.mode, .slice s1 fx.data.length t1, .int .i64 fx.time] 76) := ⟨_, rfl⟩
  rw [← hw2]
  have hx2 : Ext w1 w2 := by rw [hw2]; exact (Ext.refl _).alloc _
  have hb2 : w2.heap[w1.heap.size]? = some (.cells #[.int .i64 fx.mode, .slice s1 fx.data.length t1, .int .i64 fx.time] 76 (0, 0)) := by rw [hw2]; exact alloc_at _ _
  have HP : Hid _ := FsPost.ext hp1 hx2
  have HD : Hid (IsBytes w2 (.slice s1 fx.data.length t1) fx.data) := (IsData.ext hd hx2).bytes
  obtain ⟨c0, c1, c2⟩ := cellsAt3 hb2
  clear hw2 hb2 hd hp1 HR hx2
  by_cases h0 : er = 0
  ·subst h0
   obtain ⟨id, hid⟩ : ∃ id, Lib.trimSuffix fx.data [10] = id := ⟨_, rfl⟩
   obtain ⟨vb, hvb⟩ : ∃ vb, validB id = vb := ⟨_, rfl⟩
   obtain ⟨bq, hbq⟩ : ∃ bq, (lineM id == fx.data) = bq := ⟨_, rfl⟩
   have HG : Hid (getE (fx, 0) = if vb = false ∨ bq = false then ([], 4) else (id, 0)) := by
    unfold Hid getE
    simp only [ne_eq, not_true_eq_false, if_false]
    rw [hid, hvb, ← hbq]
    simp
   have hil : id.length ≤ 1000000 := by
    rw [← hid]
    unfold Lib.trimSuffix
    split
    ·rw [List.length_take]; omega
    ·omega
   have HID : Hid _ := hid
   have HVB : Hid _ := hvb
   have HBQ : Hid _ := hbq
   have hcv := conv_bytes HD.out
   clear hid hvb hbq
   go_wp2_with fail
   go_at_call 69
   refine (Tryz.strings_TrimSuffix ⟨fx.data.toArray⟩ ⟨#[10]⟩ w2 (by simp [ByteArray.size]; omega)).mono ?_
   rw [show Lib.trimSuffix (⟨fx.data.toArray⟩ : ByteArray).data.toList (⟨#[10]⟩ : ByteArray).data.toList = id from HID.out]
   rintro e w3 ⟨rfl, rfl⟩
   clear hcv
   cases vb with
   | false =>
    go_wp2_with fail
    apply wp_region_mix 11 [_, .bool false, _, _, _, _, _, _, _, _, _] [none, none, none, none, none, none, none, none, none, none, none] [[], [0], [1], [2], [3], [3, 4], [3], [3, 6], [3, 7], [3, 5, 8], [3, 9]] (by kernel_rfl) (by kernel_rfl) (by simp [mixV])
    ·trivial
    ·simp (maxSteps := 1000000) only [List.take_succ_cons, List.take_zero, oblFrom, stepObl, fillFrom, Act.put, List.setIfInBounds_toArray, List.set_cons_zero, List.set_cons_succ, knows, getV, mixV, List.getD_cons_zero, List.getD_cons_succ, and_true, true_and, forall_const]
     refine ⟨?_, ?_, ?_, ?_, ?_, ?_, ?_, ?_, ?_, ?_, ?_⟩
     ·intro xs wq hq R hR
      go_simp
      exact hR _ _ (Ext.refl _) rfl
     ·intro xs wq hq hk R hR
      go_simp
      exact (valid_any id _ (by omega)).mono (by rw [HVB.out]; rintro e' w5 ⟨rfl, hx5⟩; exact ⟨_, rfl, hR _ _ hx5 rfl⟩)
     ·intro xs wq hq hk R hR
      go_simp
      exact hR _ _ (Ext.refl _) rfl
     ·intro xs wq hq hk R hR
      go_simp
      exact hR _ _ (Ext.refl _) rfl
     ·intro xs wq hq hk R hR
      go_simp
      exact hR _ _ (Ext.refl _) rfl
     ·intro xs wq hq hk R hR
      obtain ⟨hk0, hk1⟩ := hk
      go_simp
      exact hR _ _ (Ext.refl _) rfl
     ·intro xs wq hq hk R hR
      go_simp
      exact hR _ _ (Ext.refl _) rfl
     ·intro xs wq hq hk R hR
      obtain ⟨hk0, hk1⟩ := hk
      go_simp
      exact hR _ _ (Ext.refl _) rfl
     ·intro xs wq hq hk R hR
      obtain ⟨hk0, hk1⟩ := hk
      go_simp
      exact hR _ _ (Ext.refl _) rfl
     ·intro xs wq hq hk R hR
      obtain ⟨hk0, hk1, hk2⟩ := hk
      go_simp
      exact hR _ _ (Ext.refl _) rfl
     ·intro xs wq hq hk R hR
      obtain ⟨hk0, hk1⟩ := hk
      go_simp
      exact hR _ _ (Ext.refl _) rfl
    intro xs w4 hx4 hk
    simp only [heldV, Nat.zero_add, Nat.reduceAdd, and_true] at hk
    obtain ⟨q0, q1, q2, q3, q4, q5, q6, q7, q8, q9, q10⟩ := hk
    simp (maxSteps := 1000000) only [List.take_succ_cons, List.take_zero, List.drop_succ_cons, List.drop_zero, fillFrom, Act.put, List.setIfInBounds_toArray, List.set_cons_zero, List.set_cons_succ, Nat.zero_add, Nat.reduceAdd, q0, q1, q2, q3, q4, q5, q6, q7, q8, q9, q10]
    clear q0 q1 q2 q3 q4 q5 q6 q7 q8 q9 q10
    go_wp2
    go_ret2
    rw [HG.out]
    exact ⟨rfl, FsPost.ext HP.out hx4⟩
   | true =>
    go_wp2_with fail
    apply wp_region_mix 11 [_, .bool true, _, _, _, S8 (lineM id), _, .slice s1 fx.data.length t1, S8 fx.data, .bool (!bq), .bool (!bq)] [none, none, none, none, none, none, none, none, none, none, none] [[], [0], [1], [2], [3], [3, 4], [3], [3, 6], [3, 7], [3, 5, 8], [3, 9]] (by kernel_rfl) (by kernel_rfl) (by simp [mixV])
    ·trivial
    ·simp (maxSteps := 1000000) only [List.take_succ_cons, List.take_zero, oblFrom, stepObl, fillFrom, Act.put, List.setIfInBounds_toArray, List.set_cons_zero, List.set_cons_succ, knows, getV, mixV, List.getD_cons_zero, List.getD_cons_succ, and_true, true_and, forall_const]
     refine ⟨?_, ?_, ?_, ?_, ?_, ?_, ?_, ?_, ?_, ?_, ?_⟩
     ·intro xs wq hq R hR
      have f1 := hq.cell c1
      go_simp
      exact hR _ _ (Ext.refl _) rfl
     ·intro xs wq hq hk R hR
      go_simp
      exact (valid_any id _ (by omega)).mono (by rw [HVB.out]; rintro e' w5 ⟨rfl, hx5⟩; exact ⟨_, rfl, hR _ _ hx5 rfl⟩)
     ·intro xs wq hq hk R hR
      have f1 := hq.cell c1
      go_simp
      exact hR _ _ (Ext.refl _) rfl
     ·intro xs wq hq hk R hR
      have f1 := hq.cell c1
      go_simp
      exact hR _ _ (Ext.refl _) rfl
     ·intro xs wq hq hk R hR
      have f1 := hq.cell c1
      go_simp
      exact hR _ _ (Ext.refl _) rfl
     ·intro xs wq hq hk R hR
      obtain ⟨hk0, hk1⟩ := hk
      go_simp
      exact (line_any id _ hil).mono (by rintro e' w5 ⟨rfl, rfl⟩; exact ⟨_, rfl, hR _ _ (Ext.refl _) rfl⟩)
     ·intro xs wq hq hk R hR
      have f1 := hq.cell c1
      go_simp
      exact hR _ _ (Ext.refl _) rfl
     ·intro xs wq hq hk R hR
      obtain ⟨hk0, hk1⟩ := hk
      have f1 := hq.cell c1
      go_simp
      exact hR _ _ (Ext.refl _) rfl
     ·intro xs wq hq hk R hR
      obtain ⟨hk0, hk1⟩ := hk
      have hcv := conv_bytes (IsBytes.ext HD.out hq)
      go_simp
      exact hR _ _ (Ext.refl _) rfl
     ·intro xs wq hq hk R hR
      obtain ⟨hk0, hk1, hk2⟩ := hk
      have hb := HBQ.out
      go_simp
      exact hR _ _ (Ext.refl _) rfl
     ·intro xs wq hq hk R hR
      obtain ⟨hk0, hk1⟩ := hk
      have f1 := hq.cell c1
      go_simp
      exact hR _ _ (Ext.refl _) rfl
    intro xs w4 hx4 hk
    simp only [heldV, Nat.zero_add, Nat.reduceAdd, and_true] at hk
    obtain ⟨q0, q1, q2, q3, q4, q5, q6, q7, q8, q9, q10⟩ := hk
    simp (maxSteps := 1000000) only [List.take_succ_cons, List.take_zero, List.drop_succ_cons, List.drop_zero, fillFrom, Act.put, List.setIfInBounds_toArray, List.set_cons_zero, List.set_cons_succ, Nat.zero_add, Nat.reduceAdd, q0, q1, q2, q3, q4, q5, q6, q7, q8, q9, q10]
    clear q0 q1 q2 q3 q4 q5 q6 q7 q8 q9 q10
    cases bq with
    | true =>
     go_wp2
     go_ret2
     rw [HG.out]
     exact ⟨rfl, FsPost.ext HP.out hx4⟩
    | false =>
     go_wp2
     go_ret2
     rw [HG.out]
     exact ⟨rfl, FsPost.ext HP.out hx4⟩
  ·have b0 : (er != 0) = true := by simpa using h0
   have he : getE (fx, er) = ([], er) := by
    unfold getE
    rw [if_pos h0]
   have HEE : Hid _ := he
   clear he h0
   go_wp2
   go_ret2
   rw [HEE.out]
   exact ⟨rfl, HP.out⟩

end Go.Proofs.YtfimfbdlegookaaGreatDoor

/-! refs: last, List, Delete, Set. Conditions: as each theorem states. -/
namespace Go.Proofs.YtfimfbdlegookaaGreatDoor
open Go Go.RowKit

theorem str_app (a b : B8) : ((⟨a.toArray⟩ : ByteArray) ++ ⟨b.toArray⟩).data.toList = a ++ b := by rw [ByteArray.data_append]; simp
theorem trimP_any (s d : B8) (w : World) : Calls Tryz.prog 139 #[S8 s, .string (⟨d.toArray⟩ ++ ⟨#[47]⟩)] w fun e w' => e = .returned (S8 (Lib.trimPrefix s (d ++ [47]))) ∧ w' = w := by
 have h := Tryz.strings_TrimPrefix ⟨s.toArray⟩ ((⟨d.toArray⟩ : ByteArray) ++ ⟨([47] : B8).toArray⟩) w
 rw [str_app d [47]] at h
 exact h
theorem last_snoc {ss : List B8} {dir : B8} {k : Nat} {s : B8} (h : ss[k]? = some s) : lastL (ss.take (k + 1)) dir = lastL (ss.take k) dir ++ (if nameB (Lib.trimPrefix s (dir ++ [47])) = true then [Lib.trimPrefix s (dir ++ [47])] else []) := by
 obtain ⟨hlt, rfl⟩ := (List.getElem?_eq_some_iff.1 h)
 unfold lastL
 rw [List.take_succ_eq_append_getElem hlt, List.map_append, List.filter_append]
 by_cases hc : nameB (Lib.trimPrefix ss[k] (dir ++ [47])) = true
 ·rw [if_pos hc, List.map_cons, List.map_nil, List.filter_cons_of_pos hc, List.filter_nil]
 ·rw [if_neg hc, List.map_cons, List.map_nil, List.filter_cons_of_neg hc, List.filter_nil]
theorem last_len (ss : List B8) (dir : B8) : (lastL ss dir).length ≤ ss.length := by
 unfold lastL
 exact Nat.le_trans (List.length_filter_le _ _) (by simp)
theorem trim_len (s p : B8) : (Lib.trimPrefix s p).length ≤ s.length := by
 unfold Lib.trimPrefix
 split
 ·rw [List.length_drop]; omega
 ·exact Nat.le_refl _

set_option maxRecDepth 100000 in
set_option maxHeartbeats 2000000 in
theorem last_any {w : World} {v : Value} {ss : List B8} (dir : B8) (hv : IsStrs w v ss) (hs : ∀ s ∈ ss, s.length ≤ 1000000) (hd : dir.length ≤ 1000) (hl : ss.length ≤ 1000000) :
  Calls Tryz.prog 71 #[v, S8 dir] w fun e w' => (∃ v', e = .returned v' ∧ w'.ownsRow w.heap.size 9 1 v' (lastL ss dir).length ((lastL ss dir).map S8)) ∧ Ext w w' := by
 obtain ⟨a, cap, rfl, l1, l2, l3, -⟩ := hv.get
 have HV : Hid _ := hv
 have HS : Hid _ := hs
 clear hv hs
 go_enter Tryz.func71, Tryz.ntmps71
 go_wp2
 go_loopw [5, 11] (fun v i wr => ∃ (k n : Nat), k ≤ ss.length ∧ i = .int .i64 k ∧ Hid ((lastL (ss.take k) dir).length = n) ∧ wr.ownsRow w.heap.size 9 1 v n ((lastL (ss.take k) dir).map S8) ∧ Ext w wr) (fun _ i _ => ss.length - (intOf i).toNat)
 case atStart => exact ⟨0, 0, Nat.zero_le _, rfl, rfl, World.ownsRow_nil _ _ _ _, Ext.refl _⟩
 case round =>
  obtain ⟨k, n, hk, rfl, HN, hown, hx⟩ := hrel
  have hnk : n ≤ ss.length := by rw [← HN.out]; exact Nat.le_trans (last_len _ _) (List.length_take_le' _ _)
  by_cases hlt : k < ss.length
  ·obtain ⟨s, hse⟩ : ∃ s, ss[k]? = some s := ⟨_, List.getElem?_eq_getElem hlt⟩
   have hsl := HS.out s (List.mem_of_getElem? hse)
   obtain ⟨_, _, he, -, -, -, hg⟩ := (IsStrs.ext HV.out hx).get
   cases he
   obtain ⟨bb, oo, rfl, hc⟩ := hg k hlt
   have y1 := hc k hlt
   rw [show ss.getD k [] = s by rw [List.getD_eq_getElem?_getD, hse]; rfl] at y1
   obtain ⟨t, ht⟩ : ∃ t, Lib.trimPrefix s (dir ++ [47]) = t := ⟨_, rfl⟩
   have hsn := last_snoc (dir := dir) hse
   have htl := trim_len s (dir ++ [47])
   rw [ht] at hsn htl
   have HSN : Hid _ := hsn
   have HT : Hid _ := ht
   obtain ⟨nb, hnb⟩ : ∃ nb, nameB t = nb := ⟨_, rfl⟩
   have HNB : Hid _ := hnb
   clear hsn ht hnb hse hg hc
   go_wp2_with fail
   go_at_call 139
   refine Calls.mono (trimP_any s dir wr) ?_
   rw [HT.out]
   rintro e w3 ⟨rfl, rfl⟩
   go_wp2_with fail
   go_at_call 17
   refine (name_any t _ (by omega)).mono ?_
   rw [HNB.out]
   rintro e w4 ⟨rfl, rfl⟩
   have hsz := hx.size
   cases nb with
   | true =>
    go_wp2_with (at_builtin; go_must (refine app_str rfl _ _ rfl w.heap.size _ n _ rfl (hown.alloc _) w4.heap.size 1 1 [t] rfl rfl (alloc_at _ _) (by omega) (by simp; omega) ?_; intro v' w3 hown3 hg3))
    go_roundw
    case rel =>
     refine ⟨k + 1, n + 1, by omega, by go_num, ?_, ?_, owns_ext_app (hx.alloc _) (hown.alloc _) hg3⟩
     ·unfold Hid; rw [HSN.out, HNB.out, if_pos rfl, List.length_append, HN.out]; rfl
     ·rw [HSN.out, HNB.out, if_pos rfl]; exact hown3
    case measure => simp [intOf]; omega
   | false =>
    go_wp2
    go_roundw
    case rel => exact ⟨k + 1, n, by omega, by go_num, by unfold Hid; rw [HSN.out, HNB.out, if_neg (by simp), List.append_nil]; exact HN.out, by rw [HSN.out, HNB.out, if_neg (by simp), List.append_nil]; exact hown, hx⟩
    case measure => simp [intOf]; omega
  ·have hkk : k = ss.length := by omega
   subst hkk
   have hn := HN.out
   rw [List.take_length] at hown hn
   subst hn
   have HR : Hid _ := hown
   clear hown
   go_wp2
   go_ret
   exact ⟨⟨_, rfl, HR.out⟩, hx⟩

theorem list_short {m : Fs} {dir : B8} (h : OkM m) (hp : PlanOk m) : ∀ s ∈ (listM m dir).2.1, s.length ≤ 200 := by
 have hok := (call_left h hp).1.ok
 have hall : ∀ s ∈ pathsL (callM m).1.now, s.length ≤ 200 := fun s hs => by
  obtain ⟨e, he, rfl⟩ := List.mem_map.1 hs
  exact path_short (hok.dnow e he).1
 unfold listM
 intro s hs
 split at hs
 ·cases hs
 ·split at hs
  ·exact hall s hs
  ·split at hs
   ·cases hs
   ·exact hall s (List.mem_filter.1 hs).1
theorem list_len {m : Fs} {dir : B8} (h : OkM m) (hp : PlanOk m) (ht : m.time ≤ 700000) : (listM m dir).2.1.length ≤ 701000 := by
 have hl := (call_left h hp).1
 have hn := hl.ok.lnow
 have ht2 := hl.time
 have hall : (pathsL (callM m).1.now).length ≤ 701000 := by unfold pathsL; rw [List.length_map]; omega
 unfold listM
 split
 ·exact Nat.zero_le _
 ·split
  ·exact hall
  ·split
   ·exact Nat.zero_le _
   ·exact Nat.le_trans (List.length_filter_le _ _) hall

theorem env_lt' {w0 : World} (hE : Env w0) : 2 < w0.heap.size := by
 obtain ⟨m, hm⟩ := hE.maxl
 exact World.block_lt_of_cell? _ _ hm
theorem FsPost.fin {S O R : Nat → Prop} {w w' : World} {p : Value} {m m' : Fs} (h : FsIn S O R w p m) (hp : FsPost S O R w p m' w') {n : Nat} (hg : Good n m') (hn : n ≤ 1000) : FsIn S (Nw O w w') (Nw R w w') w' p m' := by
 have hs := hp.fr.size
 exact ⟨h.env.fr hp.fr h.noG, hp.fs, hg.ok, hg.plan, by have := hg.time; omega, by have := hg.calls; omega,
  fun k hk e => by
   rcases hk with hk | hk
   ·exact h.noG k hk e
   ·have := env_lt' h.env; omega,
  fun k hk => ⟨fun ho => by
   rcases ho with ho | ho
   ·exact (h.apart k hk).1 ho
   ·have := (h.apart k hk).2; omega, by have := (h.apart k hk).2; omega⟩,
  fun k hk => by
   rcases hk with hk | hk
   ·have := h.low k hk; omega
   ·exact hk.2, hg.room0, hg.room1⟩

end Go.Proofs.YtfimfbdlegookaaGreatDoor

/-! refs: Delete, Set, Unlock. Conditions: as each theorem states. -/
namespace Go.Proofs.YtfimfbdlegookaaGreatDoor
open Go Go.RowKit

/-- A file system behind some calls of a walk that began in w. -/
structure At (S O R : Nat → Prop) (w : World) (p : Value) (m : Fs) (n : Nat) (w1 : World) : Prop where
 first : ∃ m0, FsIn S O R w p m0
 fin : FsIn S (Nw O w w1) (Nw R w w1) w1 p m
 post : FsPost S O R w p m w1
 good : Good n m
theorem At.start {S O R : Nat → Prop} {w : World} {p : Value} {m : Fs} {n : Nat} (h : FsIn S O R w p m) (hg : Good n m) (hn : n ≤ 1000) : At S O R w p m n w :=
 ⟨⟨_, h⟩, FsPost.fin h (FsPost.same h.fs (Ext.refl _)) hg hn, FsPost.same h.fs (Ext.refl _), hg⟩
theorem At.next {S O R : Nat → Prop} {w w1 w2 : World} {p : Value} {m m' : Fs} {n n' : Nat} (h : At S O R w p m n w1) (hp : FsPost S (Nw O w w1) (Nw R w w1) w1 p m' w2) (hg : Good n' m') (hn : n' ≤ 1000) : At S O R w p m' n' w2 := by
 obtain ⟨m0, h0⟩ := h.first
 exact ⟨⟨m0, h0⟩, FsPost.fin h0 (h.post.trans hp) hg hn, h.post.trans hp, hg⟩
theorem At.more {S O R : Nat → Prop} {w w1 w2 : World} {p : Value} {m : Fs} {n : Nat} (h : At S O R w p m n w1) (hx : Ext w1 w2) (hn : n ≤ 1000) : At S O R w p m n w2 := h.next (FsPost.same h.fin.fs hx) h.good hn

theorem lock_len {name : B8} (h : nameB name = true) : (lockP name).length ≤ 400 ∧ (placeP name).length ≤ 400 ∧ name.length ≤ 64 := by
 have hnl : name.length ≤ 64 := by
  unfold nameB at h
  simp only [Bool.and_eq_true, decide_eq_true_eq] at h
  exact h.2.2.1
 unfold lockP placeP
 simp
 omega

set_option maxRecDepth 100000 in
set_option maxHeartbeats 4000000 in
theorem delete_any {S O R : Nat → Prop} {w : World} {p : Value} {m : Fs} {n : Nat} (name old : B8) (h : FsIn S O R w p m) (hg : Good n m) (hn : n ≤ 990) (hnl : name.length ≤ 1000000) (hol : old.length ≤ 1000000) :
  Calls Tryz.prog 21 #[p, S8 name, S8 old] w fun e w' => e = .returned (.int .i64 (deleteM m name old).2) ∧ FsPost S O R w p (deleteM m name old).1 w' := by
 have HA0 : Hid _ := At.start h hg (by omega)
 clear h hg
 obtain ⟨nb, hnb⟩ : ∃ nb, nameB name = nb := ⟨_, rfl⟩
 have HNB : Hid _ := hnb
 clear hnb
 go_enter Tryz.func21, Tryz.ntmps21
 go_wp2_with fail
 go_at_call 17
 refine (name_any name _ (by omega)).mono ?_
 rw [HNB.out]
 rintro e w1 ⟨rfl, rfl⟩
 cases nb with
 | false =>
  have HM : Hid (deleteM m name old = (m, 6)) := by unfold Hid deleteM; rw [HNB.out]; rfl
  go_wp2
  go_ret
  rw [HM.out]
  exact ⟨rfl, HA0.out.post⟩
 | true =>
  have hlen := lock_len HNB.out
  obtain ⟨vb, hvb⟩ : ∃ vb, validB old = vb := ⟨_, rfl⟩
  have HVB : Hid _ := hvb
  clear hvb
  go_wp2_with fail
  go_at_call 14
  refine (valid_any old _ (by omega)).mono ?_
  rw [HVB.out]
  rintro e w2 ⟨rfl, hx2⟩
  have HA2 : Hid _ := At.more HA0.out hx2 (by omega)
  clear hx2
  cases vb with
  | false =>
   have HM : Hid (deleteM m name old = (m, 1)) := by unfold Hid deleteM; rw [HNB.out, if_neg (by simp), HVB.out]; rfl
   go_wp2
   go_ret
   rw [HM.out]
   exact ⟨rfl, HA2.out.post⟩
  | true =>
   have HM : Hid (deleteM m name old = if (readM m (placeP name)).2.2 ≠ 0 then ((readM m (placeP name)).1, (readM m (placeP name)).2.2)
     else if (readM m (placeP name)).2.1.data ≠ lineM old then ((readM m (placeP name)).1, 13)
     else if (removeM (readM m (placeP name)).1 (placeP name)).2 ≠ 0 then removeM (readM m (placeP name)).1 (placeP name)
     else syncM (removeM (readM m (placeP name)).1 (placeP name)).1) := by unfold Hid deleteM; rw [HNB.out, if_neg (by simp), HVB.out, if_neg (by simp)]
   have HR : Hid _ := read_any (placeP name) HA2.out.fin hlen.2.1
   have HG1 : Hid _ := good_read HA2.out.good (placeP name)
   obtain ⟨⟨m1, fx, er⟩, hrd⟩ : ∃ q, readM m (placeP name) = q := ⟨_, rfl⟩
   rw [hrd] at HR HM HG1
   clear hrd
   go_wp2_with fail
   go_at_call 65
   refine (place_any name _ (by omega)).mono ?_
   rintro e w0 ⟨rfl, rfl⟩
   go_wp2_with fail
   go_at_call 68
   refine Calls.mono HR.out ?_
   rintro e w3 ⟨⟨v, rfl, hd⟩, hp3⟩
   try dsimp only at hd hp3
   obtain ⟨s1, t1, rfl, -⟩ := id hd.bytes
   try dsimp only
   go_upto_region 6 with fail
   obtain ⟨w4, hw4⟩ : ∃ wq, wq = w3.alloc (.cells #[.int .i64 fx.mode, .slice s1 fx.data.length t1, .int .i64 fx.time] 76) := ⟨_, rfl⟩
   rw [← hw4]
   have hx4 : Ext w3 w4 := by rw [hw4]; exact (Ext.refl _).alloc _
   have hb4 : w4.heap[w3.heap.size]? = some (.cells #[.int .i64 fx.mode, .slice s1 fx.data.length t1, .int .i64 fx.time] 76 (0, 0)) := by rw [hw4]; exact alloc_at _ _
   have HA4 : Hid _ := At.more (At.next HA2.out hp3 HG1.out (by omega)) hx4 (by omega)
   have HD : Hid (IsBytes w4 (.slice s1 fx.data.length t1) fx.data) := (IsData.ext hd hx4).bytes
   obtain ⟨c0, c1, c2⟩ := cellsAt3 hb4
   clear hw4 hb4 hd hp3 HR hx4
   by_cases h0 : er = 0
   case neg =>
    have b0 : (er != 0) = true := by simpa using h0
    have HM2 : Hid (deleteM m name old = (m1, er)) := by unfold Hid; rw [HM.out]; exact if_pos h0
    clear h0
    go_wp2
    go_ret
    rw [HM2.out]
    exact ⟨rfl, HA4.out.post⟩
   subst h0
   obtain ⟨bq, hbq⟩ : ∃ bq, (fx.data == lineM old) = bq := ⟨_, rfl⟩
   have HBQ : Hid _ := hbq
   clear hbq
   go_wp2_with fail
   apply wp_region_mix 6 [_, .slice s1 fx.data.length t1, S8 fx.data, _, S8 (lineM old), .bool (!bq)] [none, none, none, none, none, none] [[], [0], [1], [], [3], [2, 4]] (by kernel_rfl) (by kernel_rfl) (by simp [mixV])
   ·trivial
   ·simp (maxSteps := 1000000) only [List.take_succ_cons, List.take_zero, oblFrom, stepObl, fillFrom, Act.put, List.setIfInBounds_toArray, List.set_cons_zero, List.set_cons_succ, knows, getV, mixV, List.getD_cons_zero, List.getD_cons_succ, and_true, true_and, forall_const]
    refine ⟨?_, ?_, ?_, ?_, ?_, ?_⟩
    ·intro xs wq hq R hR
     have f1 := hq.cell c1
     go_simp
     exact hR _ _ (Ext.refl _) rfl
    ·intro xs wq hq hk R hR
     have f1 := hq.cell c1
     go_simp
     exact hR _ _ (Ext.refl _) rfl
    ·intro xs wq hq hk R hR
     have hcv := conv_bytes (IsBytes.ext HD.out hq)
     go_simp
     exact hR _ _ (Ext.refl _) rfl
    ·intro xs wq hq R hR
     have f1 := hq.cell c1
     go_simp
     exact hR _ _ (Ext.refl _) rfl
    ·intro xs wq hq hk R hR
     go_simp
     exact (line_any old _ hol).mono (by rintro e' w4 ⟨rfl, rfl⟩; exact ⟨_, rfl, hR _ _ (Ext.refl _) rfl⟩)
    ·intro xs wq hq hk R hR
     obtain ⟨hk0, hk1⟩ := hk
     have hb := HBQ.out
     go_simp
     exact hR _ _ (Ext.refl _) rfl
   intro xs w5 hx5 hk
   simp only [heldV, Nat.zero_add, Nat.reduceAdd, and_true] at hk
   obtain ⟨q0, q1, q2, q3, q4, q5⟩ := hk
   simp (maxSteps := 1000000) only [List.take_succ_cons, List.take_zero, List.drop_succ_cons, List.drop_zero, fillFrom, Act.put, List.setIfInBounds_toArray, List.set_cons_zero, List.set_cons_succ, Nat.zero_add, Nat.reduceAdd, q0, q1, q2, q3, q4, q5]
   clear q0 q1 q2 q3 q4 q5
   have HA5 : Hid _ := At.more HA4.out hx5 (by omega)
   clear hx5 c0 c1 c2
   cases bq with
   | false =>
    have HM2 : Hid (deleteM m name old = (m1, 13)) := by
     have hne : fx.data ≠ lineM old := by have := HBQ.out; simpa using this
     unfold Hid; rw [HM.out]
     try dsimp only
     rw [if_neg (by simp), if_pos hne]
    go_wp2
    go_ret
    rw [HM2.out]
    exact ⟨rfl, HA5.out.post⟩
   | true =>
    have HM2 : Hid (deleteM m name old = if (removeM m1 (placeP name)).2 ≠ 0 then removeM m1 (placeP name) else syncM (removeM m1 (placeP name)).1) := by
     have hne : fx.data = lineM old := by have := HBQ.out; simpa using this
     unfold Hid; rw [HM.out]
     try dsimp only
     rw [if_neg (by simp), if_neg (by simpa using hne)]
    have HR : Hid _ := remove_any (placeP name) HA5.out.fin hlen.2.1
    have HG2 : Hid _ := good_remove HA5.out.good (placeP name)
    obtain ⟨⟨m2, e2⟩, hrd⟩ : ∃ q, removeM m1 (placeP name) = q := ⟨_, rfl⟩
    rw [hrd] at HR HM2 HG2
    clear hrd
    go_wp2_with fail
    go_at_call 65
    refine (place_any name _ (by omega)).mono ?_
    rintro e w0 ⟨rfl, rfl⟩
    go_wp2_with fail
    go_at_call 63
    refine Calls.mono HR.out ?_
    rintro e w6 ⟨rfl, h6⟩
    have HA6 : Hid _ := At.next HA5.out h6 HG2.out (by omega)
    clear h6 HR
    try dsimp only
    by_cases h0 : e2 = 0
    case neg =>
     have b0 : (e2 != 0) = true := by simpa using h0
     have HM3 : Hid (deleteM m name old = (m2, e2)) := by unfold Hid; rw [HM2.out]; exact if_pos h0
     clear h0
     go_wp2
     go_ret
     rw [HM3.out]
     exact ⟨rfl, HA6.out.post⟩
    subst h0
    have HM3 : Hid (deleteM m name old = syncM m2) := by unfold Hid; rw [HM2.out]; exact if_neg (by simp)
    have HG3 : Hid _ := good_sync HA6.out.good
    go_wp2_with fail
    go_at_call 62
    refine (sync_any HA6.out.fin).mono ?_
    rintro e w7 ⟨rfl, h7⟩
    have HA7 : Hid _ := At.next HA6.out h7 HG3.out (by omega)
    clear h7
    go_wp2
    go_ret
    rw [HM3.out]
    exact ⟨rfl, HA7.out.post⟩

end Go.Proofs.YtfimfbdlegookaaGreatDoor

/-! refs.Set. Conditions: as each theorem states. -/
namespace Go.Proofs.YtfimfbdlegookaaGreatDoor
open Go Go.RowKit

theorem typ_out {Q : Nat → Prop} {w : World} {b : Value} (ht : TypB w b) : Out Q w b := fun a n c he _ => .inr (ht a n c he)

set_option maxRecDepth 100000 in
set_option maxHeartbeats 8000000 in
theorem set_any {S O R : Nat → Prop} {w : World} {p : Value} {m : Fs} {n : Nat} (name old next : B8) (h : FsIn S O R w p m) (hg : Good n m) (hn : n ≤ 990) (hnl : name.length ≤ 1000000) (hol : old.length ≤ 1000000) (hxl : next.length ≤ 1000000) :
  Calls Tryz.prog 15 #[p, S8 name, S8 old, S8 next] w fun e w' => e = .returned (.int .i64 (setM m name old next).2) ∧ FsPost S O R w p (setM m name old next).1 w' := by
 have HA0 : Hid _ := At.start h hg (by omega)
 clear h hg
 obtain ⟨nb, hnb⟩ : ∃ nb, nameB name = nb := ⟨_, rfl⟩
 have HNB : Hid _ := hnb
 clear hnb
 go_enter Tryz.func15, Tryz.ntmps15
 go_wp2_with fail
 go_at_call 17
 refine (name_any name _ (by omega)).mono ?_
 rw [HNB.out]
 rintro e w1 ⟨rfl, rfl⟩
 cases nb with
 | false =>
  have HM : Hid (setM m name old next = (m, 6)) := by unfold Hid setM; rw [HNB.out]; rfl
  go_wp2
  go_ret
  rw [HM.out]
  exact ⟨rfl, HA0.out.post⟩
 | true =>
  have hlen := lock_len HNB.out
  obtain ⟨vb, hvb⟩ : ∃ vb, validB next = vb := ⟨_, rfl⟩
  have HVB : Hid _ := hvb
  clear hvb
  go_wp2_with fail
  go_at_call 14
  refine (valid_any next _ (by omega)).mono ?_
  rw [HVB.out]
  rintro e w2 ⟨rfl, hx2⟩
  have HA2 : Hid _ := At.more HA0.out hx2 (by omega)
  clear hx2
  cases vb with
  | false =>
   have HM : Hid (setM m name old next = (m, 1)) := by unfold Hid setM; rw [HNB.out, if_neg (by simp), if_pos (.inl HVB.out)]
   go_wp2
   go_ret
   rw [HM.out]
   exact ⟨rfl, HA2.out.post⟩
  | true =>
   obtain ⟨vo, hvo⟩ : ∃ vo, validB old = vo := ⟨_, rfl⟩
   have HVO : Hid _ := hvo
   clear hvo
   by_cases hbad : (old == ([] : B8)) = false ∧ vo = false
   case pos =>
    obtain ⟨hob, rfl⟩ := hbad
    have hob2 : (old != ([] : B8)) = true := by unfold bne; rw [hob]; rfl
    have HM : Hid (setM m name old next = (m, 1)) := by
     have hne : old ≠ [] := by simpa using hob
     unfold Hid setM; rw [HNB.out, if_neg (by simp), if_pos (.inr ⟨hne, HVO.out⟩)]
    go_wp2_with fail
    go_at_call 14
    refine (valid_any old _ (by omega)).mono ?_
    rw [HVO.out]
    rintro e w3 ⟨rfl, hx3⟩
    go_wp2
    go_ret
    rw [HM.out]
    exact ⟨rfl, FsPost.ext HA2.out.post hx3⟩
   have HM : Hid (setM m name old next = if (createM m (lockP name) 1 (lineM next)).2 ≠ 0 then ((createM m (lockP name) 1 (lineM next)).1, if (createM m (lockP name) 1 (lineM next)).2 = 8 then 13 else (createM m (lockP name) 1 (lineM next)).2)
     else setMid (expectM (createM m (lockP name) 1 (lineM next)).1 name old) name) := by
    unfold Hid setM
    rw [HNB.out, if_neg (by simp), if_neg ?_]
    rintro (h | ⟨h1, h2⟩)
    ·rw [HVB.out] at h; cases h
    ·exact hbad ⟨by simpa using h1, HVO.out.symm.trans h2⟩
   have HCR : Hid (∀ w3 w4 v4, Ext w2 w3 → Ext w3 w4 → IsBytes w4 v4 (lineM next) → TypB w4 v4 → Calls Tryz.prog 59 #[p, S8 (lockP name), .int .i64 1, v4] w4 fun e w' => e = .returned (.int .i64 (createM m (lockP name) 1 (lineM next)).2) ∧ At S O R w1 p (createM m (lockP name) 1 (lineM next)).1 (n + 1) w') := fun w3 w4 v4 hx3 hx4 hb ht =>
    (create_any (lockP name) 1 v4 (lineM next) (At.more (At.more HA2.out hx3 (by omega)) hx4 (by omega)).fin hlen.1 hb (typ_out ht)).mono (fun e w' ⟨he, hp⟩ => ⟨he, At.next (n' := n + 1) (At.more (At.more HA2.out hx3 (by omega)) hx4 (by omega)) hp (good_create HA2.out.good _ _ _) (by omega)⟩)
   obtain ⟨⟨m1, e1⟩, hrd⟩ : ∃ q, createM m (lockP name) 1 (lineM next) = q := ⟨_, rfl⟩
   rw [hrd] at HM HCR
   clear hrd
   have hll : (lineM next).length ≤ 1000000 := by
    have := (valid_len HVB.out).1
    unfold lineM
    rw [List.length_append, this]
    decide
   obtain ⟨ob, hob⟩ : ∃ ob, (old == ([] : B8)) = ob := ⟨_, rfl⟩
   have hob2 : (old != ([] : B8)) = !ob := by unfold bne; rw [hob]
   rw [hob] at hbad
   have go_no : True := trivial
   cases ob
   case' false =>
    have hvt : vo = true := by
     cases vo with
     | true => rfl
     | false => exact (hbad ⟨rfl, rfl⟩).elim
    subst hvt
    go_wp2_with fail
    go_at_call 14
    refine (valid_any old _ (by omega)).mono ?_
    rw [HVO.out]
    rintro e w3 ⟨rfl, hx3⟩
    have HX3 : Hid _ := hx3
    clear hx3
    go_wp2_with fail
   case' true =>
    obtain ⟨w3, hw3⟩ : ∃ w3, w3 = w2 := ⟨_, rfl⟩
    have HX3 : Hid (Ext w2 w3) := by rw [hw3]; exact Ext.refl _
    go_wp2_with fail
    rw [← hw3]
    clear hw3
   all_goals
    go_at_call 60
    refine (line_any next _ hxl).mono ?_
    rintro e w3b ⟨rfl, rfl⟩
    obtain ⟨v4, w4, hcv, hx4, hb4, ht4, s4, t4, rfl⟩ := str_bytes w3b (lineM next) hll
    have HX4 : Hid _ := hx4
    have HB4 : Hid _ := hb4
    have HT4 : Hid _ := ht4
    clear hx4 hb4 ht4 hbad hob hob2
    go_wp2_with fail
    clear hcv
    go_at_call 59
    refine Calls.mono (HCR.out _ _ _ HX3.out HX4.out HB4.out HT4.out) ?_
    rintro e w5 ⟨rfl, h5⟩
    have HA5 : Hid _ := h5
    clear h5
    try dsimp only
    by_cases h0 : e1 = 0
    case neg =>
     have b0 : (e1 != 0) = true := by simpa using h0
     by_cases h8 : e1 = 8
     ·subst h8
      have HM2 : Hid (setM m name old next = (m1, 13)) := by unfold Hid; rw [HM.out]; rfl
      clear h0 b0
      go_wp2
      go_ret
      rw [HM2.out]
      exact ⟨rfl, HA5.out.post⟩
     ·have b8 : (e1 == 8) = false := by simpa using h8
      have HM2 : Hid (setM m name old next = (m1, e1)) := by unfold Hid; rw [HM.out, if_pos h0, if_neg h8]
      clear h0 h8
      go_wp2
      go_ret
      rw [HM2.out]
      exact ⟨rfl, HA5.out.post⟩
    subst h0
    have HM2 : Hid (setM m name old next = setMid (expectM m1 name old) name) := by unfold Hid; rw [HM.out]; exact if_neg (by simp)
    have HEX : Hid _ := expected_any name old HA5.out.fin (by omega) hol
    have HG6 : Hid (Good (n + 2) (expectM m1 name old).1) := good_read HA5.out.good _
    obtain ⟨⟨m2, e2⟩, hrd⟩ : ∃ q, expectM m1 name old = q := ⟨_, rfl⟩
    rw [hrd] at HEX HM2 HG6
    clear hrd HM HCR
    go_wp2_with fail
    go_at_call 61
    refine Calls.mono HEX.out ?_
    rintro e w6 ⟨rfl, h6⟩
    have HA6 : Hid _ := At.next HA5.out h6 HG6.out (by omega)
    clear h6 HEX
    try dsimp only
    by_cases h0 : e2 = 0
    case neg =>
     have b0 : (e2 == 0) = false := by simpa using h0
     have b1 : (e2 != 0) = true := by simpa using h0
     have HM3 : Hid (setM m name old next = ((removeM m2 (lockP name)).1, e2)) := by
      unfold Hid; rw [HM2.out]; unfold setMid; simp only [if_neg h0]; exact if_pos h0
     have HG7 : Hid _ := good_remove HA6.out.good (lockP name)
     clear h0
     go_wp2_with fail
     go_at_call 63
     refine (remove_any (lockP name) HA6.out.fin hlen.1).mono ?_
     rintro e w7 ⟨rfl, h7⟩
     have HA7 : Hid _ := At.next HA6.out h7 HG7.out (by omega)
     clear h7
     go_wp2
     go_ret
     rw [HM3.out]
     exact ⟨rfl, HA7.out.post⟩
    subst h0
    have HG7 : Hid _ := good_sync HA6.out.good
    have HSY : Hid _ := sync_any HA6.out.fin
    have HM3 : Hid (setM m name old next = if (syncM m2).2 ≠ 0 then ((removeM (syncM m2).1 (lockP name)).1, (syncM m2).2) else setEnd (syncM m2).1 name) := by
     unfold Hid; rw [HM2.out]; unfold setMid; simp only [if_true]
    obtain ⟨⟨m3, e3⟩, hrd⟩ : ∃ q, syncM m2 = q := ⟨_, rfl⟩
    rw [hrd] at HSY HM3 HG7
    clear hrd HM2
    go_wp2_with fail
    go_at_call 62
    refine Calls.mono HSY.out ?_
    rintro e w7 ⟨rfl, h7⟩
    have HA7 : Hid _ := At.next HA6.out h7 HG7.out (by omega)
    clear h7 HSY
    try dsimp only
    by_cases h0 : e3 = 0
    case neg =>
     have b1 : (e3 != 0) = true := by simpa using h0
     have HM4 : Hid (setM m name old next = ((removeM m3 (lockP name)).1, e3)) := by
      unfold Hid; rw [HM3.out]; exact if_pos h0
     have HG8 : Hid _ := good_remove HA7.out.good (lockP name)
     clear h0
     go_wp2_with fail
     go_at_call 63
     refine (remove_any (lockP name) HA7.out.fin hlen.1).mono ?_
     rintro e w8 ⟨rfl, h8⟩
     have HA8 : Hid _ := At.next HA7.out h8 HG8.out (by omega)
     clear h8
     go_wp2
     go_ret
     rw [HM4.out]
     exact ⟨rfl, HA8.out.post⟩
    subst h0
    have HG8 : Hid _ := good_move HA7.out.good (lockP name) (placeP name) false
    have HMV : Hid _ := move_any (lockP name) (placeP name) HA7.out.fin hlen.1 hlen.2.1
    have HM4 : Hid (setM m name old next = if (moveM m3 (lockP name) (placeP name) false).2 ≠ 0 then moveM m3 (lockP name) (placeP name) false else syncM (moveM m3 (lockP name) (placeP name) false).1) := by
     unfold Hid; rw [HM3.out]; rfl
    obtain ⟨⟨m4, e4⟩, hrd⟩ : ∃ q, moveM m3 (lockP name) (placeP name) false = q := ⟨_, rfl⟩
    rw [hrd] at HMV HM4 HG8
    clear hrd HM3
    go_wp2_with fail
    go_at_call 65
    refine (place_any name _ (by omega)).mono ?_
    rintro e w7b ⟨rfl, rfl⟩
    go_wp2_with fail
    go_at_call 64
    refine Calls.mono HMV.out ?_
    rintro e w8 ⟨rfl, h8⟩
    have HA8 : Hid _ := At.next HA7.out h8 HG8.out (by omega)
    clear h8 HMV
    try dsimp only
    by_cases h0 : e4 = 0
    case neg =>
     have b1 : (e4 != 0) = true := by simpa using h0
     have HM5 : Hid (setM m name old next = (m4, e4)) := by unfold Hid; rw [HM4.out]; exact if_pos h0
     clear h0
     go_wp2
     go_ret
     rw [HM5.out]
     exact ⟨rfl, HA8.out.post⟩
    subst h0
    have HM5 : Hid (setM m name old next = syncM m4) := by unfold Hid; rw [HM4.out]; exact if_neg (by simp)
    have HG9 : Hid _ := good_sync HA8.out.good
    go_wp2_with fail
    go_at_call 62
    refine (sync_any HA8.out.fin).mono ?_
    rintro e w9 ⟨rfl, h9⟩
    have HA9 : Hid _ := At.next HA8.out h9 HG9.out (by omega)
    clear h9
    go_wp2
    go_ret
    rw [HM5.out]
    exact ⟨rfl, HA9.out.post⟩

end Go.Proofs.YtfimfbdlegookaaGreatDoor

/-! refs.Unlock. Conditions: as each theorem states. -/
namespace Go.Proofs.YtfimfbdlegookaaGreatDoor
open Go Go.RowKit

/-- What a call asks of a file system's numbers. -/
structure Fit (m : Fs) : Prop where
 ok : OkM m
 plan : PlanOk m
 time : m.time ≤ 500000
 calls : m.calls ≤ 900000
 room0 : 0 ≤ m.room
 room1 : m.room ≤ 1073741824
theorem Good.fit {n : Nat} {m : Fs} (h : Good n m) (hn : n ≤ 1000) : Fit m := ⟨h.ok, h.plan, by have := h.time; omega, by have := h.calls; omega, h.room0, h.room1⟩
/-- .. behind each of some removals. -/
def FitAll : Fs → List B8 → Prop
 | m, [] => Fit m
 | m, n :: l => Fit m ∧ FitAll (removeM m (lockP n)).1 l
theorem FitAll.head {m : Fs} {l : List B8} (h : FitAll m l) : Fit m := by
 cases l with
 | nil => exact h
 | cons x l => exact h.1
/-- A file system behind some steps of a walk: which blocks are its own is kept apart. -/
structure Thru (S O R : Nat → Prop) (w : World) (p : Value) (m : Fs) (O1 R1 : Nat → Prop) (w1 : World) : Prop where
 fin : FsIn S O1 R1 w1 p m
 fr : Fr O w w1
 sub : ∀ k, O1 k → Nw O w w1 k
 subR : ∀ k, R1 k → Nw R w w1 k
section
variable {S O R O1 R1 : Nat → Prop} {w w1 w2 : World} {p : Value} {m m' : Fs}
theorem Thru.start (h : FsIn S O R w p m) : Thru S O R w p m O R w := ⟨h, Fr.refl _ _, fun _ hk => .inl hk, fun _ hk => .inl hk⟩
theorem Thru.more (h : Thru S O R w p m O1 R1 w1) (hx : Ext w1 w2) : Thru S O R w p m O1 R1 w2 := by
 have hs := hx.size
 have hf := h.fin
 exact ⟨⟨hf.env.ext hx, hf.fs.ext hx, hf.ok, hf.plan, hf.time, hf.calls, hf.noG, fun k hk => ⟨(hf.apart k hk).1, by have := (hf.apart k hk).2; omega⟩, fun k hk => by have := hf.low k hk; omega, hf.room0, hf.room1⟩,
  h.fr.trans (Fr.of_ext hx), fun k hk => (h.sub k hk).fst hs, fun k hk => (h.subR k hk).fst hs⟩
theorem Thru.post (h : Thru S O R w p m O1 R1 w1) (hp : FsPost S O1 R1 w1 p m' w2) (hf : Fit m') : Thru S O R w p m' (Nw O1 w1 w2) (Nw R1 w1 w2) w2 := by
 have hs := hp.fr.size
 have hs0 := h.fr.size
 have hi := h.fin
 refine ⟨⟨hi.env.fr hp.fr hi.noG, hp.fs, hf.ok, hf.plan, (by have := hf.time; omega), hf.calls, ?_, ?_, ?_, hf.room0, hf.room1⟩, h.fr.trans (hp.fr.mono h.sub), ?_, ?_⟩
 ·intro k hk e
  rcases hk with hk | hk
  ·exact hi.noG k hk e
  ·have := env_lt' hi.env; omega
 ·intro k hk
  refine ⟨fun ho => ?_, by have := (hi.apart k hk).2; omega⟩
  rcases ho with ho | ho
  ·exact (hi.apart k hk).1 ho
  ·have := (hi.apart k hk).2; omega
 ·intro k hk
  rcases hk with hk | hk
  ·have := hi.low k hk; omega
  ·exact hk.2
 ·intro k hk
  exact Nw.nw hs0 hs (hk.imp (h.sub k) id)
 ·intro k hk
  exact Nw.nw hs0 hs (hk.imp (h.subR k) id)
theorem Thru.out (h : Thru S O R w p m O1 R1 w1) : FsPost S O R w p m w1 := ⟨h.fin.fs.mono h.sub h.subR, h.fr⟩
/-- Texts of the call's own, apart from a file system's blocks. -/
structure RowOut (O : Nat → Prop) (w : World) (v : Value) (ss : List B8) : Prop where
 row : IsStrs w v ss
 out : ∀ k, v.ownBlock = some k → ¬ O k ∧ k < w.heap.size
theorem RowOut.post {v : Value} {ss : List B8} (h : RowOut O1 w1 v ss) (hf : Fr O1 w1 w2) : RowOut (Nw O1 w1 w2) w2 v ss := by
 have hs := hf.size
 refine ⟨Row.stay h.row (fun k hk => hf.block k (h.out k hk).2 (.inl (h.out k hk).1)), fun k hk => ⟨fun ho => ?_, by have := (h.out k hk).2; omega⟩⟩
 rcases ho with ho | ho
 ·exact (h.out k hk).1 ho
 ·have := (h.out k hk).2; omega
end

set_option maxRecDepth 100000 in
set_option maxHeartbeats 4000000 in
theorem unlock_any {S O R : Nat → Prop} {w : World} {p : Value} {m : Fs} (h : FsIn S O R w p m) (hf : Fit (listM m lockD).1) (hd : (listM m lockD).2.2 = 0 → FitAll (listM m lockD).1 (lastL (listM m lockD).2.1 lockD)) :
  Calls Tryz.prog 19 #[p] w fun e w' => e = .returned (.tuple #[.int .i64 (unlockM m).2.1, .int .i64 (unlockM m).2.2]) ∧ FsPost S O R w p (unlockM m).1 w' := by
 have HS : Hid _ := list_short (dir := lockD) h.ok h.plan
 have HL : Hid _ := list_len (dir := lockD) h.ok h.plan h.time
 have HR : Hid _ := list_any lockD h (by decide)
 have HT0 : Hid _ := Thru.start h
 obtain ⟨U, hU⟩ : ∃ U, unlockM m = U := ⟨_, rfl⟩
 have hU2 := hU
 rw [hU]
 unfold unlockM at hU2
 have HF : Hid _ := hf
 have HD : Hid _ := hd
 obtain ⟨⟨m1, ls, er⟩, hrd⟩ : ∃ q, listM m lockD = q := ⟨_, rfl⟩
 rw [hrd] at HR HS HL hU2 HF HD
 have HU : Hid _ := hU2
 clear hrd h hU hU2 hf hd
 go_enter Tryz.func19, Tryz.ntmps19
 go_wp2_with fail
 go_at_call 70
 refine Calls.mono HR.out ?_
 rintro e w1 ⟨⟨v, rfl, hv, -⟩, hp1⟩
 have hls : ls.length ≤ 701000 := HL.out
 have hv' : IsStrs w1 v ls := hv
 have HV : Hid _ := hv'
 have HT1 : Hid (Thru S O R w p m1 (Nw O w w1) (Nw R w w1) w1) := Thru.post HT0.out hp1 HF.out
 clear hv hv' hp1 HR HT0
 by_cases h0 : er = 0
 case neg =>
  have b1 : (er != 0) = true := by simpa using h0
  have HU2 : Hid ((m1, (0 : Int), er) = U) := by
   have h9 := HU.out
   rw [if_pos h0] at h9
   exact h9
  clear h0 HU
  go_wp2
  go_ret2
  rw [← HU2.out]
  exact ⟨rfl, HT1.out.out⟩
 subst h0
 have HU2 : Hid ((if (dropsM m1 (lastL ls lockD)).2 ≠ 0 then ((dropsM m1 (lastL ls lockD)).1, (0 : Int), (dropsM m1 (lastL ls lockD)).2) else ((dropsM m1 (lastL ls lockD)).1, ((lastL ls lockD).length : Int), 0)) = U) := by
  have h9 := HU.out
  rw [if_neg (by simp)] at h9
  exact h9
 have HD1 : Hid (FitAll m1 (lastL ls lockD)) := HD.out rfl
 clear HU HD
 go_wp2_with fail
 go_at_call 71
 refine (last_any lockD HV.out (fun s hs => Nat.le_trans (HS.out s hs) (by omega)) (by decide) (by omega)).mono ?_
 rintro e w2 ⟨⟨v2, rfl, ho⟩, hx2⟩
 have hll := last_len ls lockD
 have hsh : ∀ n ∈ lastL ls lockD, nameB n = true := fun n hn => (List.mem_filter.1 hn).2
 obtain ⟨L, hL⟩ : ∃ L, lastL ls lockD = L := ⟨_, rfl⟩
 rw [hL] at ho hll HU2 HD1 hsh
 have HSH : Hid _ := hsh
 have hLn : L.length ≤ 701000 := by omega
 have HT2 : Hid (Thru S O R w p m1 (Nw O w w1) (Nw R w w1) w2) := Thru.more HT1.out hx2
 have hr2 : IsStrs w2 v2 L := Row.of_owns ho (by omega)
 have HR2 : Hid (RowOut (Nw O w w1) w2 v2 L) := by
  refine ⟨hr2, fun k hk => ?_⟩
  have h1 := ho.lt k hk
  refine ⟨fun hno => ?_, h1.2⟩
  have := HT1.out.fin.low k hno
  omega
 obtain ⟨sa, sc, rfl, -⟩ := hr2.get
 clear ho hx2 hr2 hL HV HS HL hls hll HT1 hsh
 go_wp2_with fail
 go_loopw [21] (fun i wr => ∃ (k : Nat) (mk : Fs) (Ok Rk : Nat → Prop), k ≤ L.length ∧ i = .int .i64 k ∧ Hid (dropsM m1 L = dropsM mk (L.drop k)) ∧ Hid (FitAll mk (L.drop k)) ∧ Thru S O R w p mk Ok Rk wr ∧ RowOut Ok wr (.slice sa L.length sc) L) (fun i _ => L.length - (intOf i).toNat)
 case atStart => exact ⟨0, m1, _, _, Nat.zero_le _, rfl, rfl, HD1.out, HT2.out, HR2.out⟩
 case round =>
  obtain ⟨k, mk, Ok, Rk, hk, rfl, HDR, HFA, hth, hro⟩ := hrel
  have HTH : Hid (Thru S O R w p mk Ok Rk wr) := hth
  have HRO : Hid (RowOut Ok wr (.slice sa L.length sc) L) := hro
  clear hth hro
  by_cases hlt : k < L.length
  ·obtain ⟨s, hse⟩ : ∃ s, L[k]? = some s := ⟨_, List.getElem?_eq_getElem hlt⟩
   obtain ⟨_, _, he, -, -, -, hg⟩ := HRO.out.row.get
   cases he
   obtain ⟨bb, oo, rfl, hc⟩ := hg k hlt
   have y1 := hc k hlt
   rw [show L.getD k [] = s by rw [List.getD_eq_getElem?_getD, hse]; rfl] at y1
   have hsn := HSH.out s (List.mem_of_getElem? hse)
   have hsl := lock_len hsn
   have hs64 := hsl.2.2
   have hdk : L.drop k = s :: L.drop (k + 1) := by
    rw [List.drop_eq_getElem_cons hlt]
    congr 1
    exact (List.getElem?_eq_some_iff.1 hse).2
   have HDR2 : Hid (dropsM m1 L = if (removeM mk (lockP s)).2 ≠ 0 then removeM mk (lockP s) else dropsM (removeM mk (lockP s)).1 (L.drop (k + 1))) := by
    unfold Hid
    rw [HDR.out, hdk]
    rfl
   have HFA2 : Hid (FitAll (removeM mk (lockP s)).1 (L.drop (k + 1))) := by
    have h9 := HFA.out
    rw [hdk] at h9
    exact h9.2
   have HRM : Hid _ := remove_any (lockP s) HTH.out.fin hsl.1
   obtain ⟨⟨m2, e2⟩, hrd⟩ : ∃ q, removeM mk (lockP s) = q := ⟨_, rfl⟩
   rw [hrd] at HDR2 HFA2 HRM
   clear hse hg hc hsn hsl hdk HDR HFA hrd
   go_wp2_with fail
   go_at_call 63
   refine Calls.mono HRM.out ?_
   rintro e w4 ⟨rfl, h4⟩
   have HT4 : Hid _ := Thru.post HTH.out h4 HFA2.out.head
   have HR4 : Hid _ := HRO.out.post h4.fr
   clear h4 HRM
   try dsimp only
   by_cases h0 : e2 = 0
   case neg =>
    have b1 : (e2 != 0) = true := by simpa using h0
    have HU3 : Hid ((m2, (0 : Int), e2) = U) := by
     have h9 := HU2.out
     have h8 := HDR2.out
     rw [if_pos h0] at h8
     rw [h8] at h9
     rw [if_pos h0] at h9
     exact h9
    clear h0
    go_wp2
    go_ret2
    rw [← HU3.out]
    exact ⟨rfl, HT4.out.out⟩
   subst h0
   have HDR3 : Hid (dropsM m1 L = dropsM m2 (L.drop (k + 1))) := by
    have h8 := HDR2.out
    rw [if_neg (by simp)] at h8
    exact h8
   go_wp2
   go_roundw
   case rel => exact ⟨k + 1, m2, _, _, by omega, by go_num, HDR3.out, HFA2.out, HT4.out, HR4.out⟩
   case measure => simp [intOf]; omega
  ·have hkk : k = L.length := by omega
   subst hkk
   have HU3 : Hid ((mk, (L.length : Int), (0 : Int)) = U) := by
    have h9 := HU2.out
    have h8 := HDR.out
    rw [List.drop_length] at h8
    rw [h8] at h9
    exact h9
   go_wp2
   go_ret2
   rw [← HU3.out]
   exact ⟨rfl, HTH.out.out⟩

end Go.Proofs.YtfimfbdlegookaaGreatDoor

/-! What marlaw8.RefsExpect says, in plain Lean: one ref, set and deleted just from what it is. Conditions: as each theorem states. -/
namespace Go.Proofs.YtfimfbdlegookaaGreatDoor
open Go Go.RowKit

def headB : B8 := [104, 101, 97, 100]
def placeH : B8 := [115, 47, 114, 47, 104, 101, 97, 100]
def lockH : B8 := [115, 47, 108, 47, 104, 101, 97, 100]
theorem place_head : placeP headB = placeH := rfl
theorem lock_head : lockP headB = lockH := rfl
theorem name_head : nameB headB = true := by decide
theorem path_lockH : pathB lockH = true := by decide
theorem path_placeH : pathB placeH = true := by decide
/-- One ref, or none; nothing planned, up, room enough. -/
structure Ex (m : Fs) (cur : B8) : Prop where
 plan : m.plan = []
 down : m.down = false
 room : 1000 ≤ m.room
 now : (cur = [] ∧ m.now = []) ∨ (validB cur = true ∧ ∃ t, m.now = [(placeH, ⟨1, lineM cur, t⟩)])
theorem valid_ne {s : B8} (h : validB s = true) : s ≠ [] := by
 rintro rfl
 exact absurd h (by decide)
theorem line_len {s : B8} (h : validB s = true) : (lineM s).length = 65 := by
 unfold lineM
 rw [List.length_append, (valid_len h).1]
 rfl
theorem line_inj {a b : B8} (h : lineM a = lineM b) : a = b := List.append_cancel_right h
theorem wrong_lock {s : B8} (h : validB s = true) : wrongE lockH 1 (lineM s) = 0 := by
 unfold wrongE
 rw [path_lockH, line_len h]
 rfl
theorem may_one (f : Fi) : mayF [(placeH, f)] lockH [] = true := by
 have h1 : isUnder placeH lockH = false := by decide
 have h2 : isUnder lockH placeH = false := by decide
 unfold mayF
 simp [h1, h2]
/-- The lock is laid. -/
theorem ex_create {m : Fs} {cur next : B8} (h : Ex m cur) (hv : validB next = true) :
  ∃ m', createM m lockH 1 (lineM next) = (m', 0) ∧ m'.plan = [] ∧ m'.down = false ∧ 1000 ≤ m'.room ∧
   ∃ t, m'.now = (lockH, ⟨1, lineM next, t⟩) :: m.now := by
 unfold createM putM
 rw [call_calm h.plan h.down]
 simp only [ne_eq, not_true_eq_false, if_false, wrong_lock hv, Bool.not_false, Bool.true_and]
 have hlen := line_len hv
 rcases h.now with ⟨-, hn⟩ | ⟨hc, t, hn⟩
 ·have hl : look m.now lockH = none := by rw [hn]; rfl
  have hf : fitsM { m with calls := m.calls + 1 } lockH (lineM next).length = true := by
   unfold fitsM
   show decide _ = true
   rw [hlen]
   show decide (((65 : Nat) : Int) ≤ m.room - (usedF m.now : Int) + (oldLen m.now lockH : Int)) = true
   have hroom := h.room
   have hu : usedF m.now = 0 := by rw [hn]; rfl
   have ho : oldLen m.now lockH = 0 := by rw [hn]; rfl
   rw [hu, ho]
   exact decide_eq_true (by omega)
  rw [if_neg (by rw [hl]; simp), hf]
  unfold putsM
  rw [if_neg (by show ¬ ((look m.now lockH).isNone = true ∧ mayF m.now lockH [] = false); rw [hn]; simp [mayF]), if_neg (by simp)]
  refine ⟨_, rfl, h.plan, h.down, h.room, ((m.time + 1 : Nat) : Int), ?_⟩
  show ap m.now (.put lockH ⟨1, lineM next, ((m.time + 1 : Nat) : Int)⟩) = _
  rw [hn]
  rfl
 ·have hcl := line_len hc
  have hl : look m.now lockH = none := by rw [hn]; rfl
  have hmay : mayF m.now lockH [] = true := by rw [hn]; exact may_one _
  have hf : fitsM { m with calls := m.calls + 1 } lockH (lineM next).length = true := by
   unfold fitsM
   show decide (((lineM next).length : Int) ≤ m.room - (usedF m.now : Int) + (oldLen m.now lockH : Int)) = true
   have hu : usedF m.now = 65 := by rw [hn]; unfold usedF; simp [hcl]
   have ho : oldLen m.now lockH = 0 := by unfold oldLen; rw [hl]
   have hroom := h.room
   rw [hu, ho, hlen]
   exact decide_eq_true (by omega)
  rw [if_neg (by rw [hl]; simp), hf]
  unfold putsM
  rw [if_neg (by show ¬ ((look m.now lockH).isNone = true ∧ mayF m.now lockH [] = false); rw [hmay]; simp), if_neg (by simp)]
  refine ⟨_, rfl, h.plan, h.down, h.room, ((m.time + 1 : Nat) : Int), ?_⟩
  show ap m.now (.put lockH ⟨1, lineM next, ((m.time + 1 : Nat) : Int)⟩) = _
  rw [hn]
  rfl
theorem ex_read {m : Fs} {cur : B8} {pre : Files} (hp : m.plan = []) (hd : m.down = false) (hpre : pre = [] ∨ ∃ f, pre = [(lockH, f)])
  (hn : (cur = [] ∧ m.now = pre) ∨ (validB cur = true ∧ ∃ t, m.now = pre ++ [(placeH, ⟨1, lineM cur, t⟩)])) :
  (readM m placeH).1 = { m with calls := m.calls + 1 } ∧ ((cur = [] ∧ (readM m placeH).2 = (zeroFi, 7)) ∨ (validB cur = true ∧ ∃ t, (readM m placeH).2 = (⟨1, lineM cur, t⟩, 0))) := by
 unfold readM
 rw [call_calm hp hd]
 simp only [ne_eq, not_true_eq_false, if_false, path_placeH, Bool.true_eq_false]
 rcases hn with ⟨hc, hn⟩ | ⟨hc, t, hn⟩
 ·have hl : look m.now placeH = none := by
   rw [hn]
   rcases hpre with rfl | ⟨f, rfl⟩ <;> rfl
  rw [hl]
  exact ⟨rfl, .inl ⟨hc, rfl⟩⟩
 ·have hl : look m.now placeH = some ⟨1, lineM cur, t⟩ := by
   rw [hn]
   rcases hpre with rfl | ⟨f, rfl⟩ <;> rfl
  rw [hl]
  exact ⟨rfl, .inr ⟨hc, t, rfl⟩⟩
theorem ex_expect {m : Fs} {cur old : B8} (h : (cur = [] ∧ (readM m placeH).2 = (zeroFi, 7)) ∨ (validB cur = true ∧ ∃ t, (readM m placeH).2 = (⟨1, lineM cur, t⟩, 0))) :
  expectE (readM m placeH).2 old = if old = cur then 0 else 13 := by
 rcases h with ⟨rfl, h⟩ | ⟨hc, t, h⟩
 ·rw [h]
  unfold expectE
  simp
 ·rw [h]
  unfold expectE
  have hne := valid_ne hc
  by_cases ho : old = cur
  ·subst ho
   simp [hne]
  ·rw [if_neg ho]
   simp only [ne_eq]
   rw [if_neg (by decide), if_neg (by decide)]
   by_cases h0 : old = []
   ·rw [if_pos (.inl h0)]
   ·rw [if_pos (.inr (fun he => ho (line_inj he).symm))]
theorem sync_plain {m : Fs} (hp : m.plan = []) (hd : m.down = false) : syncM m = (settle { m with calls := m.calls + 1 }, 0) := by
 unfold syncM
 rw [call_calm hp hd]
 rfl
/-- A ref is set: just from what it is. -/
theorem ex_set {m : Fs} {cur : B8} (h : Ex m cur) (old next : B8) :
  ((setM m headB old next).2 = 0 ↔ validB next = true ∧ old = cur) ∧ Ex (setM m headB old next).1 (if validB next = true ∧ old = cur then next else cur) := by
 have hcv : cur = [] ∨ validB cur = true := h.now.imp And.left And.left
 unfold setM
 rw [name_head, if_neg (by simp), lock_head]
 by_cases hb : validB next = false ∨ (old ≠ [] ∧ validB old = false)
 ·rw [if_pos hb]
  have hng : ¬ (validB next = true ∧ old = cur) := by
   rintro ⟨h1, rfl⟩
   rcases hb with hb | hb
   ·rw [h1] at hb; cases hb
   ·rcases hcv with hc | hc
    ·exact hb.1 hc
    ·rw [hb.2] at hc; cases hc
  rw [if_neg hng]
  exact ⟨⟨fun h => absurd h (by simp), fun h => (hng h).elim⟩, h⟩
 ·rw [if_neg hb]
  simp only [not_or, Bool.not_eq_false] at hb
  have hv := hb.1
  obtain ⟨m1, he, hp1, hd1, hr1, t, hn1⟩ := ex_create h hv
  rw [he]
  simp only [ne_eq, not_true_eq_false, if_false]
  have hnow : (cur = [] ∧ m1.now = [(lockH, ⟨1, lineM next, t⟩)]) ∨ (validB cur = true ∧ ∃ t', m1.now = [(lockH, ⟨1, lineM next, t⟩)] ++ [(placeH, ⟨1, lineM cur, t'⟩)]) := by
   rcases h.now with ⟨hc, hn⟩ | ⟨hc, t', hn⟩
   ·exact .inl ⟨hc, by rw [hn1, hn]⟩
   ·exact .inr ⟨hc, t', by rw [hn1, hn]; rfl⟩
  obtain ⟨hr, hre⟩ := ex_read hp1 hd1 (.inr ⟨_, rfl⟩) hnow
  have hee := ex_expect (old := old) hre
  unfold expectM
  rw [place_head, hee, hr]
  by_cases ho : old = cur
  ·rw [if_pos ho, if_pos ⟨hv, ho⟩]
   unfold setMid
   simp only [if_true]
   rw [sync_plain (m := { m1 with calls := m1.calls + 1 }) hp1 hd1]
   simp only [ne_eq, not_true_eq_false, if_false]
   unfold setEnd
   rw [place_head, lock_head]
   have hmv : ∃ m', moveM (settle { m1 with calls := m1.calls + 1 + 1 }) lockH placeH false = (m', 0) ∧ m'.plan = [] ∧ m'.down = false ∧ 1000 ≤ m'.room ∧ ∃ t, m'.now = [(placeH, ⟨1, lineM next, t⟩)] := by
    unfold moveM
    rw [call_calm (m := settle { m1 with calls := m1.calls + 1 + 1 }) hp1 hd1]
    unfold mvM
    simp only [ne_eq, not_true_eq_false, if_false, path_lockH, path_placeH, Bool.true_eq_false, or_self, and_false, Bool.false_eq_true]
    have hl : look m1.now lockH = some ⟨1, lineM next, t⟩ := by rw [hn1]; rfl
    show ∃ m', (if (look m1.now lockH).isNone = true then _ else _) = _ ∧ _
    rw [hl, if_neg (by simp), if_neg (by decide)]
    have hmay : ¬ ((look m1.now placeH).isNone = true ∧ mayF m1.now placeH lockH = false) := by
     rcases hnow with ⟨-, hn⟩ | ⟨-, t', hn⟩
     ·rw [hn]
      rintro ⟨-, h2⟩
      have : mayF [(lockH, ⟨1, lineM next, t⟩)] placeH lockH = true := by unfold mayF; simp
      rw [this] at h2; cases h2
     ·rw [hn]
      rintro ⟨h1, -⟩
      have : look ([(lockH, ⟨1, lineM next, t⟩)] ++ [(placeH, ⟨1, lineM cur, t'⟩)]) placeH = some ⟨1, lineM cur, t'⟩ := rfl
      rw [this] at h1; cases h1
    show ∃ m', (if (look m1.now placeH).isNone = true ∧ mayF m1.now placeH lockH = false then _ else _) = _ ∧ _
    rw [if_neg hmay]
    refine ⟨_, rfl, hp1, hd1, hr1, t, ?_⟩
    show ap m1.now (.mv lockH placeH) = _
    show (match look m1.now lockH with | some x => putF (delF m1.now lockH) placeH x | none => m1.now) = _
    rw [hl]
    rcases hnow with ⟨-, hn⟩ | ⟨-, t', hn⟩
    ·rw [hn]; rfl
    ·rw [hn]; rfl
   obtain ⟨m', hm, hp', hd', hr', t', hn'⟩ := hmv
   rw [hm, if_neg (by simp), sync_plain hp' hd']
   exact ⟨⟨fun _ => ⟨hv, ho⟩, fun _ => rfl⟩, hp', hd', hr', .inr ⟨hv, t', hn'⟩⟩
  ·have hng : ¬ (validB next = true ∧ old = cur) := fun h => ho h.2
   rw [if_neg ho, if_neg hng]
   unfold setMid
   rw [if_neg (show ¬ (13 : Int) = 0 by decide), if_pos (show (13 : Int) ≠ 0 by decide)]
   refine ⟨⟨fun h => absurd h (by simp), fun h => (hng h).elim⟩, ?_⟩
   unfold removeM
   rw [call_calm (m := { m1 with calls := m1.calls + 1 }) hp1 hd1, lock_head]
   unfold removesM
   simp only [ne_eq, not_true_eq_false, if_false, path_lockH, Bool.true_eq_false]
   have hl : look m1.now lockH = some ⟨1, lineM next, t⟩ := by rw [hn1]; rfl
   rw [if_neg (by show ¬ ((look m1.now lockH).isNone = true); rw [hl]; simp)]
   refine ⟨hp1, hd1, hr1, ?_⟩
   show (cur = [] ∧ ap m1.now (.del lockH) = []) ∨ (validB cur = true ∧ ∃ t, ap m1.now (.del lockH) = _)
   rcases hnow with ⟨hc, hn⟩ | ⟨hc, t', hn⟩
   ·rw [hn]; exact .inl ⟨hc, rfl⟩
   ·rw [hn]; exact .inr ⟨hc, t', rfl⟩
/-- A set from what the ref is not: ErrLock. -/
theorem ex_set13 {m : Fs} {cur : B8} (h : Ex m cur) (old next : B8) (hv : validB next = true) (hold : old = [] ∨ validB old = true) (ho : old ≠ cur) : (setM m headB old next).2 = 13 := by
 unfold setM
 have hb : ¬ (validB next = false ∨ (old ≠ [] ∧ validB old = false)) := by
  rintro (h1 | ⟨h1, h2⟩)
  ·rw [hv] at h1; cases h1
  ·rcases hold with h3 | h3
   ·exact h1 h3
   ·rw [h3] at h2; cases h2
 rw [name_head, if_neg (by simp), lock_head, if_neg hb]
 obtain ⟨m1, he, hp1, hd1, hr1, t, hn1⟩ := ex_create h hv
 rw [he]
 simp only [ne_eq, not_true_eq_false, if_false]
 have hnow : (cur = [] ∧ m1.now = [(lockH, ⟨1, lineM next, t⟩)]) ∨ (validB cur = true ∧ ∃ t', m1.now = [(lockH, ⟨1, lineM next, t⟩)] ++ [(placeH, ⟨1, lineM cur, t'⟩)]) := by
  rcases h.now with ⟨hc, hn⟩ | ⟨hc, t', hn⟩
  ·exact .inl ⟨hc, by rw [hn1, hn]⟩
  ·exact .inr ⟨hc, t', by rw [hn1, hn]; rfl⟩
 obtain ⟨hr, hre⟩ := ex_read hp1 hd1 (.inr ⟨_, rfl⟩) hnow
 have hee := ex_expect (old := old) hre
 unfold expectM
 rw [place_head, hee, hr, if_neg ho]
 unfold setMid
 rw [if_neg (show ¬ (13 : Int) = 0 by decide), if_pos (show (13 : Int) ≠ 0 by decide)]
theorem ex_calls {m : Fs} {cur : B8} (h : Ex m cur) (n : Nat) : Ex { m with calls := n } cur := ⟨h.plan, h.down, h.room, h.now⟩
theorem trim_line {s : B8} : Lib.trimSuffix (lineM s) [10] = s := by
 unfold Lib.trimSuffix lineM
 have : Lib.hasSuffix (s ++ [10]) [10] = true := by
  unfold Lib.hasSuffix
  simp
 rw [this]
 simp
/-- .. told. -/
theorem ex_get {m : Fs} {cur : B8} (h : Ex m cur) : Ex (getM m headB).1 cur ∧ (getM m headB).2.1 = cur ∧ ((getM m headB).2.2 = 0 ↔ cur ≠ []) := by
 unfold getM
 rw [name_head, if_neg (by simp), place_head]
 obtain ⟨hr, hre⟩ := ex_read h.plan h.down (.inl rfl) (cur := cur) (by simpa using h.now)
 rw [hr]
 refine ⟨ex_calls h _, ?_⟩
 rcases hre with ⟨rfl, hre⟩ | ⟨hc, t, hre⟩
 ·rw [hre]
  unfold getE
  simp
 ·rw [hre]
  unfold getE
  simp [trim_line, hc, valid_ne hc]
/-- What the chapter's examples fix. -/
theorem ex_first {m : Fs} (h : Ex m []) {a b : B8} (ha : validB a = true) (hb : validB b = true) :
  (setM m headB [] a).2 = 0 ∧ (setM (setM m headB [] a).1 headB [] b).2 = 13 ∧ (getM (setM (setM m headB [] a).1 headB [] b).1 headB).2 = (a, 0) := by
 obtain ⟨h1, h2⟩ := ex_set h [] a
 rw [if_pos ⟨ha, rfl⟩] at h2
 have h0 := h1.2 ⟨ha, rfl⟩
 have hne := valid_ne ha
 have h3 := ex_set13 h2 [] b hb (.inl rfl) (fun h => hne h.symm)
 obtain ⟨-, h4⟩ := ex_set h2 [] b
 rw [if_neg (fun h => hne h.2.symm)] at h4
 obtain ⟨-, h5, h6⟩ := ex_get h4
 exact ⟨h0, h3, Prod.ext h5 (h6.2 hne)⟩

end Go.Proofs.YtfimfbdlegookaaGreatDoor
