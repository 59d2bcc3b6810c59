/- fsim.New: a file system without files. No conditions. -/
import Derived.Test.YtfgdmlmfgnhpaaaGreatDoorZac
import Derived.Sort.OwnSorted
import Derived.Sort.KeysCollected
import Derived.Shelf.SlicesE.DeleteFunc
import Derived.Lib.SliceRun

set_option linter.unusedVariables false
set_option linter.unusedSimpArgs false

/-! fsim.FS: call: a call is counted, and its events happen. Conditions: at most 8000000 ticks, 1000 events; no block of the plan is written. -/
namespace Go.Proofs.YtfgdmlmfgnhpaaaGreatDoor
open Go Go.RowKit

structure PlanOk (m : Fs) : Prop where
  len : m.plan.length ≤ 1000
  ev : ∀ e ∈ m.plan, I64 e.keep ∧ I64 e.torn ∧ e.path.length ≤ 400
theorem hap_plan (m : Fs) (e : Ev) : (hapM m e).plan = m.plan ∧ (hapM m e).calls = m.calls ∧ (hapM m e).room = m.room := by
  unfold hapM
  split
  · unfold crash; split <;> exact ⟨rfl, rfl, rfl⟩
  · split
    · unfold userWrite
      split
      · exact ⟨rfl, rfl, rfl⟩
      · split
        · exact ⟨rfl, rfl, rfl⟩
        · split
          · unfold putsM; split
            · exact ⟨rfl, rfl, rfl⟩
            · split <;> exact ⟨rfl, rfl, rfl⟩
          · simp only [settle]; unfold putsM; split
            · exact ⟨rfl, rfl, rfl⟩
            · split <;> exact ⟨rfl, rfl, rfl⟩
    · split
      · unfold userRemove
        split
        · exact ⟨rfl, rfl, rfl⟩
        · split
          · unfold removesM; split
            · exact ⟨rfl, rfl, rfl⟩
            · split <;> exact ⟨rfl, rfl, rfl⟩
          · simp only [settle]; unfold removesM; split
            · exact ⟨rfl, rfl, rfl⟩
            · split <;> exact ⟨rfl, rfl, rfl⟩
      · exact ⟨rfl, rfl, rfl⟩
/-- What holds of a state in the midst of a call. -/
structure Mid (m : Fs) (n : Nat) (x : Fs × Bool × Bool) : Prop where
  ok : OkM x.1
  time : x.1.time ≤ m.time + n
  time0 : m.time ≤ x.1.time
  plan : x.1.plan = m.plan
  calls : x.1.calls = m.calls + 1
  room : x.1.room = m.room
theorem Mid.next {m : Fs} {n k : Nat} {x : Fs × Bool × Bool} (h : Mid m n x) (e : Ev) : Mid m (n + if e.t = (k : Int) then 1 else 0) (happen k x e) := by
  rw [happen_eq]
  by_cases ht : e.t ≠ (k : Int)
  · rw [if_pos ht, if_neg ht]
    exact h
  · rw [if_neg ht, if_pos (by simpa using ht)]
    have h1 := hap_time x.1 e
    have h2 := hap_plan x.1 e
    have := h.time
    have := h.time0
    exact ⟨ok_hap h.ok e, by simp only; omega, by simp only; omega, h2.1.trans h.plan, h2.2.1.trans h.calls, h2.2.2.trans h.room⟩
theorem Mid.fold {m : Fs} (k : Nat) : ∀ (l : List Ev) {n : Nat} {x : Fs × Bool × Bool}, Mid m n x → Mid m (n + l.length) (l.foldl (happen k) x)
  | [], n, x, h => h
  | e :: l, n, x, h => by
    have h1 := Mid.fold k l (h.next (k := k) e)
    refine ⟨h1.ok, ?_, h1.time0, h1.plan, h1.calls, h1.room⟩
    have := h1.time
    simp only [List.length_cons, List.foldl_cons]
    split at this <;> omega
def calledM (m : Fs) : Fs := { m with calls := m.calls + 1 }
theorem Mid.start {m : Fs} (h : OkM m) : Mid m 0 (calledM m, false, false) := ⟨h.same rfl rfl rfl h.lusers (Nat.le_refl _), Nat.le_refl _, Nat.le_refl _, rfl, rfl, rfl⟩
end Go.Proofs.YtfgdmlmfgnhpaaaGreatDoor

/-! fsim.FS: call: the walk. Conditions: at most 8000000 ticks, 1000 events; no block of the plan is written. -/
namespace Go.Proofs.YtfgdmlmfgnhpaaaGreatDoor
open Go Go.RowKit

/-- No block of the plan is written by a call. -/
def Apart (S O : Nat → Prop) (w : World) : Prop := ∀ k, S k → ¬ O k ∧ k < w.heap.size
theorem Apart.next {S O : Nat → Prop} {w w' : World} (h : Apart S O w) (hs : w.heap.size ≤ w'.heap.size) : Apart S (Nw O w w') w' := fun k hk => ⟨fun hn => by
  rcases hn with hn | hn
  · exact (h k hk).1 hn
  · have := (h k hk).2; omega, by have := (h k hk).2; omega⟩
def NoG (O : Nat → Prop) : Prop := ∀ k, O k → k ≠ 2

end Go.Proofs.YtfgdmlmfgnhpaaaGreatDoor

/-! fsim.FS: fits, Create, Write. Conditions: what holds of a file system at all times; short paths. -/
namespace Go.Proofs.YtfgdmlmfgnhpaaaGreatDoor
open Go Go.RowKit

/-- What a call finds. -/
structure FsIn (S O R : Nat → Prop) (w : World) (p : Value) (m : Fs) : Prop where
  env : Env w
  fs : IsFs S O R w p m
  ok : OkM m
  plan : PlanOk m
  time : m.time ≤ 7000000
  calls : m.calls ≤ 9000000
  noG : NoG O
  apart : Apart S O w
  low : ∀ k, O k → k < w.heap.size
  room0 : 0 ≤ m.room
  room1 : m.room ≤ 1073741824

end Go.Proofs.YtfgdmlmfgnhpaaaGreatDoor

/-! What each call on a file system does, in plain Lean; what holds behind it. Conditions: as each theorem states. -/
namespace Go.Proofs.YtfgdmlmfgnhpaaaGreatDoor
open Go Go.RowKit

def putM (r : Fs × Bool × Int) (path : B8) (mode : Int) (data : B8) (only : Bool) : Fs × Int :=
  if r.2.2 ≠ 0 then (r.1, r.2.2) else if wrongE path mode data ≠ 0 then (r.1, wrongE path mode data)
  else if only = true ∧ (look r.1.now path).isSome then (r.1, 8) else putsM r.1 path mode data (!r.2.1 && fitsM r.1 path data.length)
def createM (m : Fs) (path : B8) (mode : Int) (data : B8) : Fs × Int := putM (callM m) path mode data true
def writeM (m : Fs) (path : B8) (mode : Int) (data : B8) : Fs × Int := putM (callM m) path mode data false
def mvM (r : Fs × Bool × Int) (src dst : B8) (fresh : Bool) : Fs × Int :=
  if r.2.2 ≠ 0 then (r.1, r.2.2) else if pathB src = false ∨ pathB dst = false then (r.1, 6)
  else if (look r.1.now src).isNone then (r.1, 7) else if (look r.1.now dst).isSome ∧ fresh = true then (r.1, 8)
  else if src = dst then (r.1, 0) else if (look r.1.now dst).isNone ∧ mayF r.1.now dst src = false then (r.1, 9) else (does r.1 (.mv src dst), 0)
def moveM (m : Fs) (src dst : B8) (fresh : Bool) : Fs × Int := mvM (callM m) src dst fresh
def removeM (m : Fs) (path : B8) : Fs × Int := if (callM m).2.2 ≠ 0 then ((callM m).1, (callM m).2.2) else removesM (callM m).1 path
def syncM (m : Fs) : Fs × Int := if (callM m).2.2 = 0 then (settle (callM m).1, 0) else ((callM m).1, (callM m).2.2)
def zeroFi : Fi := ⟨0, [], 0⟩
def readM (m : Fs) (path : B8) : Fs × Fi × Int :=
  if (callM m).2.2 ≠ 0 then ((callM m).1, zeroFi, (callM m).2.2) else if pathB path = false then ((callM m).1, zeroFi, 6)
  else match look (callM m).1.now path with
    | some f => ((callM m).1, f, 0)
    | none => ((callM m).1, zeroFi, 7)
def pathsL (l : Files) : List B8 := l.map (·.1)
def listM (m : Fs) (dir : B8) : Fs × List B8 × Int :=
  if (callM m).2.2 ≠ 0 then ((callM m).1, [], (callM m).2.2) else if dir = [] then ((callM m).1, pathsL (callM m).1.now, 0)
  else if pathB dir = false then ((callM m).1, [], 6) else ((callM m).1, (pathsL (callM m).1.now).filter (isUnder dir), 0)
def peekM (m : Fs) (path : B8) : Fi × Bool := match look m.now path with
  | some f => (f, true)
  | none => (zeroFi, false)

/-- What a call leaves, in numbers. -/
structure Left (m m' : Fs) (n : Nat) : Prop where
  ok : OkM m'
  time : m'.time ≤ m.time + n
  time0 : m.time ≤ m'.time
  plan : m'.plan = m.plan
  room : m'.room = m.room
theorem Left.trans {a b c : Fs} {n k : Nat} (h : Left a b n) (k2 : Left b c k) : Left a c (n + k) :=
  ⟨k2.ok, by have := h.time; have := k2.time; omega, Nat.le_trans h.time0 k2.time0, k2.plan.trans h.plan, k2.room.trans h.room⟩
theorem Left.refl {m : Fs} (h : OkM m) : Left m m 0 := ⟨h, Nat.le_refl _, Nat.le_refl _, rfl, rfl⟩
theorem Left.mono {m m' : Fs} {n k : Nat} (h : Left m m' n) (hk : n ≤ k) : Left m m' k := ⟨h.ok, Nat.le_trans h.time (by omega), h.time0, h.plan, h.room⟩
end Go.Proofs.YtfgdmlmfgnhpaaaGreatDoor

/-! marlaw5: an operation of both file systems, in plain Lean. Conditions: as each theorem states. -/
namespace Go.Proofs.YtfgdmlmfgnhpaaaGreatDoor
open Go Go.RowKit

structure Opn where
  (kind mode keep torn : Int)
  (path dest data : B8)
  (plan : List Ev)
structure OpOk (o : Opn) : Prop where
  path : o.path.length ≤ 400
  dest : o.dest.length ≤ 400
  few : o.plan.length ≤ 60
  ev : ∀ e ∈ o.plan, I64 e.keep ∧ I64 e.torn ∧ e.path.length ≤ 400
  keep : I64 o.keep
  torn : I64 o.torn
def stepM (m : Fs) (o : Opn) : Fs :=
  if o.kind = 0 then (createM m o.path o.mode o.data).1
  else if o.kind = 1 then (writeM m o.path o.mode o.data).1
  else if o.kind = 2 then (moveM m o.path o.dest false).1
  else if o.kind = 3 then (moveM m o.path o.dest true).1
  else if o.kind = 4 then (removeM m o.path).1
  else if o.kind = 5 then (syncM m).1
  else if o.kind = 6 then (readM m o.path).1
  else if o.kind = 7 then (listM m o.path).1
  else if o.kind = 8 then (userWrite m o.path o.mode o.data).1
  else if o.kind = 9 then (userRemove m o.path).1
  else if o.kind = 10 then crash m o.keep o.torn
  else if o.kind = 11 then rebootM m
  else if o.kind = 12 then planM m o.plan
  else m

/-! ### What an operation leaves, in numbers -/
/-- What holds of a file system behind n operations. -/
structure Good (n : Nat) (m : Fs) : Prop where
  ok : OkM m
  plan : PlanOk m
  few : m.plan.length ≤ 60
  time : m.time ≤ 80 * n
  calls : m.calls ≤ 100 * n
  room0 : 0 ≤ m.room
  room1 : m.room ≤ 1073741824
theorem Good.left {n : Nat} {m m' : Fs} (h : Good n m) (hl : Left m m' 61) (hc : m'.calls ≤ m.calls + 1) : Good (n + 1) m' :=
  ⟨hl.ok, ⟨by rw [hl.plan]; exact h.plan.len, by rw [hl.plan]; exact h.plan.ev⟩, by rw [hl.plan]; exact h.few, by have := hl.time; have := h.time; omega, by have := h.calls; omega, by rw [hl.room]; exact h.room0, by rw [hl.room]; exact h.room1⟩

theorem Good.mono {n k : Nat} {m : Fs} (h : Good n m) (hk : n ≤ k) : Good k m := ⟨h.ok, h.plan, h.few, by have := h.time; omega, by have := h.calls; omega, h.room0, h.room1⟩
end Go.Proofs.YtfgdmlmfgnhpaaaGreatDoor

/-! fsim.FS: Create, Write. Conditions: what holds of a file system at all times; short paths. -/
namespace Go.Proofs.YtfgdmlmfgnhpaaaGreatDoor
open Go Go.RowKit

end Go.Proofs.YtfgdmlmfgnhpaaaGreatDoor

/-! fsim.FS: Remove, Sync, Move, MoveNew. Conditions: what holds of a file system at all times; short paths. -/
namespace Go.Proofs.YtfgdmlmfgnhpaaaGreatDoor
open Go Go.RowKit

end Go.Proofs.YtfgdmlmfgnhpaaaGreatDoor

/-! fsim.FS: move, Move, MoveNew. Conditions: what holds of a file system at all times; short paths. -/
namespace Go.Proofs.YtfgdmlmfgnhpaaaGreatDoor
open Go Go.RowKit

end Go.Proofs.YtfgdmlmfgnhpaaaGreatDoor

/-! fsim.FS: Peek, Paths. Conditions: a short path; at most 10000000 files. -/
namespace Go.Proofs.YtfgdmlmfgnhpaaaGreatDoor
open Go Go.RowKit

theorem Nu.mono {w0 w1 w w' : World} (h0 : w0.heap.size ≤ w.heap.size) (h1 : w'.heap.size ≤ w1.heap.size) {k : Nat} (h : Nu w w' k) : Nu w0 w1 k := ⟨Nat.le_trans h0 h.1, Nat.lt_of_lt_of_le h.2 h1⟩

/-! ### Paths -/
end Go.Proofs.YtfgdmlmfgnhpaaaGreatDoor

/-! fsim.FS: List, Read. Conditions: what holds of a file system at all times; short paths. -/
namespace Go.Proofs.YtfgdmlmfgnhpaaaGreatDoor
open Go Go.RowKit Go.Sort Go.Shelf

end Go.Proofs.YtfgdmlmfgnhpaaaGreatDoor

/-! fsim.FS: List, Read. Conditions: what holds of a file system at all times; short paths. -/
namespace Go.Proofs.YtfgdmlmfgnhpaaaGreatDoor
open Go Go.RowKit

theorem FsIn.ext {S O R : Nat → Prop} {w wx : World} {p : Value} {m : Fs} (h : FsIn S O R w p m) (hx : Ext w wx) : FsIn S O R wx p m :=
  ⟨h.env.ext hx, h.fs.ext hx, h.ok, h.plan, h.time, h.calls, h.noG, fun k hk => ⟨(h.apart k hk).1, Nat.lt_of_lt_of_le (h.apart k hk).2 hx.size⟩, fun k hk => Nat.lt_of_lt_of_le (h.low k hk) hx.size, h.room0, h.room1⟩
theorem FsPost.cell {S O R : Nat → Prop} {w w1 : World} {p : Value} {m1 : Fs} (h : FsPost S O R w p m1 w1) {b o : Nat} {v : Value} (hc : w.cell? ⟨b, o, none⟩ = some v) (hb : ¬ O b) : w1.cell? ⟨b, o, none⟩ = some v := by
  rw [World.cell?_of_block (w := w) (w' := w1) (a := ⟨b, o, none⟩) (h.fr.block b (World.block_lt_of_cell? _ _ hc) (.inl hb))]
  exact hc
theorem FsPost.row {S O R : Nat → Prop} {w w1 : World} {p : Value} {m1 : Fs} (h : FsPost S O R w p m1 w1) {b : Nat} {o : Obj} (hc : w.heap[b]? = some o) (hb : ¬ O b) : w1.heap[b]? = some o := h.fr.row hc hb
theorem strs_owned {w : World} {base : Nat} {v : Value} {L : List B8} {n : Nat} (h : w.ownsRow base 9 1 v n (L.map S8)) (hn : n = L.length) (hl : n ≤ 10000000) : IsStrs w v L := by
  subst hn
  exact Row.of_owns h (by omega)

end Go.Proofs.YtfgdmlmfgnhpaaaGreatDoor

/-! slices.Clone at events and changes; fsim.copiedEvents; Plan, User. Conditions: at most 10000000 elements. -/
namespace Go.Proofs.YtfgdmlmfgnhpaaaGreatDoor
open Go Go.RowKit

end Go.Proofs.YtfgdmlmfgnhpaaaGreatDoor

/-! fsim.copiedEvents, Plan, User: events copied, with their data. Conditions: at most 100000 events. -/
namespace Go.Proofs.YtfgdmlmfgnhpaaaGreatDoor
open Go Go.RowKit

/-- Events that lie in new blocks, data too. -/
def OwnE (base : Nat) (w : World) (v : Value) (L : List Ev) : Prop := ∃ css : List (List Value), w.ownsRow base 149 7 v L.length css.flatten ∧ Each (IsEvR (fun k => base ≤ k ∧ k < w.heap.size) w) css L

/-- An event that is read alone. -/
def IsEvB (w : World) (cs : List Value) (e : Ev) : Prop := ∃ vd, cs = [.int .i64 e.t, .int .i64 e.kind, .int .i64 e.mode, .int .i64 e.keep, .int .i64 e.torn, S8 e.path, vd] ∧ IsBytes w vd e.data ∧ e.path.length ≤ 10000000
theorem IsEvR.read {R : Nat → Prop} {w : World} {cs : List Value} {e : Ev} (h : IsEvR R w cs e) : IsEvB w cs e := by
  obtain ⟨v, h1, h2, h3⟩ := h
  exact ⟨v, h1, h2.bytes, h3⟩
theorem IsEvB.length {w : World} {cs : List Value} {e : Ev} (h : IsEvB w cs e) : cs.length = 7 ∧ cs.all (·.oneCell') = true := by
  obtain ⟨v, rfl, h2, _⟩ := h
  obtain ⟨_, _, rfl, _⟩ := h2
  exact ⟨rfl, by simp [Value.oneCell']⟩
theorem IsEvB.ext {w w' : World} {cs : List Value} {e : Ev} (h : IsEvB w cs e) (hx : Ext w w') : IsEvB w' cs e := by
  obtain ⟨v, h1, h2, h3⟩ := h
  exact ⟨v, h1, h2.ext hx, h3⟩
def ReadB (w : World) (v : Value) (L : List Ev) : Prop := ∃ css : List (List Value), Row w v L.length css.flatten ∧ Each (IsEvB w) css L
theorem ReadB.ext {w w' : World} {v : Value} {L : List Ev} (h : ReadB w v L) (hx : Ext w w') : ReadB w' v L := by
  obtain ⟨css, h1, h2⟩ := h
  exact ⟨css, h1.ext hx, h2.imp (fun c x hc => hc.ext hx)⟩
theorem OwnL.read {R : Nat → Prop} {w : World} {v : Value} {L : List Ev} (h : OwnL w 149 7 (IsEvR R w) v L) (hl : L.length ≤ 10000000) : ReadB w v L := by
  obtain ⟨css, h1, h2⟩ := h
  exact ⟨css, Row.of_owns h1 (by omega), h2.imp (fun c x hc => hc.read)⟩
theorem ReadL.read {R : Nat → Prop} {w : World} {v : Value} {L : List Ev} (h : ReadL w 149 (IsEvR R w) v L) : ReadB w v L := by
  obtain ⟨css, h1, _, h2⟩ := h
  exact ⟨css, h1, h2.imp (fun c x hc => hc.read)⟩

end Go.Proofs.YtfgdmlmfgnhpaaaGreatDoor

/-! fsim.New: a file system without files. No conditions. -/
namespace Go.Proofs.YtfgdmlmfgnhpaaaGreatDoor
open Go Go.RowKit

def newM (room : Int) : Fs := ⟨room, [], [], [], [], 0, [], 0, false⟩
def NewPost (room : Int) (w : World) (e : Ending) (w' : World) : Prop := (∃ p, e = .returned (.tuple #[p, .int .i64 0]) ∧ IsFs (fun _ => False) (Nu w w') (fun _ => False) w' p (newM room)) ∧ Ext w w'
end Go.Proofs.YtfgdmlmfgnhpaaaGreatDoor
