/- marref5.FS: List, New, Plan, User, and what each tells of itself. Conditions: what holds of a file system at all times; short paths. -/
import Derived.Test.YtfimfbdlegookaaGreatDoorZai

set_option linter.unusedVariables false
set_option linter.unusedSimpArgs false
set_option linter.unusedSectionVars false

/-! marref.CopyBytes; marref5.FS: put. Conditions: at most 800000 ticks; short paths. -/
namespace Go.Proofs.YtfimfbdlegookaaGreatDoor
open Go Go.RowKit
variable [Inhabited BaseW]

def putRM (m : Fs) (path : B8) (mode : Int) (data : B8) (only full : Bool) (room : Int) : Fs × Int :=
  if wrongE path mode data ≠ 0 then (m, wrongE path mode data) else if only = true ∧ (look m.now path).isSome then (m, 8)
  else putsM m path mode data (!full && decide ((data.length : Int) ≤ room - usedF m.now + oldLen m.now path))

end Go.Proofs.YtfimfbdlegookaaGreatDoor

/-! marref5.FS: Crash. Conditions: at most 800000 ticks. -/
namespace Go.Proofs.YtfimfbdlegookaaGreatDoor
open Go Go.RowKit
variable [Inhabited BaseW]

/-- A store into the own block, told. -/
theorem RefPost.store {O R : Nat → Prop} {w w1 w2 : World} {m' : Fs} {g : Nat} {vn vs vp vl vu : Value} {cur : Array Value} (hfr : Fr O w w1) (hO : Nw O w w1 g) (hg : w1.heap[g]? = some (.cells cur 133 (0, 0)))
    (hP : RParts (Nw O w w1) (Nw R w w1) w1 vn vs vp vl vu m'.now m'.sure m'.pend m'.plan m'.users) (hgr : w1.grownBy w2 (some g)) (hg2 : w2.heap[g]? = some (.cells (refCells m'.room vn vs vp vl m'.calls m'.time m'.down vu) 133 (0, 0))) :
    RefPost O R w (.pointer (some ⟨g, 0, none⟩)) m' w2 :=
  ⟨⟨g, vn, vs, vp, vl, vu, rfl, hg2, hO.fst hgr.size, (hP.own hg hgr).mono (fun k hk => hk.fst hgr.size) (fun k hk => hk.fst hgr.size)⟩,
   hfr.step hgr (fun k hk => by cases hk; exact hO.imp id (fun h => h.1)) (by rintro k hk; cases hk; exact cells_u8 hg (by kernel_rfl))⟩
theorem NewOr.inn {O : Nat → Prop} {w w' : World} {v v' : Value} (h : NewOr w v v') (hi : Inn O v) (hl : ∀ k, v'.ownBlock = some k → k < w'.heap.size) : Inn (Nw O w w') v' := fun k hk => (h k hk).imp (hi k) (fun h1 => ⟨h1, hl k hk⟩)
theorem OwnL.readL {α : Type} {w : World} {t : TypeId} {size : Nat} {p : List Value → α → Prop} {v : Value} {xs : List α} (h : OwnL w t size p v xs) (hl : xs.length ≤ 1000000) : ReadL w t p v xs := by
  obtain ⟨css, h1, h2⟩ := h
  exact ⟨css, Row.of_owns h1 (by omega), Typed.of_owns h1, h2⟩
end Go.Proofs.YtfimfbdlegookaaGreatDoor

/-! marref5.FS: UserWrite, UserRemove. Conditions: at most 700000 ticks; short paths. -/
namespace Go.Proofs.YtfimfbdlegookaaGreatDoor
open Go Go.RowKit
variable [Inhabited BaseW]

section
variable {ops : Array Oper} {rest : List Oper} {o : Oper} {a : Act} {Q : Exit → Act → World → Prop} {w : World}
end

end Go.Proofs.YtfimfbdlegookaaGreatDoor

/-! marref5.FS: begin: a call begins. Conditions: at most 600000 ticks; a plan that is few. -/
namespace Go.Proofs.YtfimfbdlegookaaGreatDoor
open Go Go.RowKit
variable [Inhabited BaseW]

end Go.Proofs.YtfimfbdlegookaaGreatDoor

/-! marref5.FS: Create, Write, Remove, Sync. Conditions: what holds of a file system at all times; short paths. -/
namespace Go.Proofs.YtfimfbdlegookaaGreatDoor
open Go Go.RowKit
variable [Inhabited BaseW]

/-- What a call finds. -/
structure RefIn (O R : Nat → Prop) (w : World) (p : Value) (m : Fs) : Prop where
  fs : IsRef O R w p m
  ok : OkM m
  plan : PlanOk m
  time : m.time ≤ 500000
  calls : m.calls ≤ 900000
  low : ∀ k, O k → k < w.heap.size
  base : Ext baseW w
  high : ∀ k, O k → baseW.heap.size ≤ k
  room0 : 0 ≤ m.room
  room1 : m.room ≤ 1073741824
theorem RefIn.ext {O R : Nat → Prop} {w wx : World} {p : Value} {m : Fs} (h : RefIn O R w p m) (hx : Ext w wx) : RefIn O R wx p m :=
  ⟨h.fs.ext hx, h.ok, h.plan, h.time, h.calls, fun k hk => Nat.lt_of_lt_of_le (h.low k hk) hx.size, h.base.trans hx, h.high, h.room0, h.room1⟩
theorem IsRef.ptr {O R : Nat → Prop} {w : World} {p : Value} {m : Fs} (h : IsRef O R w p m) : ∃ g, p = .pointer (some ⟨g, 0, none⟩) := by
  obtain ⟨g, _, _, _, _, _, h1, _⟩ := h
  exact ⟨g, h1⟩
theorem IsRef.room {O R : Nat → Prop} {w : World} {g : Nat} {m : Fs} (h : IsRef O R w (.pointer (some ⟨g, 0, none⟩)) m) : w.cell? ⟨g, 0, none⟩ = some (.int .i64 m.room) := by
  obtain ⟨g', vn, vs, vp, vl, vu, hpe, hg, _⟩ := h
  cases hpe
  exact (cellsAt9 hg).1

end Go.Proofs.YtfimfbdlegookaaGreatDoor

/-! marref5.FS: move, Move, MoveNew. Conditions: what holds of a file system at all times; short paths. -/
namespace Go.Proofs.YtfimfbdlegookaaGreatDoor
open Go Go.RowKit
variable [Inhabited BaseW]

end Go.Proofs.YtfimfbdlegookaaGreatDoor

/-! marref5.FS: Peek, Paths, Read, List. Conditions: what holds of a file system at all times; short paths. -/
namespace Go.Proofs.YtfimfbdlegookaaGreatDoor
open Go Go.RowKit
variable [Inhabited BaseW]

end Go.Proofs.YtfimfbdlegookaaGreatDoor

/-! marref5.FS: List, New, Plan, User, and what each tells of itself. Conditions: what holds of a file system at all times; short paths. -/
namespace Go.Proofs.YtfimfbdlegookaaGreatDoor
open Go Go.RowKit
variable [Inhabited BaseW]

def inDir (dir q : B8) : Bool := dir == [] || isUnder dir q
end Go.Proofs.YtfimfbdlegookaaGreatDoor
