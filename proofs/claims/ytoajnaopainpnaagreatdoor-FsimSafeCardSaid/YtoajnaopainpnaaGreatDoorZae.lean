/- marref5.FS: safe, drop. Conditions: at most 900000 ticks; short paths. -/
import Derived.Test.YtoajnaopainpnaaGreatDoorZad
import Derived.Test.YtoajnaopainpnaaGreatDoorZaa
import Derived.Deep.Upon
import Derived.Test.YtoajnaopainpnaaGreatDoorZab

set_option linter.unusedVariables false
set_option linter.unusedSimpArgs false
set_option linter.unusedSectionVars false

/-! How the document's file system lies in memory: rows, changes, events, all in slices; what an operation leaves as it was. No conditions of its own. -/
namespace Go.Proofs.YtoajnaopainpnaaGreatDoor
open Go Go.RowKit

/-! ### Rows and changes -/
def IsRowR (R : Nat → Prop) (w : World) (cs : List Value) (e : B8 × Fi) : Prop := e.1.length ≤ 1000000 ∧ ∃ v, cs = [S8 e.1, .int .i64 e.2.mode, v, .int .i64 e.2.time] ∧ IsData R w v e.2.data
theorem IsRowR.mono {R R' : Nat → Prop} {w : World} {cs : List Value} {e : B8 × Fi} (h : IsRowR R w cs e) (hr : ∀ k, R k → R' k) : IsRowR R' w cs e := by
  obtain ⟨h1, v, h2, h3⟩ := h
  exact ⟨h1, v, h2, h3.mono hr⟩
theorem IsRowR.keepR {R : Nat → Prop} {w w' : World} {cs : List Value} {e : B8 × Fi} (h : IsRowR R w cs e) (hk : KeepR R w w') : IsRowR R w' cs e := by
  obtain ⟨h1, v, h2, h3⟩ := h
  exact ⟨h1, v, h2, h3.keepR hk⟩
theorem IsRowR.length {R : Nat → Prop} {w : World} {cs : List Value} {e : B8 × Fi} (h : IsRowR R w cs e) : cs.length = 4 ∧ cs.all (·.oneCell') = true := by
  obtain ⟨_, v, rfl, h3⟩ := h
  obtain ⟨_, _, rfl, _⟩ := h3.bytes
  exact ⟨rfl, by simp [Value.oneCell']⟩
theorem IsRowR.bound {R : Nat → Prop} {w : World} {cs : List Value} {e : B8 × Fi} (h : IsRowR R w cs e) : IsRowR (fun k => R k ∧ k < w.heap.size) w cs e := by
  obtain ⟨h1, v, h2, h3⟩ := h
  exact ⟨h1, v, h2, h3.bound⟩

def IsOp (R : Nat → Prop) (w : World) (cs : List Value) : Ch → Prop
  | .put p f => p.length ≤ 1000000 ∧ ∃ v, cs = [.int .i64 1, S8 [], S8 p, .int .i64 f.mode, v, .int .i64 f.time] ∧ IsData R w v f.data
  | .mv s d => s.length ≤ 1000000 ∧ d.length ≤ 1000000 ∧ cs = [.int .i64 2, S8 s, S8 d, .int .i64 0, .slice none 0 0, .int .i64 0]
  | .del p => p.length ≤ 1000000 ∧ cs = [.int .i64 3, S8 p, S8 [], .int .i64 0, .slice none 0 0, .int .i64 0]
theorem IsOp.mono {R R' : Nat → Prop} {w : World} {cs : List Value} {c : Ch} (h : IsOp R w cs c) (hr : ∀ k, R k → R' k) : IsOp R' w cs c := by
  cases c with
  | put p f =>
    obtain ⟨h1, v, h2, h3⟩ := h
    exact ⟨h1, v, h2, h3.mono hr⟩
  | mv s d => exact h
  | del p => exact h
theorem IsOp.keepR {R : Nat → Prop} {w w' : World} {cs : List Value} {c : Ch} (h : IsOp R w cs c) (hk : KeepR R w w') : IsOp R w' cs c := by
  cases c with
  | put p f =>
    obtain ⟨h1, v, h2, h3⟩ := h
    exact ⟨h1, v, h2, h3.keepR hk⟩
  | mv s d => exact h
  | del p => exact h
theorem IsOp.length {R : Nat → Prop} {w : World} {cs : List Value} {c : Ch} (h : IsOp R w cs c) : cs.length = 6 ∧ cs.all (·.oneCell') = true := by
  cases c with
  | put p f =>
    obtain ⟨_, v, rfl, h3⟩ := h
    obtain ⟨_, _, rfl, _⟩ := h3.bytes
    exact ⟨rfl, by simp [Value.oneCell']⟩
  | mv s d => obtain ⟨_, _, rfl⟩ := h; exact ⟨rfl, by simp [Value.oneCell']⟩
  | del p => obtain ⟨_, rfl⟩ := h; exact ⟨rfl, by simp [Value.oneCell']⟩
theorem IsOp.bound {R : Nat → Prop} {w : World} {cs : List Value} {c : Ch} (h : IsOp R w cs c) : IsOp (fun k => R k ∧ k < w.heap.size) w cs c := by
  cases c with
  | put p f =>
    obtain ⟨h1, v, h2, h3⟩ := h
    exact ⟨h1, v, h2, h3.bound⟩
  | mv s d => exact h
  | del p => exact h

theorem ReadL.lt {α : Type} {w : World} {t : TypeId} {p : List Value → α → Prop} {v : Value} {xs : List α} (h : ReadL w t p v xs) : ∀ k, v.ownBlock = some k → k < w.heap.size := fun k hv => by
  obtain ⟨cs, fr, hb⟩ := h.typed k hv
  exact (Array.getElem?_eq_some_iff.1 hb).1
theorem ReadL.nil {α : Type} (w : World) (t : TypeId) (p : List Value → α → Prop) : ReadL w t p (.slice none 0 0) [] := ⟨[], Row.nil _, Typed.nil _ _ _ _, Each.nil _⟩
theorem OwnL.nil {α : Type} (w : World) (t : TypeId) (size : Nat) (p : List Value → α → Prop) : OwnL w t size p (.slice none 0 0) [] := ⟨[], World.ownsRow_nil _ _ _ _, Each.nil _⟩

abbrev IsRows (R : Nat → Prop) (w : World) (v : Value) (l : Files) : Prop := ReadL w 137 (IsRowR R w) v l
theorem ReadL.rows {R : Nat → Prop} {w w' : World} {v : Value} {l : Files} (h : IsRows R w v l) (hb : ∀ k, v.ownBlock = some k → w'.heap[k]? = w.heap[k]?) (hk : KeepR R w w') : IsRows R w' v l :=
  (ReadL.stay h hb).mono (fun c x hx => hx.keepR hk)
theorem ReadL.rowsExt {R : Nat → Prop} {w w' : World} {v : Value} {l : Files} (h : IsRows R w v l) (hx : Ext w w') : IsRows R w' v l :=
  h.rows (fun k hk => hx.block k (h.lt k hk)) (KeepR.of_keep (KeepB.of_ext hx))
theorem ReadL.rowsMono {R R' : Nat → Prop} {w : World} {v : Value} {l : Files} (h : IsRows R w v l) (hr : ∀ k, R k → R' k) : IsRows R' w v l :=
  h.mono (fun c x hx => hx.mono hr)

/-! ### A base world: what was there when the law's function was called -/
structure BaseW where
  w : World
def baseW [Inhabited BaseW] : World := (default : BaseW).w
variable [Inhabited BaseW]
/-- Bytes that were there. -/
structure OldB (v : Value) (l : B8) : Prop where
  bytes : IsBytes baseW v l
  low : ∀ a n c, v = .slice (some a) n c → n ≠ 0 → a.block < baseW.heap.size
def IsEvD (cs : List Value) (e : Ev) : Prop := ∃ vd, cs = [.int .i64 e.t, .int .i64 e.kind, .int .i64 e.mode, .int .i64 e.keep, .int .i64 e.torn, S8 e.path, vd] ∧ OldB vd e.data ∧ e.path.length ≤ 1000000
/-- .. as it comes in: its path may be of any length. -/
def IsEvI (cs : List Value) (e : Ev) : Prop := ∃ vd, cs = [.int .i64 e.t, .int .i64 e.kind, .int .i64 e.mode, .int .i64 e.keep, .int .i64 e.torn, S8 e.path, vd] ∧ OldB vd e.data
theorem IsEvI.length {cs : List Value} {e : Ev} (h : IsEvI cs e) : cs.length = 7 ∧ cs.all (·.oneCell') = true := by
  obtain ⟨v, rfl, h2⟩ := h
  obtain ⟨_, _, rfl, _⟩ := h2.bytes
  exact ⟨rfl, by simp [Value.oneCell']⟩
theorem IsEvI.up {cs : List Value} {e : Ev} (h : IsEvI cs e) (hp : e.path.length ≤ 400) : IsEvD cs e := by
  obtain ⟨v, h1, h2⟩ := h
  exact ⟨v, h1, h2, by omega⟩
theorem IsEvD.length {cs : List Value} {e : Ev} (h : IsEvD cs e) : cs.length = 7 ∧ cs.all (·.oneCell') = true := by
  obtain ⟨v, rfl, h2, _⟩ := h
  obtain ⟨_, _, rfl, _⟩ := h2.bytes
  exact ⟨rfl, by simp [Value.oneCell']⟩
theorem OldB.at {v : Value} {l : B8} {w : World} (h : OldB v l) (hx : Ext baseW w) : IsBytes w v l := h.bytes.ext hx
theorem OldB.out {v : Value} {l : B8} {w : World} {O : Nat → Prop} (h : OldB v l) (hO : ∀ k, O k → baseW.heap.size ≤ k) : Out O w v := fun a n c he hn => .inl fun ho => by have := h.low a n c he hn; have := hO _ ho; omega
theorem IsEvD.read {cs : List Value} {e : Ev} {w : World} (h : IsEvD cs e) (hx : Ext baseW w) : IsEvB w cs e := by
  obtain ⟨v, h1, h2, h3⟩ := h
  exact ⟨v, h1, h2.at hx, h3⟩

/-! ### The parts of the document's file system, but for its own block -/
structure RParts (O R : Nat → Prop) (w : World) (vn vs vp vl vu : Value) (now sure : Files) (pend : List Ch) (L users : List Ev) : Prop where
  now : IsRows R w vn now
  on : Inn O vn
  sure : IsRows R w vs sure
  os : Inn O vs
  pend : OwnL w 140 6 (IsOp R w) vp pend
  op : Inn O vp
  plan : OwnL w 116 7 IsEvD vl L
  ol : Inn O vl
  users : OwnL w 116 7 (IsEvR R w) vu users
  ou : Inn O vu
  off : ∀ k, vu.ownBlock = some k → vl.ownBlock ≠ some k
abbrev refCells (room : Int) (vn vs vp vl : Value) (calls time : Nat) (down : Bool) (vu : Value) : Array Value := #[.int .i64 room, vn, vs, vp, vl, .int .i64 calls, .int .i64 time, .bool down, vu]
def IsRef (O R : Nat → Prop) (w : World) (p : Value) (m : Fs) : Prop := ∃ (g : Nat) (vn vs vp vl vu : Value), p = .pointer (some ⟨g, 0, none⟩) ∧
    w.heap[g]? = some (.cells (refCells m.room vn vs vp vl m.calls m.time m.down vu) 86 (0, 0)) ∧ O g ∧ RParts O R w vn vs vp vl vu m.now m.sure m.pend m.plan m.users

section
variable {O R : Nat → Prop} {w w' : World} {vn vs vp vl vu : Value} {now sure : Files} {pend : List Ch} {L users : List Ev}
theorem RParts.mono {O' R' : Nat → Prop} (h : RParts O R w vn vs vp vl vu now sure pend L users) (ho : ∀ k, O k → O' k) (hr : ∀ k, R k → R' k) : RParts O' R' w vn vs vp vl vu now sure pend L users :=
  ⟨h.now.rowsMono hr, h.on.mono ho, h.sure.rowsMono hr, h.os.mono ho, h.pend.mono (fun c x hx => hx.mono hr), h.op.mono ho, h.plan, h.ol.mono ho, h.users.mono (fun c x hx => hx.mono hr), h.ou.mono ho, h.off⟩
theorem RParts.stay (h : RParts O R w vn vs vp vl vu now sure pend L users)
    (hn : ∀ k, vn.ownBlock = some k → w'.heap[k]? = w.heap[k]?) (hs : ∀ k, vs.ownBlock = some k → w'.heap[k]? = w.heap[k]?) (hp : ∀ k, vp.ownBlock = some k → w'.heap[k]? = w.heap[k]?) (hl : ∀ k, vl.ownBlock = some k → w'.heap[k]? = w.heap[k]?) (hu : ∀ k, vu.ownBlock = some k → w'.heap[k]? = w.heap[k]?) (hk : KeepR R w w') :
    RParts O R w' vn vs vp vl vu now sure pend L users :=
  ⟨h.now.rows hn hk, h.on, h.sure.rows hs hk, h.os, (h.pend.stay hp).mono (fun c x hx => hx.keepR hk), h.op, h.plan.stay hl, h.ol, (h.users.stay hu).mono (fun c x hx => hx.keepR hk), h.ou, h.off⟩
theorem RParts.stayO (h : RParts O R w vn vs vp vl vu now sure pend L users)
    (ho : ∀ k, O k → k < w.heap.size → w'.heap[k]? = w.heap[k]?) (hk : KeepR R w w') : RParts O R w' vn vs vp vl vu now sure pend L users :=
  h.stay (fun k hv => ho k (h.on k hv) (h.now.lt k hv)) (fun k hv => ho k (h.os k hv) (h.sure.lt k hv)) (fun k hv => ho k (h.op k hv) (h.pend.lt k hv)) (fun k hv => ho k (h.ol k hv) (h.plan.lt k hv)) (fun k hv => ho k (h.ou k hv) (h.users.lt k hv)) hk
theorem RParts.ext (h : RParts O R w vn vs vp vl vu now sure pend L users) (hx : Ext w w') : RParts O R w' vn vs vp vl vu now sure pend L users :=
  h.stayO (fun k _ hlt => hx.block k hlt) (KeepR.of_keep (KeepB.of_ext hx))
/-- .. where only the own block is written. -/
theorem RParts.own (h : RParts O R w vn vs vp vl vu now sure pend L users)
    {g : Nat} {cs : Array Value} {fr : Nat × Nat} (hg : w.heap[g]? = some (.cells cs 86 fr)) (hw : w.grownBy w' (some g)) : RParts O R w' vn vs vp vl vu now sure pend L users := by
  have ne : ∀ k, (∃ x, w.heap[k]? = some x ∧ x ≠ Obj.cells cs 86 fr) → w'.heap[k]? = w.heap[k]? := fun k ⟨x, hx, hn⟩ => hw.block k (Array.getElem?_eq_some_iff.1 hx).1 (by simpa using apart_kind hx hg hn)
  refine h.stay (fun k hv => ?_) (fun k hv => ?_) (fun k hv => ?_) (fun k hv => ?_) (fun k hv => ?_) (grownR hw (by rintro k hk; simp at hk; subst hk; exact cells_u8 hg (by kernel_rfl)))
  · obtain ⟨xs, f, hx⟩ := h.now.typed k hv; exact ne k ⟨_, hx, by simp⟩
  · obtain ⟨xs, f, hx⟩ := h.sure.typed k hv; exact ne k ⟨_, hx, by simp⟩
  · obtain ⟨xs, f, hx⟩ := h.pend.typed k hv; exact ne k ⟨_, hx, by simp⟩
  · obtain ⟨xs, f, hx⟩ := h.plan.typed k hv; exact ne k ⟨_, hx, by simp⟩
  · obtain ⟨xs, f, hx⟩ := h.users.typed k hv; exact ne k ⟨_, hx, by simp⟩
theorem RParts.setNow (h : RParts O R w vn vs vp vl vu now sure pend L users) {vn' : Value} {now' : Files} (hn : IsRows R w vn' now') (hi : Inn O vn') : RParts O R w vn' vs vp vl vu now' sure pend L users :=
  ⟨hn, hi, h.sure, h.os, h.pend, h.op, h.plan, h.ol, h.users, h.ou, h.off⟩
theorem RParts.setSure (h : RParts O R w vn vs vp vl vu now sure pend L users) {vs' : Value} {sure' : Files} (hn : IsRows R w vs' sure') (hi : Inn O vs') : RParts O R w vn vs' vp vl vu now sure' pend L users :=
  ⟨h.now, h.on, hn, hi, h.pend, h.op, h.plan, h.ol, h.users, h.ou, h.off⟩
theorem RParts.noPend (h : RParts O R w vn vs vp vl vu now sure pend L users) : RParts O R w vn vs (.slice none 0 0) vl vu now sure [] L users :=
  ⟨h.now, h.on, h.sure, h.os, OwnL.nil _ _ _ _, Inn.nil _ _ _, h.plan, h.ol, h.users, h.ou, h.off⟩
/-- .. where the changes' slice grows. -/
theorem RParts.appPend (h : RParts O R w vn vs vp vl vu now sure pend L users)
    (hw : w.grownBy w' vp.ownBlock) {vp' : Value} {pend' : List Ch} (hn : OwnL w' 140 6 (IsOp R w') vp' pend') (hi : Inn O vp') : RParts O R w' vn vs vp' vl vu now sure pend' L users := by
  have hk : KeepR R w w' := grownR hw (fun k hk => by obtain ⟨cs, fr, hx⟩ := h.pend.typed k hk; exact cells_u8 hx (by kernel_rfl))
  have ne : ∀ k, (∃ x, w.heap[k]? = some x ∧ ∀ cs fr, x ≠ Obj.cells cs 140 fr) → w'.heap[k]? = w.heap[k]? := fun k ⟨x, hx, hn⟩ => hw.block k (Array.getElem?_eq_some_iff.1 hx).1 (fun heq => by
    obtain ⟨cs, fr, hy⟩ := h.pend.typed k heq.symm
    rw [hx] at hy
    exact hn cs fr (Option.some.inj hy))
  refine ⟨h.now.rows (fun k hv => ?_) hk, h.on, h.sure.rows (fun k hv => ?_) hk, h.os, hn, hi, h.plan.stay (fun k hv => ?_), h.ol, (h.users.stay (fun k hv => ?_)).mono (fun c x hx => hx.keepR hk), h.ou, h.off⟩
  · obtain ⟨xs, f, hx⟩ := h.now.typed k hv; exact ne k ⟨_, hx, by simp⟩
  · obtain ⟨xs, f, hx⟩ := h.sure.typed k hv; exact ne k ⟨_, hx, by simp⟩
  · obtain ⟨xs, f, hx⟩ := h.plan.typed k hv; exact ne k ⟨_, hx, by simp⟩
  · obtain ⟨xs, f, hx⟩ := h.users.typed k hv; exact ne k ⟨_, hx, by simp⟩
theorem RParts.appUsers (h : RParts O R w vn vs vp vl vu now sure pend L users)
    (hw : w.grownBy w' vu.ownBlock) {vu' : Value} {users' : List Ev} (hn : OwnL w' 116 7 (IsEvR R w') vu' users') (hi : Inn O vu') (hoff : ∀ k, vu'.ownBlock = some k → vl.ownBlock ≠ some k) : RParts O R w' vn vs vp vl vu' now sure pend L users' := by
  have hk : KeepR R w w' := grownR hw (fun k hk => by obtain ⟨cs, fr, hx⟩ := h.users.typed k hk; exact cells_u8 hx (by kernel_rfl))
  have ne : ∀ k, (∃ x, w.heap[k]? = some x ∧ ∀ cs fr, x ≠ Obj.cells cs 116 fr) → w'.heap[k]? = w.heap[k]? := fun k ⟨x, hx, hn⟩ => hw.block k (Array.getElem?_eq_some_iff.1 hx).1 (fun heq => by
    obtain ⟨cs, fr, hy⟩ := h.users.typed k heq.symm
    rw [hx] at hy
    exact hn cs fr (Option.some.inj hy))
  refine ⟨h.now.rows (fun k hv => ?_) hk, h.on, h.sure.rows (fun k hv => ?_) hk, h.os, (h.pend.stay (fun k hv => ?_)).mono (fun c x hx => hx.keepR hk), h.op, h.plan.stay (fun k hv => ?_), h.ol, hn, hi, hoff⟩
  · obtain ⟨xs, f, hx⟩ := h.now.typed k hv; exact ne k ⟨_, hx, by simp⟩
  · obtain ⟨xs, f, hx⟩ := h.sure.typed k hv; exact ne k ⟨_, hx, by simp⟩
  · obtain ⟨xs, f, hx⟩ := h.pend.typed k hv; exact ne k ⟨_, hx, by simp⟩
  · obtain ⟨xs, f, hx⟩ := h.plan.typed k hv
    exact hw.block k (Array.getElem?_eq_some_iff.1 hx).1 (fun heq => h.off k heq.symm hv)
theorem RParts.bound (h : RParts O R w vn vs vp vl vu now sure pend L users) :
    RParts (fun k => O k ∧ k < w.heap.size) (fun k => R k ∧ k < w.heap.size) w vn vs vp vl vu now sure pend L users :=
  ⟨h.now.mono (fun c x hx => hx.bound), fun k hk => ⟨h.on k hk, h.now.lt k hk⟩, h.sure.mono (fun c x hx => hx.bound), fun k hk => ⟨h.os k hk, h.sure.lt k hk⟩, h.pend.mono (fun c x hx => hx.bound), fun k hk => ⟨h.op k hk, h.pend.lt k hk⟩, h.plan, fun k hk => ⟨h.ol k hk, h.plan.lt k hk⟩, h.users.mono (fun c x hx => hx.bound), fun k hk => ⟨h.ou k hk, h.users.lt k hk⟩, h.off⟩
end

/-! ### The whole -/
section
variable {O O' R R' : Nat → Prop} {w w' : World} {p : Value} {m : Fs}
theorem IsRef.mono (h : IsRef O R w p m) (ho : ∀ k, O k → O' k) (hr : ∀ k, R k → R' k) : IsRef O' R' w p m := by
  obtain ⟨g, vn, vs, vp, vl, vu, h1, h2, h3, h4⟩ := h
  exact ⟨g, vn, vs, vp, vl, vu, h1, h2, ho _ h3, h4.mono ho hr⟩
theorem IsRef.fit (h : IsRef (On O w.heap.size) (On R w.heap.size) w' p m) : IsRef (Nw O w w') (Nw R w w') w' p m := by
  obtain ⟨g, vn, vs, vp, vl, vu, h1, h2, h3, h4⟩ := h
  have hlt := (Array.getElem?_eq_some_iff.1 h2).1
  have hb : ∀ (S : Nat → Prop) k, On S w.heap.size k ∧ k < w'.heap.size → Nw S w w' k := fun S k hk => hk.1.imp id (fun h => ⟨h, hk.2⟩)
  exact ⟨g, vn, vs, vp, vl, vu, h1, h2, hb O g ⟨h3, hlt⟩, h4.bound.mono (hb O) (hb R)⟩
theorem IsRef.stay (h : IsRef O R w p m) (ho : ∀ k, O k → k < w.heap.size → w'.heap[k]? = w.heap[k]?) (hk : KeepR R w w') : IsRef O R w' p m := by
  obtain ⟨g, vn, vs, vp, vl, vu, h1, h2, h3, h4⟩ := h
  exact ⟨g, vn, vs, vp, vl, vu, h1, (ho g h3 (Array.getElem?_eq_some_iff.1 h2).1).trans h2, h3, h4.stayO ho hk⟩
theorem IsRef.other (h : IsRef O R w p m) (hf : Fr O' w w') (hd : ∀ k, O k → ¬ O' k) : IsRef O R w' p m :=
  h.stay (fun k hk hlt => hf.block k hlt (.inl (hd k hk))) (KeepR.of_keep hf.keep)
theorem IsRef.ext (h : IsRef O R w p m) (hx : Ext w w') : IsRef O R w' p m :=
  h.stay (fun k _ hlt => hx.block k hlt) (KeepR.of_keep (KeepB.of_ext hx))
end

/-- What a call leaves of the document's file system. -/
structure RefPost (O R : Nat → Prop) (w : World) (p : Value) (m : Fs) (w' : World) : Prop where
  fs : IsRef (Nw O w w') (Nw R w w') w' p m
  fr : Fr O w w'
section
variable {O R : Nat → Prop} {w wx w1 w' : World} {p : Value} {m m1 : Fs}
theorem RefPost.of_ext (hx : Ext w wx) (h : RefPost O (Nw R w wx) wx p m w') : RefPost O R w p m w' := by
  refine ⟨h.fs.mono (fun k hk => ?_) (fun k hk => hk.nw hx.size h.fr.size), (Fr.of_ext hx).trans (h.fr.mono fun k hk => .inl hk)⟩
  rcases hk with hk | hk
  · exact .inl hk
  · exact .inr ⟨Nat.le_trans hx.size hk.1, hk.2⟩
theorem RefPost.trans (h1 : RefPost O R w p m1 w1) (h : RefPost (Nw O w w1) (Nw R w w1) w1 p m w') : RefPost O R w p m w' :=
  ⟨h.fs.mono (fun k hk => hk.nw h1.fr.size h.fr.size) (fun k hk => hk.nw h1.fr.size h.fr.size), h1.fr.trans h.fr⟩
theorem RefPost.same (h : IsRef O R w p m) (hx : Ext w w') : RefPost O R w p m w' :=
  ⟨(h.ext hx).mono (fun k hk => .inl hk) (fun k hk => .inl hk), Fr.of_ext hx⟩
theorem RefPost.ext (h : RefPost O R w p m w1) (hx : Ext w1 w') : RefPost O R w p m w' := h.trans (RefPost.same h.fs hx)
theorem RefPost.pre (hx : Ext w wx) (h : RefPost O R wx p m w') : RefPost O R w p m w' := RefPost.of_ext hx ⟨h.fs.mono (fun k hk => hk) (fun k hk => hk.imp .inl id), h.fr⟩
end

end Go.Proofs.YtoajnaopainpnaaGreatDoor

/-! What the document's lists of files are, in plain Lean: places, files put in their places, what may be. No conditions. -/
namespace Go.Proofs.YtoajnaopainpnaaGreatDoor
open Go Go.RowKit

/-- The place of a path. -/
def PlaceOf (l : Files) (p : B8) (i : Int) : Prop := (look l p = none ∧ i = -1) ∨ ∃ (k : Nat) (f : Fi), i = k ∧ l[k]? = some (p, f) ∧ look l p = some f
theorem look_none {l : Files} {p : B8} (h : ∀ e ∈ l, e.1 ≠ p) : look l p = none := by
  unfold look
  rw [Option.map_eq_none_iff, List.find?_eq_none]
  intro e he
  simpa using h e he
theorem look_at : ∀ {l : Files} {p : B8} {k : Nat} {f : Fi}, (∀ e ∈ l.take k, e.1 ≠ p) → l[k]? = some (p, f) → look l p = some f
  | [], p, k, f, _, h => by simp at h
  | e :: l, p, 0, f, _, h => by
    have : e = (p, f) := by simpa using h
    subst this
    simp [look]
  | e :: l, p, k + 1, f, hn, h => by
    have h1 := look_at (l := l) (p := p) (k := k) (f := f) (fun e he => hn e (by simp [he])) (by simpa using h)
    have h2 : (e.1 == p) = false := by simpa using hn e (by simp)
    unfold look at h1 ⊢
    rw [List.find?_cons, h2]
    exact h1
theorem take_ne_snoc {l : Files} {p : B8} {k : Nat} {e : B8 × Fi} (h : ∀ e ∈ l.take k, e.1 ≠ p) (hk : l[k]? = some e) (he : e.1 ≠ p) : ∀ e ∈ l.take (k + 1), e.1 ≠ p := by
  intro x hx
  rw [List.take_add_one, hk, Option.toList_some] at hx
  rcases List.mem_append.1 hx with hx | hx
  · exact h x hx
  · have : x = e := by simpa using hx
    rw [this]; exact he
theorem delF_snoc {l : Files} {p : B8} {k : Nat} {e : B8 × Fi} (hk : l[k]? = some e) : delF (l.take (k + 1)) p = if e.1 = p then delF (l.take k) p else delF (l.take k) p ++ [e] := by
  unfold delF
  rw [List.take_add_one, hk, Option.toList_some, List.filter_append]
  by_cases h : e.1 = p
  · rw [if_pos h, List.filter_cons_of_neg (by simpa using h)]; simp
  · rw [if_neg h, List.filter_cons_of_pos (by simpa using h)]; simp
theorem insF_at (x : B8 × Fi) : ∀ (l : Files) (k : Nat), k ≤ l.length → (∀ j e, j < k → l[j]? = some e → ltB x.1 e.1 = false) → (∀ e, l[k]? = some e → ltB x.1 e.1 = true) → insF x l = l.take k ++ x :: l.drop k
  | [], k, hk, _, _ => by
    have : k = 0 := by simpa using hk
    subst this
    rfl
  | e :: l, 0, _, _, h => by
    have h1 := h e (by simp)
    simp [insF, h1]
  | e :: l, k + 1, hk, h1, h2 => by
    have h3 := h1 0 e (by omega) (by simp)
    have ih := insF_at x l k (by simpa using hk) (fun j e hj he => h1 (j + 1) e (by omega) (by simpa using he)) (fun e he => h2 e (by simpa using he))
    simp [insF, h3, ih]
theorem ltB_asymm {a b : B8} (h : ltB a b = true) : ltB b a = false := by
  cases hb : ltB b a with
  | false => rfl
  | true => exact absurd rfl (ltB_ne (ltB_trans h hb))
theorem putF_at {l : Files} {p : B8} {f : Fi} {k : Nat} (hk : k ≤ (delF l p).length) (h1 : ∀ j e, j < k → (delF l p)[j]? = some e → ltB e.1 p = true) (h2 : ∀ e, (delF l p)[k]? = some e → ltB e.1 p = false) : putF l p f = (delF l p).take k ++ (p, f) :: (delF l p).drop k :=
  insF_at (p, f) _ k hk (fun j e hj he => ltB_asymm (h1 j e hj he)) (fun e he => ltB_total (h2 e he) (delF_ne l p e (List.mem_of_getElem? he)))

def mayR (l : Files) (path : B8) : Bool := !(l.any fun e => isUnder path e.1 || isUnder e.1 path)
theorem mayR_nil {l : Files} {path : B8} (h : ∀ e ∈ l, e.1 ≠ []) : mayF l path [] = mayR l path := by
  unfold mayF mayR
  congr 1
  rw [Bool.eq_iff_iff, List.any_eq_true, List.any_eq_true]
  constructor
  · rintro ⟨e, he, hx⟩
    refine ⟨e, he, ?_⟩
    simp only [Bool.and_eq_true] at hx
    rw [Bool.or_comm]
    exact hx.2
  · rintro ⟨e, he, hx⟩
    refine ⟨e, he, ?_⟩
    have : (e.1 == ([] : B8)) = false := by simpa using h e he
    rw [this, Bool.or_comm]
    simpa using hx
theorem mayR_del {l : Files} {path but : B8} : mayF l path but = mayR (delF l but) path := by
  unfold mayF mayR delF
  congr 1
  rw [Bool.eq_iff_iff, List.any_eq_true, List.any_eq_true]
  constructor
  · rintro ⟨e, he, hx⟩
    simp only [Bool.and_eq_true] at hx
    refine ⟨e, List.mem_filter.2 ⟨he, hx.1⟩, ?_⟩
    rw [Bool.or_comm]
    exact hx.2
  · rintro ⟨e, he, hx⟩
    have h1 := List.mem_filter.1 he
    refine ⟨e, h1.1, ?_⟩
    simp only [Bool.and_eq_true]
    rw [Bool.or_comm]
    exact ⟨h1.2, hx⟩
theorem mayR_take {l : Files} {path : B8} {k : Nat} {e : B8 × Fi} (h : mayR (l.take k) path = true) (hk : l[k]? = some e) : mayR (l.take (k + 1)) path = !(isUnder path e.1 || isUnder e.1 path) := by
  unfold mayR at h ⊢
  rw [Bool.not_eq_true'] at h
  rw [List.take_add_one, hk, Option.toList_some, List.any_append, h]
  simp
theorem mayR_no {l : Files} {path : B8} {e : B8 × Fi} (he : e ∈ l) (h : (isUnder path e.1 || isUnder e.1 path) = true) : mayR l path = false := by
  unfold mayR
  rw [Bool.not_eq_false', List.any_eq_true]
  exact ⟨e, he, h⟩
theorem used_take {l : Files} {k : Nat} {e : B8 × Fi} (hk : l[k]? = some e) : usedF (l.take (k + 1)) = usedF (l.take k) + e.2.data.length := by
  unfold usedF
  rw [List.take_add_one, hk, Option.toList_some]
  simp
theorem used_take_le {l : Files} (k : Nat) : usedF (l.take k) ≤ usedF l := by
  have h := List.take_append_drop k l
  have : usedF l = usedF (l.take k) + usedF (l.drop k) := by
    conv => lhs; rw [← h]
    unfold usedF
    rw [List.map_append, List.sum_append]
  omega

end Go.Proofs.YtoajnaopainpnaaGreatDoor

/-! marref5: find, used: what is read of a list of files. Conditions: at most 10000000 files; short paths. -/
namespace Go.Proofs.YtoajnaopainpnaaGreatDoor
open Go Go.RowKit

theorem readL_get {α : Type} {t : TypeId} {w : World} {p : List Value → α → Prop} {v : Value} {xs : List α} (n : Nat) (hp : ∀ c x, p c x → c.length = n) (hn0 : 0 < n) (h : ReadL w t p v xs) : ∃ a cap, v = .slice a xs.length cap ∧ xs.length ≤ cap ∧ xs.length ≤ 140737488355328 ∧ cap ≤ 9223372036854775807 ∧
    ∀ (k : Nat) x, xs[k]? = some x → ∃ b o cs, a = some ⟨b, o, none⟩ ∧ p cs x ∧ ∀ j u, cs[j]? = some u → w.cell? ⟨b, o + k * n + j, none⟩ = some u := by
  obtain ⟨css, ⟨a, cap, rfl, h1, h2, h3, h4⟩, ht, he⟩ := h
  refine ⟨a, cap, rfl, h1, h3, h2, fun k x hk => ?_⟩
  have h7 : ∀ c ∈ css, c.length = n := fun c hc => by
    obtain ⟨i, hi, rfl⟩ := List.mem_iff_getElem.1 hc
    have hi2 : i < xs.length := by rw [← he.1]; exact hi
    exact hp _ _ (he.2 i css[i] xs[i] (List.getElem?_eq_getElem hi) (List.getElem?_eq_getElem hi2))
  have hkl : k < css.length := by rw [he.1]; exact (List.getElem?_eq_some_iff.1 hk).1
  have hev := he.2 k _ x (List.getElem?_eq_getElem hkl) hk
  have hf := fun j u hu => flat_get n css k j _ u h7 (List.getElem?_eq_getElem hkl) hu
  obtain ⟨b, o, rfl, hc⟩ := h4 (by
    intro hnil
    have h0 : (css[k])[0]? = some ((css[k])[0]'(by rw [hp _ _ hev]; exact hn0)) := List.getElem?_eq_getElem _
    have := hf 0 _ h0
    rw [hnil] at this
    simp at this)
  refine ⟨b, o, css[k], rfl, hev, fun j u hu => ?_⟩
  have := hc _ _ (hf j u hu)
  rwa [Nat.add_assoc, Nat.mul_comm k n]

theorem Row.stayN {w w' : World} {v : Value} {n : Nat} {cs : List Value} (h : Row w v n cs) (hb : cs ≠ [] → ∀ k, v.ownBlock = some k → w'.heap[k]? = w.heap[k]?) : Row w' v n cs := by
  obtain ⟨a, cap, rfl, h1, h2, h3, h4⟩ := h
  refine ⟨a, cap, rfl, h1, h2, h3, fun hn => ?_⟩
  obtain ⟨b, o, rfl, hc⟩ := h4 hn
  refine ⟨b, o, rfl, fun i u hu => ?_⟩
  rw [World.cell?_of_block (w := w) (w' := w') (a := ⟨b, o + i, none⟩) (hb hn b rfl)]
  exact hc i u hu
/-- A slice of another's, that is read alone: its block's type is not told. -/
def ReadO {α : Type} (w : World) (p : List Value → α → Prop) (v : Value) (xs : List α) : Prop := ∃ css : List (List Value), Row w v xs.length css.flatten ∧ (xs ≠ [] → ∀ k, v.ownBlock = some k → k < w.heap.size) ∧ Each p css xs
theorem ReadO.mono {α : Type} {w : World} {p q : List Value → α → Prop} {v : Value} {xs : List α} (h : ReadO w p v xs) (hpq : ∀ c x, p c x → q c x) : ReadO w q v xs := by
  obtain ⟨css, h1, h2, h3⟩ := h
  exact ⟨css, h1, h2, h3.imp hpq⟩
theorem ReadO.lt {α : Type} {w : World} {p : List Value → α → Prop} {v : Value} {xs : List α} (h : ReadO w p v xs) (hn : xs ≠ []) : ∀ k, v.ownBlock = some k → k < w.heap.size := by
  obtain ⟨css, h1, h2, h3⟩ := h
  exact h2 hn
theorem ReadO.stay {α : Type} {w w' : World} {p : List Value → α → Prop} {v : Value} {xs : List α} (h : ReadO w p v xs) (hs : w.heap.size ≤ w'.heap.size) (hb : xs ≠ [] → ∀ k, v.ownBlock = some k → w'.heap[k]? = w.heap[k]?) : ReadO w' p v xs := by
  obtain ⟨css, h1, h2, h3⟩ := h
  refine ⟨css, h1.stayN (fun hn => hb fun hx => hn ?_), fun hn k hk => Nat.lt_of_lt_of_le (h2 hn k hk) hs, h3⟩
  have : css = [] := List.eq_nil_of_length_eq_zero (by rw [h3.1, hx]; rfl)
  rw [this]; rfl
theorem readO_get {α : Type} {w : World} {p : List Value → α → Prop} {v : Value} {xs : List α} (n : Nat) (hp : ∀ c x, p c x → c.length = n) (hn0 : 0 < n) (h : ReadO w p v xs) : ∃ a cap, v = .slice a xs.length cap ∧ xs.length ≤ cap ∧ xs.length ≤ 140737488355328 ∧ cap ≤ 9223372036854775807 ∧
    ∀ (k : Nat) x, xs[k]? = some x → ∃ b o cs, a = some ⟨b, o, none⟩ ∧ p cs x ∧ ∀ j u, cs[j]? = some u → w.cell? ⟨b, o + k * n + j, none⟩ = some u := by
  obtain ⟨css, ⟨a, cap, rfl, h1, h2, h3, h4⟩, ht, he⟩ := h
  refine ⟨a, cap, rfl, h1, h3, h2, fun k x hk => ?_⟩
  have h7 : ∀ c ∈ css, c.length = n := fun c hc => by
    obtain ⟨i, hi, rfl⟩ := List.mem_iff_getElem.1 hc
    have hi2 : i < xs.length := by rw [← he.1]; exact hi
    exact hp _ _ (he.2 i css[i] xs[i] (List.getElem?_eq_getElem hi) (List.getElem?_eq_getElem hi2))
  have hkl : k < css.length := by rw [he.1]; exact (List.getElem?_eq_some_iff.1 hk).1
  have hev := he.2 k _ x (List.getElem?_eq_getElem hkl) hk
  have hf := fun j u hu => flat_get n css k j _ u h7 (List.getElem?_eq_getElem hkl) hu
  obtain ⟨b, o, rfl, hc⟩ := h4 (by
    intro hnil
    have h0 : (css[k])[0]? = some ((css[k])[0]'(by rw [hp _ _ hev]; exact hn0)) := List.getElem?_eq_getElem _
    have := hf 0 _ h0
    rw [hnil] at this
    simp at this)
  refine ⟨b, o, css[k], rfl, hev, fun j u hu => ?_⟩
  have := hc _ _ (hf j u hu)
  rwa [Nat.add_assoc, Nat.mul_comm k n]

/-- A file of a list, in its cells. -/
theorem rows_get {R : Nat → Prop} {w : World} {v : Value} {l : Files} (h : IsRows R w v l) : ∃ a cap, v = .slice a l.length cap ∧ l.length ≤ cap ∧ l.length ≤ 140737488355328 ∧ cap ≤ 9223372036854775807 ∧
    ∀ (k : Nat) q f, l[k]? = some (q, f) → ∃ b o s c, a = some ⟨b, o, none⟩ ∧ q.length ≤ 1000000 ∧ IsData R w (.slice s f.data.length c) f.data ∧ w.cell? ⟨b, o + k * 4, none⟩ = some (S8 q) ∧ w.cell? ⟨b, o + k * 4 + 1, none⟩ = some (.int .i64 f.mode) ∧ w.cell? ⟨b, o + k * 4 + 2, none⟩ = some (.slice s f.data.length c) ∧ w.cell? ⟨b, o + k * 4 + 3, none⟩ = some (.int .i64 f.time) := by
  obtain ⟨a, cap, h1, h2, h3, h4, h5⟩ := readL_get 4 (fun c x hx => hx.length.1) (by omega) h
  refine ⟨a, cap, h1, h2, h3, h4, fun k q f hk => ?_⟩
  obtain ⟨b, o, cs, ha, ⟨hq, vd, rfl, hd⟩, hc⟩ := h5 k (q, f) hk
  obtain ⟨s, c, rfl, -⟩ := id hd.bytes
  exact ⟨b, o, s, c, ha, hq, hd, hc 0 _ rfl, hc 1 _ rfl, hc 2 _ rfl, hc 3 _ rfl⟩

theorem tl (l : B8) : (⟨l.toArray⟩ : ByteArray).toList = l := Lib.toList_data _

set_option maxRecDepth 100000 in
set_option maxHeartbeats 1000000 in
theorem find_any {R : Nat → Prop} {w : World} {v : Value} {l : Files} (p : B8) (hv : IsRows R w v l) :
    Calls Tryz.prog 118 #[v, S8 p] w fun e w' => (∃ i : Int, e = .returned (.int .i64 i) ∧ PlaceOf l p i) ∧ Ext w w' := by
  obtain ⟨a, cap, rfl, h1, h2, h3, h4⟩ := rows_get hv
  have H4 : Hid _ := h4
  have htp := tl p
  clear h4 hv
  go_enter Tryz.func118, Tryz.ntmps118
  go_wp2
  go_loopw [5] (fun i wr => ∃ k : Nat, k ≤ l.length ∧ i = .int .i64 k ∧ (∀ e ∈ l.take k, e.1 ≠ p) ∧ Ext w wr) (fun i _ => l.length - (intOf i).toNat)
  case atStart => exact ⟨0, Nat.zero_le _, rfl, by simp, Ext.refl _⟩
  case round =>
    obtain ⟨k, hk, rfl, hn, hx⟩ := hrel
    have HN : Hid _ := hn
    clear hn
    by_cases hlt : k < l.length
    · obtain ⟨⟨q, f⟩, hke⟩ : ∃ e, l[k]? = some e := ⟨_, List.getElem?_eq_getElem hlt⟩
      obtain ⟨b, o, s, c, rfl, hql, hd, c0, -, -, -⟩ := H4.out k q f hke
      replace c0 := hx.cell c0
      have HK : Hid _ := hke
      have htq := tl q
      clear hd hke
      obtain ⟨bq, hbq⟩ : ∃ bq, (q == p) = bq := ⟨_, rfl⟩
      cases bq with
      | true =>
        go_wp2
        go_ret
        have hqp : q = p := by simpa using hbq
        subst hqp
        exact ⟨⟨_, rfl, .inr ⟨k, f, rfl, HK.out, look_at HN.out HK.out⟩⟩, hx⟩
      | false =>
        have HB : Hid (q ≠ p) := by simpa [Hid] using hbq
        go_wp2
        go_roundw
        case rel => exact ⟨k + 1, by omega, by go_num, take_ne_snoc HN.out HK.out HB.out, hx⟩
        case measure => simp [intOf]; omega
    · have hkk : k = l.length := by omega
      subst hkk
      go_wp2
      go_ret
      have hn := HN.out
      rw [List.take_length] at hn
      exact ⟨⟨_, rfl, .inl ⟨look_none hn, rfl⟩⟩, hx⟩

set_option maxRecDepth 100000 in
set_option maxHeartbeats 1000000 in
theorem usedR_any {R : Nat → Prop} {w : World} {v : Value} {l : Files} (hv : IsRows R w v l) (hu : usedF l ≤ 1000000000000) :
    Calls Tryz.prog 117 #[v] w fun e w' => e = .returned (.int .i64 (usedF l)) ∧ Ext w w' := by
  obtain ⟨a, cap, rfl, h1, h2, h3, h4⟩ := rows_get hv
  have H4 : Hid _ := h4
  obtain ⟨U, hU⟩ : ∃ U, usedF l = U := ⟨_, rfl⟩
  have HU : Hid _ := hU
  rw [hU] at hu
  clear h4 hv hU
  go_enter Tryz.func117, Tryz.ntmps117
  go_wp2
  go_loopw [3, 4] (fun n i wr => ∃ k m : Nat, k ≤ l.length ∧ i = .int .i64 k ∧ n = .int .i64 m ∧ m ≤ U ∧ usedF (l.take k) = m ∧ Ext w wr) (fun _ i _ => l.length - (intOf i).toNat)
  case atStart => exact ⟨0, 0, Nat.zero_le _, rfl, rfl, Nat.zero_le _, rfl, Ext.refl _⟩
  case round =>
    obtain ⟨k, m, hk, rfl, rfl, hmu, hm, hx⟩ := hrel
    have HM : Hid _ := hm
    clear hm
    by_cases hlt : k < l.length
    · obtain ⟨⟨q, f⟩, hke⟩ : ∃ e, l[k]? = some e := ⟨_, List.getElem?_eq_getElem hlt⟩
      obtain ⟨b, o, s, c, rfl, hql, hd, -, -, c2, -⟩ := H4.out k q f hke
      replace c2 := hx.cell c2
      have hst := used_take hke
      have hle := @used_take_le l (k + 1)
      rw [hst, HM.out, HU.out] at hle
      rw [HM.out] at hst
      dsimp only at hst hle
      have HS : Hid _ := hst
      clear hd hke hst
      go_wp2
      go_roundw
      case rel => exact ⟨k + 1, m + f.data.length, by omega, by go_num, by go_num, hle, HS.out, hx⟩
      case measure => simp [intOf]; omega
    · have hkk : k = l.length := by omega
      subst hkk
      go_wp2
      go_ret
      have hn := HM.out
      rw [List.take_length] at hn
      exact ⟨ret_i (by rw [hn]), hx⟩

end Go.Proofs.YtoajnaopainpnaaGreatDoor

/-! A region that draws its order and whose operations write: what holds of the world is said of each set of those operations that have been done. Conditions: each operation of the head goes on from each such set. -/
namespace Go.Proofs.YtoajnaopainpnaaGreatDoor
open Go Go.RowKit

def getP (V : List (Value → Prop)) (k : Nat) : Value → Prop := V.getD k (fun _ => True)
/-- What the marked operations have handed back so far. -/
def zOf (K : List Bool) (listed : Array Bool) (xs : Nat → Value) : Nat → Option Value := fun j => if K.getD j false && listed.getD j false then some (xs j) else none
def zAll (K : List Bool) (xs : Nat → Value) : Nat → Option Value := fun j => if K.getD j false then some (xs j) else none
def zSet (z : Nat → Option Value) (k : Nat) (u : Value) : Nat → Option Value := fun j => if j = k then some u else z j
def knowsI (K : List Bool) (V : List (Value → Prop)) (z : Nat → Option Value) (xs : Nat → Value) : List Nat → Prop
  | [] => True
  | j :: l => (if K.getD j false then z j = some (xs j) else getP V j (xs j)) ∧ knowsI K V z xs l
theorem knowsI_of {K : List Bool} {V : List (Value → Prop)} {z : Nat → Option Value} {xs : Nat → Value} : ∀ {l : List Nat}, (∀ j ∈ l, if K.getD j false then z j = some (xs j) else getP V j (xs j)) → knowsI K V z xs l
  | [], _ => trivial
  | j :: l, h => ⟨h j (by simp), knowsI_of fun i hi => h i (by simp [hi])⟩

section
variable {P : Program} {J : (Nat → Option Value) → World → Prop}
def stepI (P : Program) (J : (Nat → Option Value) → World → Prop) (ops : Array Oper) (K : List Bool) (V : List (Value → Prop)) (head : List Oper) (a0 : Act) (k : Nat) (d : List Nat) (o : Oper) : Bool → Prop
  | true => ∀ (xs : Nat → Value) (z : Nat → Option Value) (w : World), J z w → z k = none → knowsI K V z xs d → ∀ R : Value → World → Prop, (∀ u w', J (zSet z k u) w' → R u w') →
    if Region.wanted o (yielded ops (fillFrom xs head 0 a0).tmps) then relUpon P R ((execOp (fillFrom xs head 0 a0).eval o).run P w) else R undef w
  | false => ∀ (xs : Nat → Value) (z : Nat → Option Value) (w : World), J z w → knowsI K V z xs d → ∀ R : Value → World → Prop, (∀ u w', J z w' → getP V k u → R u w') →
    if Region.wanted o (yielded ops (fillFrom xs head 0 a0).tmps) then relUpon P R ((execOp (fillFrom xs head 0 a0).eval o).run P w) else R undef w
def oblI (P : Program) (J : (Nat → Option Value) → World → Prop) (ops : Array Oper) (K : List Bool) (V : List (Value → Prop)) (D : List (List Nat)) (head : List Oper) (a0 : Act) : List Oper → List Bool → Nat → Prop
  | [], _, _ => True
  | _ :: _, [], _ => False
  | o :: l, b :: ks, k => stepI P J ops K V head a0 k (D.getD k []) o b ∧ oblI P J ops K V D head a0 l ks (k + 1)
theorem oblI_get {ops : Array Oper} {K : List Bool} {V : List (Value → Prop)} {D : List (List Nat)} {head : List Oper} {a0 : Act} :
    ∀ {l : List Oper} {ks : List Bool} {k : Nat}, oblI P J ops K V D head a0 l ks k → ∀ i o, l[i]? = some o → stepI P J ops K V head a0 (k + i) (D.getD (k + i) []) o (ks.getD i false)
  | [], _, _, _, i, o, h => by simp at h
  | _ :: _, [], _, h, _, _, _ => h.elim
  | p :: l, b :: ks, k, h, 0, o, ho => by
    have : p = o := by simpa using ho
    subst this
    simpa using h.1
  | p :: l, b :: ks, k, h, i + 1, o, ho => by
    have := oblI_get h.2 i o (by simpa using ho)
    rw [show k + 1 + i = k + (i + 1) by omega] at this
    simpa using this

structure IInv (J : (Nat → Option Value) → World → Prop) (ops : Array Oper) (n : Nat) (K : List Bool) (V : List (Value → Prop)) (a0 : Act) (listed : Array Bool) (a : Act) (w : World) : Prop where
  head : HeadInv .any ops n listed
  fill : ∃ xs : Nat → Value, a = fillFrom xs (ops.toList.take n) 0 a0 ∧ J (zOf K listed xs) w ∧ ∀ j, j < n → listed.getD j false = true → K.getD j false = false → getP V j (xs j)

theorem wpAny_inv {ops : Array Oper} {n : Nat} {K : List Bool} {V : List (Value → Prop)} {D : List (List Nat)} {a0 : Act} {Q : Exit → Act → World → Prop} (hK : K.length = n)
    (hB : relB ops n D = true) (hs : oblI P J ops K V D (ops.toList.take n) a0 (ops.toList.take n) K 0)
    (hQ : ∀ xs w, J (zAll K xs) w → (∀ j, j < n → K.getD j false = false → getP V j (xs j)) → wpList P ops Q (ops.toList.drop n) (fillFrom xs (ops.toList.take n) 0 a0) w) :
    ∀ (f : Nat) (listed : Array Bool) (a : Act) (w : World), left n listed = f → IInv J ops n K V a0 listed a w → wpAny P .any ops Q (f + (ops.size - n)) listed a w := by
  simp only [relB, Bool.and_eq_true, Bool.or_eq_true, decide_eq_true_eq] at hB
  obtain ⟨⟨⟨⟨⟨hn, hback⟩, hdeps⟩, hnd⟩, htail⟩, hseq⟩ := hB
  intro f
  induction f with
  | zero =>
    intro listed a w hl inv
    have hall := left_zero hl
    have hall2 : ∀ j, j < n → listed.getD j false = true := fun j hj => by
      have := hall j hj
      rwa [getD_of_size (by rw [inv.head.size]; omega) true false] at this
    have harr : listed = headArr ops.size n := by
      apply Array.ext_getElem?
      intro i
      have hsz := inv.head.size
      unfold headArr
      by_cases h1 : i < n
      · have := hall i h1
        have hi : i < listed.size := by omega
        simp only [hi, Array.getD_eq_getD_getElem?, Array.getElem?_eq_getElem, Option.getD_some] at this
        rw [Array.getElem?_append_left (by simpa using h1)]
        simp [hi, h1, this]
      · by_cases h2 : i < ops.size
        · have := inv.head.tail i (by omega) h2
          have hi : i < listed.size := by omega
          simp only [hi, Array.getD_eq_getD_getElem?, Array.getElem?_eq_getElem, Option.getD_some] at this
          rw [Array.getElem?_append_right (by simpa using h1)]
          simp only [hi, Array.getElem?_eq_getElem, this]
          rw [Array.getElem?_replicate, if_pos (by simp; omega)]
        · rw [Array.getElem?_eq_none (by omega), Array.getElem?_eq_none (by simp; omega)]
    obtain ⟨xs, ha, hj, hx⟩ := inv.fill
    have hz : zOf K listed xs = zAll K xs := by
      funext j
      unfold zOf zAll
      by_cases hjn : j < n
      · rw [hall2 j hjn, Bool.and_true]
      · have : K.getD j false = false := by
          rw [List.getD_eq_getElem?_getD, List.getElem?_eq_none (by omega)]; rfl
        rw [this, Bool.false_and]
    rw [hz] at hj
    have := hQ xs w hj (fun j hjn hkj => hx j hjn (hall2 j hjn) hkj)
    rw [← ha] at this
    rw [Nat.zero_add]
    have h2 := wpAny_of_seq (md := .any) (Q' := Q) (ops.toList.drop n) n listed a w (fun j => by simp [List.getElem?_drop]) (by rw [harr]; simpa using hseq) this
    simpa using h2
  | succ f ih =>
    intro listed a w hl inv
    rw [show f + 1 + (ops.size - n) = (f + (ops.size - n)) + 1 by omega]
    -- one of the head is yet to come
    have hex : ∃ i, i < n ∧ listed.getD i true = false := by
      have h1 : 0 < ((List.range n).filter fun i => !listed.getD i true).length := by unfold left at hl; omega
      obtain ⟨i, hi⟩ := List.exists_mem_of_length_pos h1
      simp only [List.mem_filter, List.mem_range] at hi
      exact ⟨i, hi.1, by simpa using hi.2⟩
    have hready : ∃ i, i < n ∧ i ∈ Region.ready .any ops listed := by
      obtain ⟨i, hi, hu⟩ := hex
      revert hi hu
      induction i using Nat.strongRecOn with
      | _ i ihh =>
        intro hi hu
        have hlt : i < ops.size := by omega
        by_cases hr : i ∈ Region.ready .any ops listed
        · exact ⟨i, hi, hr⟩
        · have ho : ops[i]? = some ops[i] := Array.getElem?_eq_getElem hlt
          have hb := List.all_eq_true.1 hback i (List.mem_range.2 hlt)
          rw [ho] at hb
          simp only [Option.map_some, Option.getD_some] at hb
          have : ∃ e ∈ ops[i].after, Region.binds .any e = true ∧ listed.getD e.on false = false := by
            apply Classical.byContradiction
            intro hno
            apply hr
            rw [mem_ready]
            refine ⟨hu, ops[i], ho, fun e he hbd => ?_⟩
            cases hq : listed.getD e.on false with
            | true => rfl
            | false => exact absurd ⟨e, he, hbd, hq⟩ hno
          obtain ⟨e, he, hbd, hq⟩ := this
          have hlt2 := Array.all_eq_true'.1 hb e he
          simp only [hbd, Bool.not_true, Bool.false_or, decide_eq_true_eq] at hlt2
          exact ihh e.on hlt2 (by omega) (getD_in (by rw [inv.head.size]; omega) hq)
    refine ⟨fun h0 => ?_, fun i hi => ?_⟩
    · obtain ⟨i, _, hr⟩ := hready
      rw [h0] at hr; cases hr
    · have hin : i < n := by
        rcases Nat.lt_or_ge i n with h | h
        · exact h
        · exfalso
          rcases htail with h2 | ⟨⟨hlt, hsk⟩, hch⟩
          · obtain ⟨_, o, ho, _⟩ := mem_ready.1 hi
            have := (Array.getElem?_eq_some_iff.1 ho).1
            omega
          · obtain ⟨j, hj, hu⟩ := hex
            exact tail_waits hsk hch hlt inv.head _ j rfl hj hu i h hi
      obtain ⟨hu, o, ho, hw⟩ := mem_ready.1 hi
      obtain ⟨xs, ha, hj, hx⟩ := inv.fill
      have hoi : (ops.toList.take n)[i]? = some o := by simp [hin, ho]
      have hst := oblI_get hs i o hoi
      rw [Nat.zero_add] at hst
      have hui : listed.getD i false = false := getD_both hu
      have hkn : knowsI K V (zOf K listed xs) xs (D.getD i []) := knowsI_of fun j hj => by
        have h1 := List.all_eq_true.1 hdeps i (List.mem_range.2 (by omega))
        have h2 := List.all_eq_true.1 h1 j hj
        obtain ⟨o', ho', e, he, hb, hon⟩ := Region.waitsFor_spec h2
        have : o' = o := Option.some.inj (ho'.symm.trans ho)
        subst this
        have h3 := hw e he hb
        rw [hon] at h3
        have hjn : j < n := by
          have hb1 := List.all_eq_true.1 hback i (List.mem_range.2 (by omega))
          rw [ho] at hb1
          simp only [Option.map_some, Option.getD_some] at hb1
          have h4 := Array.all_eq_true'.1 hb1 e he
          simp only [hb, Bool.not_true, Bool.false_or, decide_eq_true_eq] at h4
          omega
        cases hkj : K.getD j false with
        | true => simp only [if_true, zOf, hkj, h3, Bool.and_self]
        | false => simpa using hx j hjn h3 hkj
      have hnext : ∀ u w', J (zOf K (listed.setIfInBounds i true) (upd xs i u)) w' → (K.getD i false = false → getP V i u) → wpAny P .any ops Q (f + (ops.size - n)) (listed.setIfInBounds i true) (a.put o.dst u) w' := fun u w' h1 h2 => by
        refine ih (listed.setIfInBounds i true) (a.put o.dst u) w' ?_ ⟨inv.head.set hi hin, upd xs i u, ?_, h1, ?_⟩
        · have := left_set hin hu
          omega
        · rw [ha, fill_put xs u (ops.toList.take n) 0 i a0 o hnd hoi, Nat.zero_add]
        · intro j hjn hlj hkj
          by_cases hji : j = i
          · subst hji; simpa [upd] using h2 hkj
          · rw [getD_set_ne false (Ne.symm hji)] at hlj
            simp only [upd, hji, if_false]
            exact hx j hjn hlj hkj
      have hisz : i < listed.size := by
        obtain ⟨hi2, _⟩ := Array.getElem?_eq_some_iff.1 ho
        rw [inv.head.size]; exact hi2
      have hself : (listed.setIfInBounds i true).getD i false = true := by simp [hisz]
      cases hki : K.getD i false with
      | true =>
        rw [hki] at hst
        have hz0 : zOf K listed xs i = none := by simp only [zOf, hui, Bool.and_false, Bool.false_eq_true, if_false]
        have hzz : ∀ u, zOf K (listed.setIfInBounds i true) (upd xs i u) = zSet (zOf K listed xs) i u := fun u => by
          funext j
          by_cases hji : j = i
          · subst hji; simp only [zOf, zSet, hki, hself, Bool.and_self, if_true, upd]
          · simp only [zOf, zSet, hji, if_false, upd, getD_set_ne false (Ne.symm hji)]
        have hstep := hst xs _ w hj hz0 hkn (fun u w' => J (zSet (zOf K listed xs) i u) w') (fun u w' h => h)
        rw [← ha] at hstep
        have hres := wp_of_rel (P := P) (ops := ops) (Q := Q) (K := wpAny P .any ops Q (f + (ops.size - n)) (listed.setIfInBounds i true)) (fun u w' h => hnext u w' (by rw [hzz]; exact h) (fun h => by rw [hki] at h; cases h)) hstep
        unfold wpOp
        simp only [ho]
        exact hres
      | false =>
        rw [hki] at hst
        have hzz : ∀ u, zOf K (listed.setIfInBounds i true) (upd xs i u) = zOf K listed xs := fun u => by
          funext j
          by_cases hji : j = i
          · subst hji; simp only [zOf, hki, Bool.false_and, Bool.false_eq_true, if_false]
          · simp only [zOf, hji, if_false, upd, getD_set_ne false (Ne.symm hji)]
        have hstep := hst xs _ w hj hkn (fun u w' => J (zOf K listed xs) w' ∧ getP V i u) (fun u w' h h2 => ⟨h, h2⟩)
        rw [← ha] at hstep
        have hres := wp_of_rel (P := P) (ops := ops) (Q := Q) (K := wpAny P .any ops Q (f + (ops.size - n)) (listed.setIfInBounds i true)) (fun u w' h => hnext u w' (by rw [hzz]; exact h.1) (fun _ => h.2)) hstep
        unfold wpOp
        simp only [ho]
        exact hres

/-- Of each operation that is not marked: a value ('none': the one of the list), or what is known of it. -/
def mixP : List Value → List (Option (Value → Prop)) → List (Value → Prop)
  | c :: cs, none :: l => (fun u => u = c) :: mixP cs l
  | _ :: cs, some V :: l => V :: mixP cs l
  | _, _ => []
def heldI : List Bool → List Value → List (Option (Value → Prop)) → Nat → (Nat → Value) → Prop
  | true :: ks, _ :: cs, _ :: l, k, xs => heldI ks cs l (k + 1) xs
  | false :: ks, c :: cs, none :: l, k, xs => xs k = c ∧ heldI ks cs l (k + 1) xs
  | false :: ks, _ :: cs, some V :: l, k, xs => V (xs k) ∧ heldI ks cs l (k + 1) xs
  | _, _, _, _, _ => True
theorem heldI_of (xs : Nat → Value) : ∀ (ks : List Bool) (cs : List Value) (l : List (Option (Value → Prop))) (k : Nat), (∀ j, j < ks.length → ks.getD j false = false → getP (mixP cs l) j (xs (k + j))) → heldI ks cs l k xs := by
  intro ks
  induction ks with
  | nil => intro cs l k _; simp [heldI]
  | cons b ks ih =>
    intro cs l k h
    cases cs with
    | nil => cases b <;> simp [heldI]
    | cons c cs =>
      cases l with
      | nil => cases b <;> simp [heldI]
      | cons o l =>
        have hr : heldI ks cs l (k + 1) xs := ih cs l (k + 1) fun j hj hk => by
          have := h (j + 1) (by simp; omega) (by simpa using hk)
          rw [show k + (j + 1) = k + 1 + j by omega] at this
          cases o <;> simpa [getP, mixP] using this
        cases b with
        | true => simpa [heldI] using hr
        | false =>
          have h0 := h 0 (by simp) (by simp)
          cases o with
          | none => exact ⟨by simpa [getP, mixP] using h0, hr⟩
          | some V => exact ⟨by simpa [getP, mixP] using h0, hr⟩

/-- A region that draws its order: its head by each operation alone, its tail in the text's order. -/
theorem wp_region_inv {id : Nat} {Q : Exit → Act → World → Prop} {a : Act} {w : World} {l : List Oper} (n : Nat) (J : (Nat → Option Value) → World → Prop) (K : List Bool) (cs : List Value) (W : List (Option (Value → Prop))) (D : List (List Nat))
    (hm : P.follows .mixedOrders = true) (hB : relB l.toArray n D = true) (hK : K.length = n) (hJ : J (fun _ => none) { w with drawn := w.drawn + 1 })
    (hs : oblI P J l.toArray K (mixP cs W) D (l.take n) a (l.take n) K 0)
    (hQ : ∀ xs w', J (zAll K xs) w' → heldI K cs W 0 xs → wpList P l.toArray Q (l.drop n) (fillFrom xs (l.take n) 0 a) w') :
    (Code.region id l.toArray true).wp P Q a w := by
  refine wp_region_any hm ?_
  have hn : n ≤ l.toArray.size := by
    simp only [relB, Bool.and_eq_true, decide_eq_true_eq] at hB
    exact hB.1.1.1.1.1
  obtain ⟨xs0, h0⟩ := fill_self (l.take n) 0 a
  have hl : left n (Array.replicate l.toArray.size false) = n := by
    unfold left
    rw [List.filter_eq_self.2]
    · simp
    · intro i hi
      have : i < l.toArray.size := by have := List.mem_range.1 hi; omega
      simp at this
      simp [this]
  have hz0 : zOf K (Array.replicate l.toArray.size false) xs0 = fun _ => none := by
    funext j
    unfold zOf
    rw [getD_replicate_false, Bool.and_false]
    rfl
  have H := wpAny_inv (P := P) (J := J) (Q := Q) (a0 := a) hK hB (by simpa using hs) (by
      intro xs w' h1 h2
      have := hQ xs w' h1 (heldI_of xs K cs W 0 fun j hj hk => by rw [Nat.zero_add]; exact h2 j (by omega) hk)
      simpa using this) n (Array.replicate l.toArray.size false) a { w with drawn := w.drawn + 1 } hl
    ⟨⟨by simp, fun j oj _ hl => (by rw [getD_replicate_false] at hl; cases hl), fun t _ ht => getD_in (by simpa using ht) (getD_replicate_false _ _)⟩,
      xs0, by simpa using (h0 xs0 (fun _ _ => rfl)).symm, by rw [hz0]; exact hJ, fun j _ hl => (by rw [getD_replicate_false] at hl; cases hl)⟩
  rw [show n + (l.toArray.size - n) = l.toArray.size by omega] at H
  exact H
end

end Go.Proofs.YtoajnaopainpnaaGreatDoor

/-! marref5: without, with: lists of files in new blocks. Conditions: at most 1000000 files; short paths. -/
namespace Go.Proofs.YtoajnaopainpnaaGreatDoor
open Go Go.RowKit

theorem info_row : (Tryz.prog.info? 137).map (fun i => (i.zero, i.size, i.bytes)) = some (some (.agg #[S8 [], .int .i64 0, .slice none 0 0, .int .i64 0]), 4, 56) := by kernel_rfl

/-- Rows in a new block. -/
def OwnRows (base : Nat) (R : Nat → Prop) (w : World) (v : Value) (l : Files) : Prop := ∃ css : List (List Value), w.ownsRow base 137 4 v l.length css.flatten ∧ Each (IsRowR R w) css l
theorem OwnRows.rows {base : Nat} {R : Nat → Prop} {w : World} {v : Value} {l : Files} (h : OwnRows base R w v l) (hl : l.length ≤ 10000000) : IsRows R w v l := by
  obtain ⟨css, h1, h2⟩ := h
  exact ⟨css, Row.of_owns h1 (by omega), Typed.of_owns h1, h2⟩
theorem OwnRows.lt {base : Nat} {R : Nat → Prop} {w : World} {v : Value} {l : Files} (h : OwnRows base R w v l) {k : Nat} (hk : v.ownBlock = some k) : base ≤ k ∧ k < w.heap.size := by
  obtain ⟨css, h1, h2⟩ := h
  exact h1.lt k hk
theorem Each.len {α : Type} {p : List Value → α → Prop} {css : List (List Value)} {xs : List α} (h : Each p css xs) {n : Nat} (hp : ∀ c x, p c x → c.length = n) : ∀ c ∈ css, c.length = n := fun c hc => by
  obtain ⟨i, hi, rfl⟩ := List.mem_iff_getElem.1 hc
  have hi2 : i < xs.length := by rw [← h.1]; exact hi
  exact hp _ _ (h.2 i css[i] xs[i] (List.getElem?_eq_getElem hi) (List.getElem?_eq_getElem hi2))
theorem flat_len {n : Nat} : ∀ {css : List (List Value)}, (∀ c ∈ css, c.length = n) → css.flatten.length = css.length * n
  | [], _ => by simp
  | c :: css, h => by
    rw [List.flatten_cons, List.length_append, h c (by simp), flat_len (fun c hc => h c (by simp [hc])), List.length_cons, Nat.add_mul]
    omega
theorem Each.one {α : Type} {p : List Value → α → Prop} {css : List (List Value)} {xs : List α} (h : Each p css xs) (hp : ∀ c x, p c x → c.all (·.oneCell') = true) : ∀ u ∈ css.flatten, u.oneCell' = true := fun u hu => by
  obtain ⟨c, hc, hu⟩ := List.mem_flatten.1 hu
  obtain ⟨i, hi, rfl⟩ := List.mem_iff_getElem.1 hc
  have hi2 : i < xs.length := by rw [← h.1]; exact hi
  exact List.all_eq_true.1 (hp _ _ (h.2 i css[i] xs[i] (List.getElem?_eq_getElem hi) (List.getElem?_eq_getElem hi2))) u hu
theorem Each.take {α : Type} {p : List Value → α → Prop} {css : List (List Value)} {xs : List α} (h : Each p css xs) (k : Nat) : Each p (css.take k) (xs.take k) := by
  refine ⟨by simp [h.1], fun i c x hc hx => ?_⟩
  rw [List.getElem?_take] at hc hx
  split at hc
  · rename_i hi
    rw [if_pos hi] at hx
    exact h.2 i c x hc hx
  · cases hc
theorem Each.drop {α : Type} {p : List Value → α → Prop} {css : List (List Value)} {xs : List α} (h : Each p css xs) (k : Nat) : Each p (css.drop k) (xs.drop k) := by
  refine ⟨by simp [h.1], fun i c x hc hx => ?_⟩
  rw [List.getElem?_drop] at hc hx
  exact h.2 _ c x hc hx
theorem Each.append {α : Type} {p : List Value → α → Prop} {css ds : List (List Value)} {xs ys : List α} (h : Each p css xs) (k : Each p ds ys) : Each p (css ++ ds) (xs ++ ys) := by
  refine ⟨by simp [h.1, k.1], fun i c x hc hx => ?_⟩
  rw [List.getElem?_append] at hc hx
  by_cases hi : i < css.length
  · rw [if_pos hi] at hc
    rw [if_pos (by rw [← h.1]; exact hi)] at hx
    exact h.2 i c x hc hx
  · rw [if_neg hi] at hc
    rw [if_neg (by rw [← h.1]; exact hi)] at hx
    rw [← h.1] at hx
    exact k.2 _ c x hc hx
theorem flat_take {n : Nat} : ∀ {css : List (List Value)} (k : Nat), (∀ c ∈ css, c.length = n) → css.flatten.take (k * n) = (css.take k).flatten
  | css, 0, _ => by simp
  | [], k + 1, _ => by simp
  | c :: css, k + 1, h => by
    have hc := h c (by simp)
    rw [List.flatten_cons, List.take_succ_cons, List.flatten_cons, List.take_append, ← flat_take k (fun c hc => h c (by simp [hc]))]
    rw [List.take_of_length_le (by rw [hc, Nat.add_mul]; omega), hc, show (k + 1) * n - n = k * n by rw [Nat.add_mul]; omega]
theorem flat_drop {n : Nat} : ∀ {css : List (List Value)} (k : Nat), (∀ c ∈ css, c.length = n) → css.flatten.drop (k * n) = (css.drop k).flatten
  | css, 0, _ => by simp
  | [], k + 1, _ => by simp
  | c :: css, k + 1, h => by
    have hc := h c (by simp)
    rw [List.flatten_cons, List.drop_succ_cons, List.drop_append, ← flat_drop k (fun c hc => h c (by simp [hc]))]
    rw [List.drop_of_length_le (by rw [hc, Nat.add_mul]; omega), hc, show (k + 1) * n - n = k * n by rw [Nat.add_mul]; omega, List.nil_append]

section
variable {ops : Array Oper} {rest : List Oper} {o : Oper} {a : Act} {Q : Exit → Act → World → Prop} {w : World}
/-- append of one row. -/
theorem app_row (hgd : o.guard = none) (s x : Operand) (ho : o.op = .call { callee := .builtin .append, args := #[s, x], argTypes := #[82, 82] })
    (base : Nat) (v : Value) (n : Nat) (xs : List Value) (hs : a.eval s = v) (hown : w.ownsRow base 137 4 v n xs)
    (g c : Nat) (news : List Value) (hx : a.eval x = .slice (some ⟨g, 0, none⟩) 1 c) (hl : news.length = 4) {fr : Nat × Nat} (hg : w.heap[g]? = some (.cells news.toArray 137 fr)) (h1 : news.all (·.oneCell') = true)
    (hb : n ≤ 10000000) (hbase : base ≤ w.heap.size)
    (h : ∀ v' w', w'.ownsRow base 137 4 v' (n + 1) (xs ++ news) → w.grownBy w' v.ownBlock → wpList Tryz.prog ops Q rest (a.put o.dst v') w') : wpList Tryz.prog ops Q (o :: rest) a w :=
  app_any _ _ _ 4 56 Tryz.underlying82 info_row rfl (by omega) hgd s x ho base v n _ hs hown ⟨g, 0, none⟩ 1 c _ hx (by simpa using hl) (by simpa using news_of_block hg) (fun u hu => List.all_eq_true.1 h1 u hu) (by omega) (by omega) hbase
    (fun v' w' h1 h2 _ => h v' w' h1 h2)
end
/-- append of rows, of whatever slice. -/
theorem app_rows_run {w : World} (base : Nat) (v : Value) (n : Nat) (xs : List Value) (hown : w.ownsRow base 137 4 v n xs) (x : Value) (m : Nat) (news : List Value) (hx : Row w x m news) (hl : news.length = m * 4) (h1 : ∀ u ∈ news, u.oneCell' = true) (hb : n + m ≤ 1000000000) (hbase : base ≤ w.heap.size) :
    ∃ v' w', (Builtin.append_ #[82, 82] 82 #[v, x]).run Tryz.prog w = .ok v' w' ∧ w'.ownsRow base 137 4 v' (n + m) (xs ++ news) ∧ w.grownBy w' v.ownBlock ∧ (v'.ownBlock = v.ownBlock ∨ v'.ownBlock = some w.heap.size) := by
  obtain ⟨i0, hi, hz0, hz1, hz2⟩ := info_parts info_row
  obtain ⟨a, cap, rfl, k1, k2, k3, k4⟩ := hx
  cases a with
  | none =>
    have hn : news = [] := by
      cases news with
      | nil => rfl
      | cons y l => obtain ⟨b, o, he, _⟩ := k4 (by simp); cases he
    subst hn
    have hm : m = 0 := by simp at hl; omega
    subst hm
    obtain ⟨vb, vn, vc, rfl, hle⟩ : ∃ vb vn vc, v = .slice vb n vc ∧ n ≤ vc ∧ vn = n := by
      rcases hown.2 with ⟨rfl, h0⟩ | ⟨g, c, cur, rfl, _, _, hc, _⟩
      · exact ⟨none, n, 0, by rw [h0], by omega, rfl⟩
      · exact ⟨_, n, c, rfl, hc, rfl⟩
    refine ⟨_, w, run_append_nothing w _ _ _ _ i0 Tryz.underlying82 hi vb n vc hle.1 _ (Src.ofNil w Tryz.underlying82 cap), by simpa using hown, ⟨rfl, rfl, rfl, Nat.le_refl _, fun _ _ _ => rfl⟩, .inl rfl⟩
  | some ad =>
    have hnews : ∀ j u, news[j]? = some u → w.cell? (ad.add j) = some u := fun j u hu => by
      obtain ⟨b, o, he, hc⟩ := k4 (by rintro rfl; simp at hu)
      cases he
      have hadd : (⟨b, o, none⟩ : Addr).add j = ⟨b, o + j, none⟩ := by unfold Addr.add; split <;> simp_all
      rw [hadd]
      exact hc j u hu
    obtain ⟨v', w', h2, h3, h4, _, h5⟩ := run_append_own_at (P := Tryz.prog) w base 82 82 137 i0 _ 4 56 Tryz.underlying82 hi hz0 hz1 hz2 rfl (by omega) v n xs hown ad m cap news hl hnews h1 (by unfold maxLen; omega) (by omega) hbase
    exact ⟨v', w', h2, h3, h4, h5⟩

set_option maxRecDepth 100000 in
set_option maxHeartbeats 1000000 in
theorem without_any {R : Nat → Prop} {w : World} {v : Value} {l : Files} (p : B8) (hv : IsRows R w v l) (hl : l.length ≤ 1000000) :
    Calls Tryz.prog 137 #[v, S8 p] w fun e w' => (∃ v', e = .returned v' ∧ OwnRows w.heap.size R w' v' (delF l p)) ∧ Ext w w' := by
  obtain ⟨a, cap, rfl, h1, h2, h3, h4⟩ := rows_get hv
  have H4 : Hid _ := h4
  have htp := tl p
  clear h4 hv
  go_enter Tryz.func137, Tryz.ntmps137
  go_wp2
  go_loopw [5, 6] (fun out i wr => ∃ (k n : Nat) (css : List (List Value)), k ≤ l.length ∧ i = .int .i64 k ∧ (delF (l.take k) p).length = n ∧ n ≤ k ∧ wr.ownsRow w.heap.size 137 4 out n css.flatten ∧ Each (IsRowR R w) css (delF (l.take k) p) ∧ Ext w wr) (fun _ i _ => l.length - (intOf i).toNat)
  case atStart => exact ⟨0, 0, [], Nat.zero_le _, rfl, rfl, Nat.le_refl _, World.ownsRow_nil _ _ _ _, Each.nil _, Ext.refl _⟩
  case round =>
    obtain ⟨k, n, css, hk, rfl, hn, hnk, hown, heach, hx⟩ := hrel
    have HN : Hid _ := hn
    have HE : Hid _ := heach
    clear hn heach
    by_cases hlt : k < l.length
    · obtain ⟨⟨q, f⟩, hke⟩ : ∃ e, l[k]? = some e := ⟨_, List.getElem?_eq_getElem hlt⟩
      obtain ⟨b, o, s, c, rfl, hql, hd, c0, c1, c2, c3⟩ := H4.out k q f hke
      replace c0 := hx.cell c0
      replace c1 := hx.cell c1
      replace c2 := hx.cell c2
      replace c3 := hx.cell c3
      have HD : Hid _ := delF_snoc (p := p) hke
      have HR : Hid (IsRowR R w [S8 q, .int .i64 f.mode, .slice s f.data.length c, .int .i64 f.time] (q, f)) := ⟨hql, _, rfl, hd⟩
      have htq := tl q
      have hsz := hx.size
      clear hd hke
      obtain ⟨bq, hbq⟩ : ∃ bq, (q == p) = bq := ⟨_, rfl⟩
      cases bq with
      | true =>
        have HQ : Hid (q = p) := by simpa [Hid] using hbq
        go_wp2
        go_roundw
        case rel => exact ⟨k + 1, n, css, by omega, by go_num, by rw [HD.out, if_pos HQ.out]; exact HN.out, by omega, hown, by rw [HD.out, if_pos HQ.out]; exact HE.out, hx⟩
        case measure => simp [intOf]; omega
      | false =>
        have HQ : Hid (q ≠ p) := by simpa [Hid] using hbq
        go_wp2_with (at_builtin; go_must (refine app_row rfl _ _ rfl w.heap.size _ n _ rfl (hown.alloc _) wr.heap.size 1 [S8 q, .int .i64 f.mode, .slice s f.data.length c, .int .i64 f.time] rfl rfl (alloc_at _ _) (by simp [Value.oneCell']) (by omega) (by simp; omega) ?_; intro v' w3 hown3 hg3))
        go_roundw
        case rel =>
          refine ⟨k + 1, n + 1, css ++ [[S8 q, .int .i64 f.mode, .slice s f.data.length c, .int .i64 f.time]], by omega, by go_num, by rw [HD.out, if_neg HQ.out, List.length_append, HN.out]; rfl, by omega, ?_, by rw [HD.out, if_neg HQ.out]; exact Each.snoc HE.out HR.out, owns_ext_app (hx.alloc _) (hown.alloc _) hg3⟩
          rw [List.flatten_append]
          simpa using hown3
        case measure => simp [intOf]; omega
    · have hkk : k = l.length := by omega
      subst hkk
      have hres : OwnRows w.heap.size R wr u5 (delF l p) := by
        have hn := HN.out
        have he := HE.out
        rw [List.take_length] at hn he
        exact ⟨css, by rw [hn]; exact hown, Each.imp he (fun c x hc => IsRowR.keepR hc (KeepR.of_keep (KeepB.of_ext hx)))⟩
      have HRES : Hid _ := hres
      clear hres hown
      go_wp2
      go_ret
      exact ⟨⟨_, rfl, HRES.out⟩, hx⟩

end Go.Proofs.YtoajnaopainpnaaGreatDoor

/-! marref5: with: a file put in its place, in a new list. Conditions: at most 1000000 files; short paths. -/
namespace Go.Proofs.YtoajnaopainpnaaGreatDoor
open Go Go.RowKit

/-- What holds while the three appends are done, of which have been done. -/
structure WithJ (w0 : World) (nA nC : Nat) (A rowc C : List Value) (z0 z4 z8 z9 z13 : Option Value) (w : World) : Prop where
  ext : Ext w0 w
  o13 : z13 ≠ none → z9 ≠ none
  o9 : z9 ≠ none → z4 ≠ none ∧ z8 ≠ none
  f13 : ∀ v, z13 = some v → w.ownsRow w0.heap.size 137 4 v (nA + 1 + nC) (A ++ rowc ++ C)
  f9 : z13 = none → ∀ v, z9 = some v → w.ownsRow w0.heap.size 137 4 v (nA + 1) (A ++ rowc)
  f4 : z9 = none → ∀ v, z4 = some v → w.ownsRow w0.heap.size 137 4 v nA A
  f8 : z9 = none → ∀ v, z8 = some v → ∃ g, v = .slice (some ⟨g, 0, none⟩) 1 1 ∧ w.heap[g]? = some (.cells rowc.toArray 137 (0, 0))
  f0 : z4 = none → ∀ v, z0 = some v → ∃ g, v = .slice (some ⟨g, 0, none⟩) 0 0 ∧ w.heap[g]? = some (.cells #[] 137 (0, 0)) ∧ w0.heap.size ≤ g

section
variable {w0 : World} {nA nC : Nat} {A rowc C : List Value} {z0 z4 z8 z9 z13 : Option Value} {w w' : World} {u : Value}
theorem WithJ.more (h : WithJ w0 nA nC A rowc C z0 z4 z8 z9 z13 w) (hx : Ext w w') : WithJ w0 nA nC A rowc C z0 z4 z8 z9 z13 w' :=
  ⟨h.ext.trans hx, h.o13, h.o9, fun v hv => owns_ext (h.f13 v hv) hx, fun h1 v hv => owns_ext (h.f9 h1 v hv) hx, fun h1 v hv => owns_ext (h.f4 h1 v hv) hx,
   fun h1 v hv => by obtain ⟨g, h2, h3⟩ := h.f8 h1 v hv; exact ⟨g, h2, hx.row h3⟩, fun h1 v hv => by obtain ⟨g, h2, h3, h4⟩ := h.f0 h1 v hv; exact ⟨g, h2, hx.row h3, h4⟩⟩
theorem WithJ.start (hx : Ext w0 w) : WithJ w0 nA nC A rowc C none none none none none w :=
  ⟨hx, fun h => absurd rfl h, fun h => absurd rfl h, fun v hv => (by cases hv), fun _ v hv => (by cases hv), fun _ v hv => (by cases hv), fun _ v hv => (by cases hv), fun _ v hv => (by cases hv)⟩
theorem WithJ.set0 (h : WithJ w0 nA nC A rowc C z0 z4 z8 z9 z13 w) : WithJ w0 nA nC A rowc C (some (.slice (some ⟨w.heap.size, 0, none⟩) 0 0)) z4 z8 z9 z13 (w.alloc (.cells #[] 137)) := by
  have k := h.more ((Ext.refl w).alloc (.cells #[] 137))
  exact ⟨k.ext, k.o13, k.o9, k.f13, k.f9, k.f4, k.f8, fun _ v hv => by cases hv; exact ⟨_, rfl, alloc_at _ _, h.ext.size⟩⟩
theorem WithJ.set8 (h : WithJ w0 nA nC A rowc C z0 z4 z8 z9 z13 w) : WithJ w0 nA nC A rowc C z0 z4 (some (.slice (some ⟨w.heap.size, 0, none⟩) 1 1)) z9 z13 (w.alloc (.cells rowc.toArray 137)) := by
  have k := h.more ((Ext.refl w).alloc (.cells rowc.toArray 137))
  exact ⟨k.ext, k.o13, fun h9 => ⟨(k.o9 h9).1, by simp⟩, k.f13, k.f9, k.f4, fun _ v hv => by cases hv; exact ⟨_, rfl, alloc_at _ _⟩, k.f0⟩
theorem WithJ.nine (h : WithJ w0 nA nC A rowc C z0 z4 z8 z9 z13 w) (h4 : z4 = none) : z9 = none := by
  cases hz : z9 with
  | none => rfl
  | some v => exact absurd h4 (h.o9 (by rw [hz]; simp)).1
theorem WithJ.thirteen (h : WithJ w0 nA nC A rowc C z0 z4 z8 z9 z13 w) (h9 : z9 = none) : z13 = none := by
  cases hz : z13 with
  | none => rfl
  | some v => exact absurd h9 (h.o13 (by rw [hz]; simp))
/-- The first append: to an empty slice. -/
theorem WithJ.set4 {v0 : Value} (h : WithJ w0 nA nC A rowc C z0 z4 z8 z9 z13 w) (hz0 : z0 = some v0) (hz4 : z4 = none) (hrow : rowc ≠ []) (x : Value) (hx : Row w x nA A) (hl : A.length = nA * 4) (h1 : ∀ u ∈ A, u.oneCell' = true) (hb : nA ≤ 10000000) :
    ∃ v' w', (Builtin.append_ #[82, 82] 82 #[v0, x]).run Tryz.prog w = .ok v' w' ∧ WithJ w0 nA nC A rowc C z0 (some v') z8 z9 z13 w' := by
  subst hz0; subst hz4
  obtain ⟨g, rfl, hg, hgb⟩ := h.f0 rfl _ rfl
  have h9 := h.nine rfl
  subst h9
  have h13 := h.thirteen rfl
  subst h13
  have hown : w.ownsRow w0.heap.size 137 4 (.slice (some ⟨g, 0, none⟩) 0 0) 0 [] := ⟨rfl, .inr ⟨g, 0, #[], rfl, hgb, hg, Nat.le_refl _, by unfold maxLen; omega, rfl, rfl⟩⟩
  obtain ⟨v', w', k1, k2, k3, k4⟩ := app_rows_run w0.heap.size _ 0 [] hown x nA A hx hl h1 (by omega) h.ext.size
  refine ⟨v', w', k1, ⟨owns_ext_app h.ext hown k3, fun hh => absurd rfl hh, fun hh => absurd rfl hh, fun v hv => (by cases hv), fun _ v hv => (by cases hv), fun _ v hv => ?_, fun _ v hv => ?_, fun hh => (by cases hh)⟩⟩
  · cases hv; simpa using k2
  · obtain ⟨g8, e8, h8⟩ := h.f8 rfl v hv
    have hne := apart_kind h8 hg (by simp [hrow])
    exact ⟨g8, e8, (k3.block g8 (Array.getElem?_eq_some_iff.1 h8).1 (by simpa [Value.ownBlock] using hne)).trans h8⟩
/-- The second one: the row. -/
theorem WithJ.set9 {v4 v8 : Value} (h : WithJ w0 nA nC A rowc C z0 z4 z8 z9 z13 w) (hz4 : z4 = some v4) (hz8 : z8 = some v8) (hz9 : z9 = none) (hl : rowc.length = 4) (h1 : ∀ u ∈ rowc, u.oneCell' = true) (hb : nA ≤ 10000000) :
    ∃ v' w', (Builtin.append_ #[82, 82] 82 #[v4, v8]).run Tryz.prog w = .ok v' w' ∧ WithJ w0 nA nC A rowc C z0 z4 z8 (some v') z13 w' := by
  subst hz4; subst hz8; subst hz9
  have h13 := h.thirteen rfl
  subst h13
  have hown := h.f4 rfl _ rfl
  obtain ⟨g8, rfl, h8⟩ := h.f8 rfl _ rfl
  obtain ⟨v', w', k1, k2, k3, k4⟩ := app_rows_run w0.heap.size _ nA A hown _ 1 rowc (Row.new h8 (by omega) _ rfl) (by rw [hl]) h1 (by omega) h.ext.size
  refine ⟨v', w', k1, ⟨owns_ext_app h.ext hown k3, fun hh => absurd rfl hh, fun _ => ⟨by simp, by simp⟩, fun v hv => (by cases hv), fun _ v hv => ?_, fun hh => (by cases hh), fun hh => (by cases hh), fun hh => (by cases hh)⟩⟩
  cases hv; exact k2
/-- The third one: what stands behind. -/
theorem WithJ.set13 {v9 : Value} (h : WithJ w0 nA nC A rowc C z0 z4 z8 z9 z13 w) (hz9 : z9 = some v9) (hz13 : z13 = none) (x : Value) (hx : Row w x nC C) (hl : C.length = nC * 4) (h1 : ∀ u ∈ C, u.oneCell' = true) (hb : nA + nC ≤ 10000000) :
    ∃ v' w', (Builtin.append_ #[82, 82] 82 #[v9, x]).run Tryz.prog w = .ok v' w' ∧ WithJ w0 nA nC A rowc C z0 z4 z8 z9 (some v') w' := by
  subst hz9; subst hz13
  have hown := h.f9 rfl _ rfl
  have h48 := h.o9 (by simp)
  obtain ⟨v', w', k1, k2, k3, k4⟩ := app_rows_run w0.heap.size _ (nA + 1) (A ++ rowc) hown x nC C hx hl h1 (by omega) h.ext.size
  refine ⟨v', w', k1, ⟨owns_ext_app h.ext hown k3, fun _ => (by simp), fun _ => h48, fun v hv => ?_, fun hh => (by cases hh), fun hh => (by cases hh), fun hh => (by cases hh), fun hh => absurd hh h48.1⟩⟩
  cases hv; exact k2
end

theorem less_ltB : ∀ a b : B8, Op.bytesLess a b = ltB a b
  | [], [] => by simp [Op.bytesLess, ltB]
  | _ :: _, [] => by simp [Op.bytesLess, ltB]
  | [], _ :: _ => by simp [Op.bytesLess, ltB]
  | a :: r, b :: s => by
    rw [Op.bytesLess, less_ltB r s]
    unfold ltB
    rw [Bool.eq_iff_iff]
    simp [List.cons_lt_cons_iff]
theorem Row.takeN {w : World} {a : Option Addr} {n k cap : Nat} {cs : List Value} (m : Nat) (h : Row w (.slice a n cap) n cs) (hk : k ≤ n) (hl : cs.length = n * m) : Row w (.slice a k cap) k (cs.take (k * m)) := by
  obtain ⟨a', cap', he, h1, h2, h3, h4⟩ := h
  simp only [Value.slice.injEq, true_and] at he
  obtain ⟨rfl, rfl⟩ := he
  refine ⟨a, cap, rfl, by omega, h2, by omega, fun hne => ?_⟩
  obtain ⟨b, o, ha, hc⟩ := h4 (by rintro rfl; simp at hne)
  refine ⟨b, o, ha, fun i u hu => hc i u ?_⟩
  rw [List.getElem?_take] at hu
  split at hu
  · exact hu
  · cases hu
theorem Row.dropN {w : World} {b n k cap : Nat} {cs : List Value} (m : Nat) (h : Row w (.slice (some ⟨b, 0, none⟩) n cap) n cs) (hk : k ≤ n) (hl : cs.length = n * m) : Row w (.slice (some ⟨b, k * m, none⟩) (n - k) (cap - k)) (n - k) (cs.drop (k * m)) := by
  obtain ⟨a', cap', he, h1, h2, h3, h4⟩ := h
  simp only [Value.slice.injEq, true_and] at he
  obtain ⟨rfl, rfl⟩ := he
  refine ⟨_, _, rfl, by omega, by omega, by omega, fun hne => ⟨b, k * m, rfl, fun i u hu => ?_⟩⟩
  obtain ⟨b', o, ha, hc⟩ := h4 (by rintro rfl; simp at hne)
  cases ha
  rw [List.getElem?_drop] at hu
  have := hc _ u hu
  rwa [Nat.zero_add] at this

theorem Row.dropIf {w : World} {b n k cap : Nat} {cs : List Value} (m : Nat) (h : Row w (.slice (some ⟨b, 0, none⟩) n cap) n cs) (hk : k ≤ n) (hl : cs.length = n * m) : Row w (.slice (if cap = k then some ⟨b, 0, none⟩ else some ⟨b, k * m, none⟩) (n - k) (cap - k)) (n - k) (cs.drop (k * m)) := by
  have hd := h.dropN m hk hl
  split
  · rename_i hc
    obtain ⟨a', cap', he, h1, h2, h3, h4⟩ := h
    simp only [Value.slice.injEq, true_and] at he
    obtain ⟨rfl, rfl⟩ := he
    refine ⟨_, _, rfl, by omega, by omega, by omega, fun hne => ?_⟩
    exfalso
    apply hne
    rw [List.drop_eq_nil_iff, hl]
    exact Nat.mul_le_mul_right _ (by omega)
  · exact hd
/-- append, as an operation of a region. -/
theorem rel_append {c : Prop} [Decidable c] {ev : Operand → Value} {R : Value → World → Prop} {o : Oper} {w : World} (s x : Operand) (t : TypeId) {v xv v' : Value} {w' : World} (hw : c) (ho : o.op = .call { callee := .builtin .append, args := #[s, x], argTypes := #[t, t] }) 
    (hs : ev s = v) (hx : ev x = xv) (hr : (Builtin.append_ #[t, t] o.type #[v, xv]).run Tryz.prog w = .ok v' w') (h : R v' w') :
    if c then relUpon Tryz.prog R ((execOp ev o).run Tryz.prog w) else R undef w := by
  rw [if_pos hw]
  unfold execOp
  simp only [ho, resolve, invoke, builtin, Sem.run_bind, Sem.run_pure, Result.andThen_ok, List.map_toArray, List.map_cons, List.map_nil, hs, hx, hr]
  exact h

set_option maxRecDepth 100000 in
set_option maxHeartbeats 4000000 in
theorem with_any {R : Nat → Prop} {w : World} {v : Value} {l : Files} (p : B8) (f : Fi) (sv : Value) (hv : IsRows R w v l) (hl : l.length ≤ 1000000) (hp : p.length ≤ 1000000) (hd : IsData R w sv f.data) :
    Calls Tryz.prog 140 #[v, S8 p, .agg #[.int .i64 f.mode, sv, .int .i64 f.time]] w fun e w' => (∃ v', e = .returned v' ∧ OwnRows w.heap.size R w' v' (putF l p f)) ∧ Ext w w' := by
  obtain ⟨s1, s2, rfl, -⟩ := id hd.bytes
  have HV : Hid _ := hv
  have HD : Hid _ := hd
  have htp := tl p
  have hdl := delF_length l p
  obtain ⟨wa, hwa⟩ : ∃ wa, wa = w.alloc (.cells #[.int .i64 f.mode, .slice s1 f.data.length s2, .int .i64 f.time] 92) := ⟨_, rfl⟩
  have hxa : Ext w wa := by rw [hwa]; exact (Ext.refl _).alloc _
  have hba : wa.heap[w.heap.size]? = some (.cells #[.int .i64 f.mode, .slice s1 f.data.length s2, .int .i64 f.time] 92 (0, 0)) := by rw [hwa]; exact alloc_at w _
  have HWA : Hid _ := hwa
  have HXA : Hid _ := hxa
  have HBA : Hid _ := hba
  clear hv hd hwa hxa hba
  go_enter Tryz.func140, Tryz.ntmps140
  go_wp2_with fail
  rw [show w.alloc (.cells #[.int .i64 f.mode, .slice s1 f.data.length s2, .int .i64 f.time] 92) = wa from HWA.out.symm]
  go_at_call 137
  refine (without_any p (ReadL.rowsExt HV.out HXA.out) hl).mono ?_
  rintro e w2 ⟨⟨v2, rfl, ho2⟩, hx2⟩
  obtain ⟨css, hown2, heach⟩ := ho2
  obtain ⟨D, hD⟩ : ∃ D, delF l p = D := ⟨_, rfl⟩
  rw [hD] at hown2 heach hdl
  have hrows : IsRows R w2 v2 D := ⟨css, Row.of_owns hown2 (by omega), Typed.of_owns hown2, heach⟩
  obtain ⟨a2, c2, rfl, h1, h2, h3, h4⟩ := rows_get hrows
  have hshape : (a2 = none ∧ D.length = 0 ∧ c2 = 0) ∨ ∃ g, a2 = some ⟨g, 0, none⟩ := by
    rcases hown2.2 with ⟨he, h0⟩ | ⟨g, cap, cur, he, _⟩
    · simp only [Value.slice.injEq] at he; exact .inl ⟨he.1, h0, he.2.2⟩
    · simp only [Value.slice.injEq] at he; exact .inr ⟨g, he.1⟩
  have HRW : Hid _ := hrows
  have HO2 : Hid _ := hown2
  have HEA : Hid _ := heach
  have HDD : Hid _ := hD
  have H4 : Hid _ := h4
  have hb2 := hx2.row HBA.out
  have HX2 : Hid _ := Ext.trans HXA.out hx2
  clear hrows hown2 heach hD h4 hx2
  go_wp2_with fail
  go_loopw [7] (fun i wr => ∃ k : Nat, k ≤ D.length ∧ i = .int .i64 k ∧ (∀ j e, j < k → D[j]? = some e → ltB e.1 p = true) ∧ wr = w2) (fun i _ => D.length - (intOf i).toNat)
  case atStart => exact ⟨0, Nat.zero_le _, rfl, fun j e hj => absurd hj (Nat.not_lt_zero _), rfl⟩
  case round =>
    obtain ⟨k, hk, rfl, hlo, rfl⟩ := hrel
    have HLO : Hid _ := hlo
    clear hlo
    by_cases hlt : k < D.length
    case' pos =>
      obtain ⟨⟨q, f'⟩, hke⟩ : ∃ e, D[k]? = some e := ⟨_, List.getElem?_eq_getElem hlt⟩
      obtain ⟨b, o, s, c, hae, hql, hd, c0, -, -, -⟩ := H4.out k q f' hke
      have htq := tl q
      have HKE : Hid _ := hke
      clear hd hke
      obtain ⟨bq, hbq⟩ : ∃ bq, ltB q p = bq := ⟨_, rfl⟩
      have hbl : Op.bytesLess q p = bq := (less_ltB q p).trans hbq
      cases bq
      case' true =>
        have HBQ : Hid _ := hbq
        clear hbq
        subst hae
        go_wp2
        go_roundw
        case rel =>
          refine ⟨k + 1, by omega, by go_num, fun j e hj he => ?_, trivial⟩
          by_cases hjk : j = k
          · subst hjk
            rw [HKE.out] at he
            cases he
            exact HBQ.out
          · exact HLO.out j e (by omega) he
        case measure => simp [intOf]; omega
      case' false =>
        have HSTOP : Hid (∀ e, D[k]? = some e → ltB e.1 p = false) := fun e he => by rw [HKE.out] at he; cases he; exact hbq
        clear hbq
        subst hae
        go_wp2_with fail
    case' neg =>
      have HSTOP : Hid (∀ e, D[k]? = some e → ltB e.1 p = false) := fun e he => by have := (List.getElem?_eq_some_iff.1 he).1; omega
      go_wp2_with fail
    all_goals
      have HLO2 : Hid _ := HLO.out
      clear H4 HLO htp
      have hfl : css.flatten.length = D.length * 4 := HO2.out.1
      have hone : ∀ u ∈ css.flatten, u.oneCell' = true := Each.one HEA.out (fun c x hx => hx.length.2)
      have HROW : Hid _ := Row.of_owns HO2.out (by omega)
      have hA : (css.flatten.take (k * 4)).length = k * 4 := by rw [List.length_take]; omega
      have hC : (css.flatten.drop (k * 4)).length = (D.length - k) * 4 := by rw [List.length_drop]; omega
      have hA1 : ∀ u ∈ css.flatten.take (k * 4), u.oneCell' = true := fun u hu => hone u (List.mem_of_mem_take hu)
      have hC1 : ∀ u ∈ css.flatten.drop (k * 4), u.oneCell' = true := fun u hu => hone u (List.mem_of_mem_drop hu)
      have HA : Hid _ := hA
      have HC : Hid _ := hC
      have HA1 : Hid _ := hA1
      have HC1 : Hid _ := hC1
      have HFL : Hid _ := hfl
      have HSH : Hid _ := hshape
      have HB2 : Hid _ := hb2
      clear hfl hone hA hC hA1 hC1 hshape hb2
      apply wp_region_inv 14 (fun z w' => WithJ wr k (D.length - k) (css.flatten.take (k * 4)) [S8 p, .int .i64 f.mode, .slice s1 f.data.length s2, .int .i64 f.time] (css.flatten.drop (k * 4)) (z 0) (z 4) (z 8) (z 9) (z 13) w') [true, false, false, false, true, false, false, false, true, true, false, false, false, true] [undef, _, _, undef, undef, _, _, _, undef, undef, _, _, undef, undef] [none, none, none, some (fun u => Row wr u k (css.flatten.take (k * 4))), none, none, none, none, none, none, none, none, some (fun u => Row wr u (D.length - k) (css.flatten.drop (k * 4))), none] [[], [], [], [1, 2], [0, 3], [], [], [5, 6], [7], [4, 8], [], [], [10, 11], [9, 12]] (by kernel_rfl) (by kernel_rfl) rfl
      · exact WithJ.start ⟨rfl, rfl, rfl, Nat.le_refl _, fun _ _ => rfl⟩
      · simp (maxSteps := 1000000) only [oblI, stepI, knowsI, getP, mixP, List.getD_cons_zero, List.getD_cons_succ, Bool.false_eq_true, if_false, if_true, and_true, true_and, forall_const, Nat.zero_add, Nat.reduceAdd, List.take_succ_cons, List.take_zero, fillFrom, Act.put, List.setIfInBounds_toArray, List.set_cons_zero, List.set_cons_succ]
        refine ⟨?_, ?_, ?_, ?_, ?_, ?_, ?_, ?_, ?_, ?_, ?_, ?_, ?_, ?_⟩
        · intro xs z wq hj hz R hR
          go_simp
          exact hR _ _ hj.set0
        · intro xs z wq hj R hR
          go_simp
          exact hR _ _ hj rfl
        · intro xs z wq hj R hR
          go_simp
          exact hR _ _ hj rfl
        · intro xs z wq hj hk R hR
          obtain ⟨hk0, hk1⟩ := hk
          have hkc : k ≤ c2 := by omega
          rcases HSH.out with ⟨h9, h0, h8⟩ | ⟨g9, h9⟩
          · first | (exact absurd h9 (by simp)) | (cases h9; subst h8; have hk00 : k = 0 := (by omega); subst hk00; go_simp; exact hR _ _ hj (Row.takeN 4 HROW.out (by omega) HFL.out))
          · (cases h9; go_simp; exact hR _ _ hj (Row.takeN 4 HROW.out (by omega) HFL.out))
        · intro xs z wq hj hz hk R hR
          obtain ⟨hk0, hk1⟩ := hk
          obtain ⟨v', w', hr, hj'⟩ := hj.set4 hk0 hz (by simp) (xs 3) (hk1.ext hj.ext) HA.out HA1.out (by omega)
          apply rel_append (.tmp 26) (.tmp 29) 82 (v := xs 0) (xv := xs 3) (v' := v') (w' := w')
          · rfl
          · rfl
          · rfl
          · rfl
          · exact hr
          · exact hR _ _ hj'
        · intro xs z wq hj R hR
          go_simp
          exact hR _ _ hj rfl
        · intro xs z wq hj R hR
          obtain ⟨f0, f1, f2⟩ := cellsAt3 (hj.ext.row HB2.out)
          go_simp
          exact hR _ _ hj rfl
        · intro xs z wq hj hk R hR
          obtain ⟨hk0, hk1⟩ := hk
          go_simp
          exact hR _ _ hj rfl
        · intro xs z wq hj hz hk R hR
          go_simp
          exact hR _ _ hj.set8
        · intro xs z wq hj hz hk R hR
          obtain ⟨hk0, hk1⟩ := hk
          obtain ⟨v', w', hr, hj'⟩ := hj.set9 hk0 hk1 hz rfl (by simp [Value.oneCell']) (by omega)
          apply rel_append (.tmp 30) (.tmp 34) 82 (v := xs 4) (xv := xs 8) (v' := v') (w' := w')
          · rfl
          · rfl
          · rfl
          · rfl
          · exact hr
          · exact hR _ _ hj'
        · intro xs z wq hj R hR
          go_simp
          exact hR _ _ hj rfl
        · intro xs z wq hj R hR
          go_simp
          exact hR _ _ hj rfl
        · intro xs z wq hj hk R hR
          obtain ⟨hk0, hk1⟩ := hk
          have hkc : k ≤ c2 := by omega
          rcases HSH.out with ⟨h9, h0, h8⟩ | ⟨g9, h9⟩
          · first | (exact absurd h9 (by simp)) | (cases h9; subst h8; have hk00 : k = 0 := (by omega); subst hk00; go_simp; exact hR _ _ hj (by have := HROW.out; rw [h0] at this; simp only [h0, Nat.sub_zero, Nat.zero_mul, List.drop_zero]; exact this))
          · (cases h9; go_simp; exact hR _ _ hj (Row.dropIf 4 HROW.out (by omega) HFL.out))
        · intro xs z wq hj hz hk R hR
          obtain ⟨hk0, hk1⟩ := hk
          obtain ⟨v', w', hr, hj'⟩ := hj.set13 hk0 hz (xs 12) (hk1.ext hj.ext) HC.out HC1.out (by omega)
          apply rel_append (.tmp 35) (.tmp 38) 82 (v := xs 9) (xv := xs 12) (v' := v') (w' := w')
          · rfl
          · rfl
          · rfl
          · rfl
          · exact hr
          · exact hR _ _ hj'
      intro xs w3 hj3 hk
      simp only [zAll, List.getD_cons_zero, List.getD_cons_succ, Bool.false_eq_true, if_false, if_true] at hj3
      simp only [heldI, Nat.zero_add, Nat.reduceAdd, and_true] at hk
      obtain ⟨q1, q2, q3, q5, q6, q7, q10, q11, q12⟩ := hk
      simp (maxSteps := 1000000) only [List.drop_succ_cons, List.drop_zero, Nat.zero_add, Nat.reduceAdd, List.take_succ_cons, List.take_zero, fillFrom, Act.put, List.setIfInBounds_toArray, List.set_cons_zero, List.set_cons_succ, q1, q2, q5, q6, q7, q10, q11]
      clear q1 q2 q5 q6 q7 q10 q11
      generalize xs 0 = x0 at *
      generalize xs 3 = x3 at *
      generalize xs 4 = x4 at *
      generalize xs 8 = x8 at *
      generalize xs 9 = x9 at *
      generalize xs 12 = x12 at *
      generalize xs 13 = x13 at *
      go_wp2
      go_ret
      have hown3 := hj3.f13 _ rfl
      have hx3 := hj3.ext
      have h4 := Each.len HEA.out (fun c x hx => hx.length.1)
      rw [flat_take k h4, flat_drop k h4] at hown3
      have hput : putF l p f = D.take k ++ (p, f) :: D.drop k := by
        have e := putF_at (l := l) (p := p) (f := f) (k := k) (by rw [HDD.out]; omega) (by rw [HDD.out]; exact HLO2.out) (by rw [HDD.out]; exact HSTOP.out)
        rw [HDD.out] at e
        exact e
      have hxw : Ext w w3 := Ext.trans HX2.out hx3
      have hlen : (D.take k ++ (p, f) :: D.drop k).length = k + 1 + (D.length - k) := by simp; omega
      refine ⟨⟨_, rfl, css.take k ++ [[S8 p, .int .i64 f.mode, .slice s1 f.data.length s2, .int .i64 f.time]] ++ css.drop k, ?_, ?_⟩, hxw⟩
      · rw [hput, hlen, List.flatten_append, List.flatten_append]
        have := owns_low hown3 (Below.size HX2.out)
        simpa using this
      · rw [hput, show D.take k ++ (p, f) :: D.drop k = D.take k ++ [(p, f)] ++ D.drop k by simp]
        have k2 : Each (IsRowR R w3) css D := Each.imp HEA.out (fun c x hc => IsRowR.keepR hc (KeepR.of_keep (KeepB.of_ext hx3)))
        refine ((Each.take k2 k).append (Each.snoc (Each.nil _) (c := _) (x := (p, f)) ⟨hp, _, rfl, IsData.ext HD.out hxw⟩)).append (Each.drop k2 k)

end Go.Proofs.YtoajnaopainpnaaGreatDoor

/-! marref5.apply: a change of a list of files. Conditions: at most 1000000 files; short paths. -/
namespace Go.Proofs.YtoajnaopainpnaaGreatDoor
open Go Go.RowKit

/-- What a change hands back: a new list, or the one that it was given. -/
def NewOr (w : World) (v v' : Value) : Prop := ∀ k, v'.ownBlock = some k → v.ownBlock = some k ∨ w.heap.size ≤ k
def ApplyPost (R : Nat → Prop) (w : World) (v : Value) (l : Files) (e : Ending) (w' : World) : Prop := (∃ v', e = .returned v' ∧ IsRows R w' v' l ∧ NewOr w v v') ∧ Ext w w'
theorem OwnRows.low {base base' : Nat} {R : Nat → Prop} {w : World} {v : Value} {l : Files} (h : OwnRows base R w v l) (hb : base' ≤ base) : OwnRows base' R w v l := by
  obtain ⟨css, h1, h2⟩ := h
  exact ⟨css, owns_low h1 hb, h2⟩
theorem OwnRows.ext {base : Nat} {R : Nat → Prop} {w w' : World} {v : Value} {l : Files} (h : OwnRows base R w v l) (hx : Ext w w') : OwnRows base R w' v l := by
  obtain ⟨css, h1, h2⟩ := h
  exact ⟨css, owns_ext h1 hx, Each.imp h2 (fun c x hc => IsRowR.keepR hc (KeepR.of_keep (KeepB.of_ext hx)))⟩
theorem ApplyPost.own {R : Nat → Prop} {w wx w' : World} {v v' : Value} {l : Files} (h : OwnRows wx.heap.size R w' v' l) (hx : w.heap.size ≤ wx.heap.size) (hl : l.length ≤ 10000000) (hw : Ext w w') : ApplyPost R w v l (.returned v') w' :=
  ⟨⟨_, rfl, h.rows hl, fun k hk => .inr (Nat.le_trans hx (h.lt hk).1)⟩, hw⟩

set_option maxRecDepth 100000 in
set_option maxHeartbeats 2000000 in
theorem apply_put {R : Nat → Prop} {w : World} {v : Value} {l : Files} (p : B8) (f : Fi) (sv : Value) (hv : IsRows R w v l) (hl : l.length ≤ 1000000) (hp : p.length ≤ 1000000) (hd : IsData R w sv f.data) :
    Calls Tryz.prog 111 #[v, .agg #[.int .i64 1, S8 [], S8 p, .int .i64 f.mode, sv, .int .i64 f.time]] w (ApplyPost R w v (putF l p f)) := by
  obtain ⟨s1, s2, rfl, -⟩ := id hd.bytes
  have HXA : Hid (Ext w (w.alloc (.cells #[.int .i64 1, S8 [], S8 p, .int .i64 f.mode, .slice s1 f.data.length s2, .int .i64 f.time] 140))) := (Ext.refl _).alloc _
  have HV : Hid _ := hv
  have HD : Hid _ := hd
  have hpl := putF_length l p f
  clear hv hd
  go_enter Tryz.func111, Tryz.ntmps111
  go_wp2_with (go_at_call 140; go_must (refine (with_any p f _ (ReadL.rowsExt HV.out HXA.out) hl hp (IsData.ext HD.out HXA.out)).mono ?_; rintro e w2 ⟨⟨v2, rfl, ho2⟩, hx2⟩))
  go_ret
  exact ApplyPost.own ho2 (Below.size HXA.out) (by omega) (Ext.trans HXA.out hx2)

set_option maxRecDepth 100000 in
set_option maxHeartbeats 2000000 in
theorem apply_del {R : Nat → Prop} {w : World} {v : Value} {l : Files} (p : B8) (hv : IsRows R w v l) (hl : l.length ≤ 1000000) :
    Calls Tryz.prog 111 #[v, .agg #[.int .i64 3, S8 p, S8 [], .int .i64 0, .slice none 0 0, .int .i64 0]] w (ApplyPost R w v (delF l p)) := by
  have HXA : Hid (Ext w (w.alloc (.cells #[.int .i64 3, S8 p, S8 [], .int .i64 0, .slice none 0 0, .int .i64 0] 140))) := (Ext.refl _).alloc _
  have HV : Hid _ := hv
  have hpl := delF_length l p
  clear hv
  go_enter Tryz.func111, Tryz.ntmps111
  go_wp2_with (go_at_call 137; go_must (refine (without_any p (ReadL.rowsExt HV.out HXA.out) hl).mono ?_; rintro e w2 ⟨⟨v2, rfl, ho2⟩, hx2⟩))
  go_ret
  exact ApplyPost.own ho2 (Below.size HXA.out) (by omega) (Ext.trans HXA.out hx2)

set_option maxRecDepth 100000 in
set_option maxHeartbeats 4000000 in
theorem apply_mv {R : Nat → Prop} {w : World} {v : Value} {l : Files} (s d : B8) (hv : IsRows R w v l) (hl : l.length ≤ 1000000) (hd : d.length ≤ 1000000) :
    Calls Tryz.prog 111 #[v, .agg #[.int .i64 2, S8 s, S8 d, .int .i64 0, .slice none 0 0, .int .i64 0]] w (ApplyPost R w v (ap l (.mv s d))) := by
  have HXA : Hid (Ext w (w.alloc (.cells #[.int .i64 2, S8 s, S8 d, .int .i64 0, .slice none 0 0, .int .i64 0] 140))) := (Ext.refl _).alloc _
  have HB : Hid _ := cellsAt6 (alloc_at w (.cells #[.int .i64 2, S8 s, S8 d, .int .i64 0, .slice none 0 0, .int .i64 0] 140))
  have HAP : Hid (ap l (.mv s d) = match look l s with | some x => putF (delF l s) d x | none => l) := rfl
  have HV : Hid _ := hv
  have hlt := hv.lt
  obtain ⟨a, cap, rfl, h1, h2, h3, h4⟩ := rows_get hv
  have HLT : Hid _ := hlt
  have H4 : Hid _ := h4
  have hdl := delF_length l s
  clear hv h4 hlt
  go_enter Tryz.func111, Tryz.ntmps111
  go_wp2_with fail
  go_at_call 118
  refine (find_any s (ReadL.rowsExt HV.out HXA.out)).mono ?_
  rintro e w2 ⟨⟨i, rfl, hpl⟩, hx2⟩
  rcases hpl with ⟨hlk, rfl⟩ | ⟨k, f, rfl, hk, hlk⟩
  · have HAQ : Hid (ap l (.mv s d) = l) := by unfold Hid; rw [HAP.out, hlk]
    clear hlk
    go_wp2
    go_ret
    rw [HAQ.out]
    exact ⟨⟨_, rfl, ReadL.rowsExt HV.out (Ext.trans HXA.out hx2), fun k hk => .inl hk⟩, Ext.trans HXA.out hx2⟩
  · have HAQ : Hid (ap l (.mv s d) = putF (delF l s) d f) := by unfold Hid; rw [HAP.out, hlk]
    obtain ⟨b, o, v1, v2, rfl, hql, hdt, c0, c1, c2, c3⟩ := H4.out k s f hk
    have hxw := Ext.trans HXA.out hx2
    replace c1 := hxw.cell c1
    replace c2 := hxw.cell c2
    replace c3 := hxw.cell c3
    have hkl := (List.getElem?_eq_some_iff.1 hk).1
    have hbl := Nat.lt_of_lt_of_le (HLT.out b rfl) (Below.size hxw)
    have HDT : Hid _ := hdt
    have HXW : Hid _ := hxw
    have hpt := putF_length (delF l s) d f
    obtain ⟨b0, b1, b2, b3, b4, b5⟩ := HB.out
    replace b1 := hx2.cell b1
    replace b2 := hx2.cell b2
    clear hlk hk hdt hxw c0 b0 b3 b4 b5
    go_wp2_with fail
    have HX3 : Hid (Ext w2 (w2.alloc (.cells #[.int .i64 f.mode, .slice v1 f.data.length v2, .int .i64 f.time] 92))) := (Ext.refl _).alloc _
    obtain ⟨e0, e1, e2⟩ := cellsAt3 (alloc_at w2 (.cells #[.int .i64 f.mode, .slice v1 f.data.length v2, .int .i64 f.time] 92))
    have HWA : Hid _ := Ext.trans HXW.out HX3.out
    replace b1 := HX3.out.cell b1
    replace b2 := HX3.out.cell b2
    have hsz := Below.size HWA.out
    apply wp_region_mix 8 [_, _, _, undef, _, _, _, undef] [none, none, none, some (fun u w' => OwnRows w.heap.size R w' u (delF l s)), none, none, none, some (fun u w' => OwnRows w.heap.size R w' u (putF (delF l s) d f))] [[], [], [1], [0, 2], [], [4], [], [3, 5, 6]] (by kernel_rfl) (by kernel_rfl) (by simp [mixV])
    · refine ⟨?_, ?_, trivial⟩
      · exact fun _ _ _ he h => OwnRows.ext h he
      · exact fun _ _ _ he h => OwnRows.ext h he
    · simp (maxSteps := 1000000) only [List.take_succ_cons, List.take_zero, oblFrom, stepObl, fillFrom, Act.put, List.setIfInBounds_toArray, List.set_cons_zero, List.set_cons_succ, knows, getV, mixV, List.getD_cons_zero, List.getD_cons_succ, and_true, true_and, forall_const]
      refine ⟨?_, ?_, ?_, ?_, ?_, ?_, ?_, ?_⟩
      · intro xs wq hq R hR
        have f1 := hq.cell b1; have f2 := hq.cell b2; have f3 := hq.cell e0; have f4 := hq.cell e1; have f5 := hq.cell e2
        go_simp
        exact hR _ _ (Ext.refl _) rfl
      · intro xs wq hq R hR
        have f1 := hq.cell b1; have f2 := hq.cell b2; have f3 := hq.cell e0; have f4 := hq.cell e1; have f5 := hq.cell e2
        go_simp
        exact hR _ _ (Ext.refl _) rfl
      · intro xs wq hq hk R hR
        have f1 := hq.cell b1; have f2 := hq.cell b2; have f3 := hq.cell e0; have f4 := hq.cell e1; have f5 := hq.cell e2
        go_simp
        exact hR _ _ (Ext.refl _) rfl
      · intro xs wq hq hk R hR
        obtain ⟨hk0, hk1⟩ := hk
        go_simp
        exact (without_any s (ReadL.rowsExt HV.out (Ext.trans HWA.out hq)) hl).mono (by rintro e' w4 ⟨⟨v2, rfl, h1⟩, h3⟩; exact ⟨_, rfl, hR _ _ h3 (OwnRows.low h1 (Below.size (Ext.trans HWA.out hq)))⟩)
      · intro xs wq hq R hR
        have f1 := hq.cell b1; have f2 := hq.cell b2; have f3 := hq.cell e0; have f4 := hq.cell e1; have f5 := hq.cell e2
        go_simp
        exact hR _ _ (Ext.refl _) rfl
      · intro xs wq hq hk R hR
        have f1 := hq.cell b1; have f2 := hq.cell b2; have f3 := hq.cell e0; have f4 := hq.cell e1; have f5 := hq.cell e2
        go_simp
        exact hR _ _ (Ext.refl _) rfl
      · intro xs wq hq R hR
        have f1 := hq.cell b1; have f2 := hq.cell b2; have f3 := hq.cell e0; have f4 := hq.cell e1; have f5 := hq.cell e2
        go_simp
        exact hR _ _ (Ext.refl _) rfl
      · intro xs wq hq hk R hR
        obtain ⟨hk0, hk1, hk2⟩ := hk
        go_simp
        exact (with_any d f _ (OwnRows.rows hk0 (by omega)) (by omega) hd (IsData.ext HDT.out (Ext.trans HWA.out hq))).mono (by rintro e' w4 ⟨⟨v2, rfl, h1⟩, h3⟩; exact ⟨_, rfl, hR _ _ h3 (OwnRows.low h1 (Below.size (Ext.trans HWA.out hq)))⟩)
    intro xs w3 hx3 hk
    simp only [heldV, Nat.zero_add, Nat.reduceAdd, and_true] at hk
    obtain ⟨q0, q1, q2, q3, q4, q5, q6, q7⟩ := hk
    simp (maxSteps := 1000000) only [List.take_succ_cons, List.take_zero, List.drop_succ_cons, List.drop_zero, fillFrom, Act.put, List.setIfInBounds_toArray, List.set_cons_zero, List.set_cons_succ, Nat.zero_add, Nat.reduceAdd, q0, q1, q2, q4, q5, q6]
    clear q0 q1 q2 q4 q5 q6
    generalize xs 3 = x3 at *
    generalize xs 7 = x7 at *
    go_wp2
    go_ret
    rw [HAQ.out]
    exact ApplyPost.own q7 (Nat.le_refl _) (by omega) (Ext.trans HWA.out hx3)

theorem apply_any {R : Nat → Prop} {w : World} {v : Value} {l : Files} {cs : List Value} {c : Ch} (hv : IsRows R w v l) (hl : l.length ≤ 1000000) (hc : IsOp R w cs c) :
    Calls Tryz.prog 111 #[v, .agg cs.toArray] w (ApplyPost R w v (ap l c)) := by
  cases c with
  | put p f =>
    obtain ⟨h1, sv, rfl, h2⟩ := hc
    exact apply_put p f sv hv hl h1 h2
  | mv s d =>
    obtain ⟨h1, h2, rfl⟩ := hc
    exact apply_mv s d hv hl h2
  | del p =>
    obtain ⟨h1, rfl⟩ := hc
    exact apply_del p hv hl

end Go.Proofs.YtoajnaopainpnaaGreatDoor

/-! marref5.FS: change: a change is done. Conditions: at most 1000000 files, changes, ticks. -/
namespace Go.Proofs.YtoajnaopainpnaaGreatDoor
open Go Go.RowKit
variable [Inhabited BaseW]

theorem info_op : (Tryz.prog.info? 140).map (fun i => (i.zero, i.size, i.bytes)) = some (some (.agg #[.int .i64 0, S8 [], S8 [], .int .i64 0, .slice none 0 0, .int .i64 0]), 6, 80) := by kernel_rfl
theorem size_rows : (Tryz.prog.info? 82).map (·.size) = some 1 := by kernel_rfl
theorem size_ops : (Tryz.prog.info? 83).map (·.size) = some 1 := by kernel_rfl
theorem size_revs : (Tryz.prog.info? 84).map (·.size) = some 1 := by kernel_rfl

section
variable {ops : Array Oper} {rest : List Oper} {o : Oper} {a : Act} {Q : Exit → Act → World → Prop} {w : World}
/-- append of one change. -/
theorem app_op (hgd : o.guard = none) (s x : Operand) (ho : o.op = .call { callee := .builtin .append, args := #[s, x], argTypes := #[83, 83] })
    (base : Nat) (v : Value) (n : Nat) (xs : List Value) (hs : a.eval s = v) (hown : w.ownsRow base 140 6 v n xs)
    (g c : Nat) (news : List Value) (hx : a.eval x = .slice (some ⟨g, 0, none⟩) 1 c) (hl : news.length = 6) {fr : Nat × Nat} (hg : w.heap[g]? = some (.cells news.toArray 140 fr)) (h1 : news.all (·.oneCell') = true)
    (hb : n ≤ 10000000) (hbase : base ≤ w.heap.size)
    (h : ∀ v' w', w'.ownsRow base 140 6 v' (n + 1) (xs ++ news) → w.grownBy w' v.ownBlock → (∀ k, v'.ownBlock = some k → v.ownBlock = some k ∨ w.heap.size ≤ k) → wpList Tryz.prog ops Q rest (a.put o.dst v') w') : wpList Tryz.prog ops Q (o :: rest) a w := by
  obtain ⟨i0, hi, hz0, hz1, hz2⟩ := info_parts info_op
  exact wpList_append_own_at w hgd s x _ ho base _ i0 _ 6 80 Tryz.underlying83 hi hz0 hz1 hz2 rfl (by omega) v n xs hs hown ⟨g, 0, none⟩ 1 c news hx (by simpa using hl) (by simpa using news_of_block hg) (fun u hu => List.all_eq_true.1 h1 u hu) (by unfold maxLen; omega) (by omega) hbase
    (fun v' w' h1 h2 _ h4 => h v' w' h1 h2 (fun k hk => by
      rcases h4 with h4 | h4
      · exact .inl (h4.symm.trans hk)
      · rw [h4] at hk; simp only [Option.some.injEq] at hk; exact .inr (by omega)))
end

/-- A change, in its cells: its kind, two paths, a file. -/
theorem IsOp.shape {R : Nat → Prop} {w : World} {cs : List Value} {c : Ch} (h : IsOp R w cs c) : ∃ (kind : Int) (p q : B8) (mode time : Int) (a : Option Addr) (n cap : Nat), cs = [.int .i64 kind, S8 p, S8 q, .int .i64 mode, .slice a n cap, .int .i64 time] ∧ ((kind = 1 ∧ ∃ f, c = .put q f ∧ p = [] ∧ f.mode = mode ∧ f.data.length = n ∧ f.time = time) ∨ (kind ≠ 1 ∧ ∀ t, c.at t = c)) := by
  cases c with
  | put p f =>
    obtain ⟨_, v, rfl, h3⟩ := h
    obtain ⟨a, cap, rfl, _⟩ := h3.bytes
    exact ⟨_, _, _, _, _, _, _, _, rfl, .inl ⟨rfl, f, rfl, rfl, rfl, rfl, rfl⟩⟩
  | mv s d => obtain ⟨_, _, rfl⟩ := h; exact ⟨_, _, _, _, _, _, _, _, rfl, .inr ⟨by omega, fun _ => rfl⟩⟩
  | del p => obtain ⟨_, rfl⟩ := h; exact ⟨_, _, _, _, _, _, _, _, rfl, .inr ⟨by omega, fun _ => rfl⟩⟩

theorem IsOp.ext {R : Nat → Prop} {w w' : World} {cs : List Value} {c : Ch} (h : IsOp R w cs c) (hx : Ext w w') : IsOp R w' cs c := h.keepR (KeepR.of_keep (KeepB.of_ext hx))
/-- A change with its stamp. -/
theorem IsOp.stamp {R : Nat → Prop} {w : World} {kind : Int} {p q : B8} {mode time t2 : Int} {a : Option Addr} {n cap : Nat} {c : Ch} {t : Nat} (h : IsOp R w [.int .i64 kind, S8 p, S8 q, .int .i64 mode, .slice a n cap, .int .i64 time] c)
    (hk : (kind = 1 ∧ ∃ f, c = .put q f ∧ p = [] ∧ f.mode = mode ∧ f.data.length = n ∧ f.time = time) ∨ (kind ≠ 1 ∧ ∀ t, c.at t = c)) (ht : t2 = if kind = 1 then (t : Int) else time) :
    IsOp R w [.int .i64 kind, S8 p, S8 q, .int .i64 mode, .slice a n cap, .int .i64 t2] (c.at t) := by
  rcases hk with ⟨rfl, f, rfl, rfl, rfl, rfl, rfl⟩ | ⟨hk, hat⟩
  · obtain ⟨h1, v, he, hd⟩ := h
    rw [if_pos rfl] at ht
    subst ht
    simp only [List.cons.injEq, true_and, and_true] at he
    exact ⟨h1, _, rfl, he ▸ hd⟩
  · rw [if_neg hk] at ht
    rw [hat, ht]
    exact h

set_option maxRecDepth 100000 in
set_option maxHeartbeats 4000000 in
theorem change_any {O R : Nat → Prop} {w : World} {p : Value} {m : Fs} {cs : List Value} (c : Ch) (h : IsRef O R w p m) (hc : IsOp R w cs c) (hl : m.now.length ≤ 900000) (hpl : m.pend.length ≤ 1000000) (ht : m.time ≤ 1000000) :
    Calls Tryz.prog 136 #[p, .agg cs.toArray] w fun e w' => e = .returned (.tuple #[]) ∧ RefPost O R w p (does m c) w' := by
  obtain ⟨g, vn, vs, vp, vl, vu, rfl, hg, hO, hP⟩ := h
  obtain ⟨na, nc, rfl, -⟩ := rows_get hP.now
  have HC : Hid _ := hc
  obtain ⟨kind, p, q, mode, time, a, n, cap, rfl, hkind⟩ := hc.shape
  have hx1 : Ext w (w.alloc (.cells #[.int .i64 kind, S8 p, S8 q, .int .i64 mode, .slice a n cap, .int .i64 time] 140)) := (Ext.refl w).alloc _
  have hg1 := Ext.row hx1 hg
  have hb1 := alloc_at w (.cells #[.int .i64 kind, S8 p, S8 q, .int .i64 mode, .slice a n cap, .int .i64 time] 140)
  have hgl := (Array.getElem?_eq_some_iff.1 hg).1
  obtain ⟨d0, d1, d2, d3, d4, d5, d6, d7, d8⟩ := cellsAt9 hg1
  have hbne : w.heap.size ≠ g := by omega
  have HX1 : Hid _ := hx1
  have HP : Hid _ := hP
  have HG : Hid _ := hg
  have HG1 : Hid _ := hg1
  have HB1 : Hid _ := hb1
  have HK : Hid _ := hkind
  clear hc hx1 hP hg hg1 hb1 hkind
  -- behind the tick and the stamp
  obtain ⟨t2, ht2⟩ : ∃ t2 : Int, t2 = if kind = 1 then ((m.time + 1 : Nat) : Int) else time := ⟨_, rfl⟩
  have HT2 : Hid _ := ht2
  by_cases hk1 : kind = 1
  case' pos =>
    have htt : t2 = ((m.time + 1 : Nat) : Int) := by rw [ht2, if_pos hk1]
    have HTT : Hid _ := htt
    have HK1 : Hid _ := hk1
    have hkb : (kind == 1) = true := by simpa using hk1
    clear ht2 htt hk1
    go_enter Tryz.func136, Tryz.ntmps136
    go_wp2_with (first
      | (refine store_field rfl 3 (.tmp 10) (.tmp 8) rfl g 6 rfl (.int .i64 ((m.time : Int) + 1)) rfl rfl _ _ HG1.out (Nat.le_of_ble_eq_true rfl) size_int (refCells m.room (.slice na m.now.length nc) vs vp vl m.calls (m.time + 1) m.down vu) (by simp) ?_; intro w2 hg2 hgr2; obtain ⟨a0, a1, a2, a3, a4, a5, a6, a7, a8⟩ := cellsAt9 hg2; have hb2 := but_row hgr2 HB1.out hbne; obtain ⟨b0, b1, b2, b3, b4, b5⟩ := cellsAt6 hb2; clear d0 d1 d2 d3 d4 d5 d6 d7 d8)
      | (refine store_field rfl 3 (.tmp 19) (.tmp 17) rfl w.heap.size 5 rfl (.int .i64 t2) (by rw [HTT.out]; rfl) rfl _ _ hb2 (Nat.le_of_ble_eq_true rfl) size_int #[.int .i64 kind, S8 p, S8 q, .int .i64 mode, .slice a n cap, .int .i64 t2] (by simp) ?_; intro w3 hb3 hgr3; have hg3 := but_row hgr3 hg2 (Ne.symm hbne)))
    have hW3 := (grown_ext HX1.out hgr2).andThen hgr3 (fun j hj => .inl (by cases hj; exact Nat.le_refl _))
    clear hb2 hgr2 hgr3 hg2 a0 a1 a2 a3 a4 a5 a6 a7 a8 b0 b1 b2 b3 b4 b5
  case' neg =>
    have htt : t2 = time := by rw [ht2, if_neg hk1]
    have HK1 : Hid _ := hk1
    have hkb : (kind == 1) = false := by simpa using hk1
    subst htt
    clear ht2 hk1
    go_enter Tryz.func136, Tryz.ntmps136
    go_wp2_with ((refine store_field rfl 3 (.tmp 10) (.tmp 8) rfl g 6 rfl (.int .i64 ((m.time : Int) + 1)) rfl rfl _ _ HG1.out (Nat.le_of_ble_eq_true rfl) size_int (refCells m.room (.slice na m.now.length nc) vs vp vl m.calls (m.time + 1) m.down vu) (by simp) ?_; intro w3 hg3 hgr2; obtain ⟨a0, a1, a2, a3, a4, a5, a6, a7, a8⟩ := cellsAt9 hg3; have hb3 := but_row hgr2 HB1.out hbne; obtain ⟨b0, b1, b2, b3, b4, b5⟩ := cellsAt6 hb3; clear d0 d1 d2 d3 d4 d5 d6 d7 d8))
    have hW3 := grown_ext HX1.out hgr2
    clear hgr2 a0 a1 a2 a3 a4 a5 a6 a7 a8 b0 b1 b2 b3 b4 b5
  all_goals
    have hP3 := HP.out.own HG.out hW3
    have hop3 : IsOp R w3 _ (c.at (m.time + 1)) := IsOp.stamp (IsOp.keepR HC.out (grownR hW3 (by rintro k hk; simp at hk; subst hk; exact cells_u8 HG.out (by kernel_rfl)))) HK.out HT2.out
    obtain ⟨c', hc'⟩ : ∃ c', c.at (m.time + 1) = c' := ⟨_, rfl⟩
    rw [hc'] at hop3
    have HP3 : Hid _ := hP3
    have HOP3 : Hid _ := hop3
    have HC' : Hid _ := hc'
    have HW3 : Hid _ := hW3
    have hs3 := hW3.size
    have hapl := ap_length m.now c'
    obtain ⟨e0, e1, e2, e3, e4, e5, e6, e7, e8⟩ := cellsAt9 hg3
    obtain ⟨f0, f1, f2, f3, f4, f5⟩ := cellsAt6 hb3
    clear hP3 hop3 hc' hW3
    apply wp_region_free 7 0 (.pointer (some ⟨g, 0, none⟩)) [.pointer (some ⟨g, 0, none⟩), _, _, _, _, _, undef] [none, none, none, none, none, none, some (fun u w' => IsRows R w' u (ap m.now c') ∧ NewOr w (.slice na m.now.length nc) u)] [[], [], [1], [2], [3], [], [4, 5]] (by kernel_rfl) (by kernel_rfl) (by simp [mixV])
    · refine ⟨?_, trivial⟩
      · exact fun _ _ _ he h => ⟨ReadL.rowsExt h.1 he, h.2⟩
    · exact ⟨_, rfl, rfl, fun w => by go_simp⟩
    · exact fun _ => rfl
    · simp (maxSteps := 1000000) only [List.take_succ_cons, List.take_zero, oblFrom, stepObl, fillFrom, Act.put, List.setIfInBounds_toArray, List.set_cons_zero, List.set_cons_succ, knows, getV, mixV, List.getD_cons_zero, List.getD_cons_succ, and_true, true_and, forall_const]
      refine ⟨?_, ?_, ?_, ?_, ?_, ?_, ?_⟩
      · intro xs wq hq R hR
        have c1 := hq.cell e1; have c2 := hq.cell f0; have c3 := hq.cell f1; have c4 := hq.cell f2; have c5 := hq.cell f3; have c6 := hq.cell f4; have c7 := hq.cell f5
        go_simp
        exact hR _ _ (Ext.refl _) rfl
      · intro xs wq hq R hR
        have c1 := hq.cell e1; have c2 := hq.cell f0; have c3 := hq.cell f1; have c4 := hq.cell f2; have c5 := hq.cell f3; have c6 := hq.cell f4; have c7 := hq.cell f5
        go_simp
        exact hR _ _ (Ext.refl _) rfl
      · intro xs wq hq hk R hR
        have c1 := hq.cell e1; have c2 := hq.cell f0; have c3 := hq.cell f1; have c4 := hq.cell f2; have c5 := hq.cell f3; have c6 := hq.cell f4; have c7 := hq.cell f5
        go_simp
        exact hR _ _ (Ext.refl _) rfl
      · intro xs wq hq hk R hR
        have c1 := hq.cell e1; have c2 := hq.cell f0; have c3 := hq.cell f1; have c4 := hq.cell f2; have c5 := hq.cell f3; have c6 := hq.cell f4; have c7 := hq.cell f5
        go_simp
        exact hR _ _ (Ext.refl _) rfl
      · intro xs wq hq hk R hR
        have c1 := hq.cell e1; have c2 := hq.cell f0; have c3 := hq.cell f1; have c4 := hq.cell f2; have c5 := hq.cell f3; have c6 := hq.cell f4; have c7 := hq.cell f5
        go_simp
        exact hR _ _ (Ext.refl _) rfl
      · intro xs wq hq R hR
        have c1 := hq.cell e1; have c2 := hq.cell f0; have c3 := hq.cell f1; have c4 := hq.cell f2; have c5 := hq.cell f3; have c6 := hq.cell f4; have c7 := hq.cell f5
        go_simp
        exact hR _ _ (Ext.refl _) rfl
      · intro xs wq hq hk R hR
        obtain ⟨hk0, hk1⟩ := hk
        go_simp
        exact (apply_any (ReadL.rowsExt HP3.out.now hq) (by omega) (IsOp.ext HOP3.out hq)).mono (by rintro e' w5 ⟨⟨v2, rfl, h1, h2⟩, h3⟩; exact ⟨_, rfl, hR _ _ h3 ⟨h1, fun k hk => (h2 k hk).imp id (fun h => by have := Below.size hq; omega)⟩⟩)
    intro xs w4 hx4 hk
    simp only [heldV, Nat.zero_add, Nat.reduceAdd, and_true] at hk
    obtain ⟨q0, q1, q2, q3, q4, q5, q6⟩ := hk
    simp (maxSteps := 1000000) only [List.take_succ_cons, List.take_zero, List.drop_succ_cons, List.drop_zero, fillFrom, Act.put, List.setIfInBounds_toArray, List.set_cons_zero, List.set_cons_succ, Nat.zero_add, Nat.reduceAdd, q0, q1, q2, q3, q4, q5]
    clear q0 q1 q2 q3 q4 q5
    generalize xs 6 = x6 at *
    obtain ⟨hrows4, hnew4⟩ := q6
    obtain ⟨ya, yc, rfl, -⟩ := rows_get hrows4
    have HR4 : Hid _ := hrows4
    have HN4 : Hid _ := hnew4
    have hg4 := Ext.row hx4 hg3
    have hb4 := Ext.row hx4 hb3
    have HX4 : Hid _ := hx4
    have HP4 : Hid _ := HP3.out.ext hx4
    have hs4 := hx4.size
    clear hrows4 hnew4 e0 e1 e2 e3 e4 e5 e6 e7 e8 f0 f1 f2 f3 f4 f5 hx4
    go_wp2_with (refine store_field rfl 82 (.tmp 28) (.tmp 26) rfl g 1 rfl (.slice ya (ap m.now c').length yc) rfl rfl _ _ hg4 (Nat.le_of_ble_eq_true rfl) size_rows (refCells m.room (.slice ya (ap m.now c').length yc) vs vp vl m.calls (m.time + 1) m.down vu) (by simp) ?_; intro w5 hg5 hgr5)
    refine NoP.intro ?_
    have hr4 : IsRows (On R w.heap.size) w4 (.slice ya (ap m.now c').length yc) (ap m.now c') := ReadL.rowsMono HR4.out (fun k hk => .inl hk)
    have hP5 := (((HP4.out.mono (O' := On O w.heap.size) (R' := On R w.heap.size) (fun k hk => .inl hk) (fun k hk => .inl hk)).setNow hr4 (fun k hk => (HN4.out k hk).imp (HP.out.on k) id)).own hg4 hgr5)
    have hb5 := but_row hgr5 hb4 hbne
    have hW5 : w3.grownBy w5 (some g) := grown_ext HX4.out hgr5
    have HP5 : Hid _ := hP5
    have hop5 : IsOp R w5 _ c' := IsOp.keepR HOP3.out (grownR hW5 (by rintro k hk; simp at hk; subst hk; exact cells_u8 hg3 (by kernel_rfl)))
    have HOP5 : Hid _ := hop5
    obtain ⟨css, hown5, heach5⟩ := HP5.out.pend
    obtain ⟨pa, pc, rfl, -⟩ := Row.of_owns hown5 (by omega)
    have HE5 : Hid _ := heach5
    have hfr5 : Fr O w w5 := (((Fr.refl O w).step HW3.out (fun k hk => by cases hk; exact .inl hO) (by rintro k hk; cases hk; exact cells_u8 HG.out (by kernel_rfl))).ext HX4.out).step hgr5 (fun k hk => by cases hk; exact .inl hO) (by rintro k hk; cases hk; exact cells_u8 hg4 (by kernel_rfl))
    have HFR5 : Hid _ := hfr5
    have hs5 := hgr5.size
    obtain ⟨e0, e1, e2, e3, e4, e5, e6, e7, e8⟩ := cellsAt9 hg5
    obtain ⟨f0, f1, f2, f3, f4, f5⟩ := cellsAt6 hb5
    clear hP5 hop5 heach5 hfr5 hr4 hW5
    go_wp2_with fail
    apply wp_region_free 7 0 (.pointer (some ⟨g, 0, none⟩)) [.pointer (some ⟨g, 0, none⟩), _, _, _, _, .agg #[.int .i64 kind, S8 p, S8 q, .int .i64 mode, .slice a n cap, .int .i64 t2], undef] [none, none, none, none, none, none, some (fun u w' => ∃ k, u = .slice (some ⟨k, 0, none⟩) 1 1 ∧ w'.heap[k]? = some (.cells #[.int .i64 kind, S8 p, S8 q, .int .i64 mode, .slice a n cap, .int .i64 t2] 140 (0, 0)))] [[], [], [1], [2], [3], [], [5]] (by kernel_rfl) (by kernel_rfl) (by simp [mixV])
    · refine ⟨?_, trivial⟩
      · exact fun _ _ _ he ⟨k, h1, h3⟩ => ⟨k, h1, he.row h3⟩
    · exact ⟨_, rfl, rfl, fun w => by go_simp⟩
    · exact fun _ => rfl
    · simp (maxSteps := 1000000) only [List.take_succ_cons, List.take_zero, oblFrom, stepObl, fillFrom, Act.put, List.setIfInBounds_toArray, List.set_cons_zero, List.set_cons_succ, knows, getV, mixV, List.getD_cons_zero, List.getD_cons_succ, and_true, true_and, forall_const]
      refine ⟨?_, ?_, ?_, ?_, ?_, ?_, ?_⟩
      · intro xs wq hq R hR
        have c1 := hq.cell e3; have c2 := hq.cell f0; have c3 := hq.cell f1; have c4 := hq.cell f2; have c5 := hq.cell f3; have c6 := hq.cell f4; have c7 := hq.cell f5
        go_simp
        exact hR _ _ (Ext.refl _) rfl
      · intro xs wq hq R hR
        have c1 := hq.cell e3; have c2 := hq.cell f0; have c3 := hq.cell f1; have c4 := hq.cell f2; have c5 := hq.cell f3; have c6 := hq.cell f4; have c7 := hq.cell f5
        go_simp
        exact hR _ _ (Ext.refl _) rfl
      · intro xs wq hq hk R hR
        have c1 := hq.cell e3; have c2 := hq.cell f0; have c3 := hq.cell f1; have c4 := hq.cell f2; have c5 := hq.cell f3; have c6 := hq.cell f4; have c7 := hq.cell f5
        go_simp
        exact hR _ _ (Ext.refl _) rfl
      · intro xs wq hq hk R hR
        have c1 := hq.cell e3; have c2 := hq.cell f0; have c3 := hq.cell f1; have c4 := hq.cell f2; have c5 := hq.cell f3; have c6 := hq.cell f4; have c7 := hq.cell f5
        go_simp
        exact hR _ _ (Ext.refl _) rfl
      · intro xs wq hq hk R hR
        have c1 := hq.cell e3; have c2 := hq.cell f0; have c3 := hq.cell f1; have c4 := hq.cell f2; have c5 := hq.cell f3; have c6 := hq.cell f4; have c7 := hq.cell f5
        go_simp
        exact hR _ _ (Ext.refl _) rfl
      · intro xs wq hq R hR
        have c1 := hq.cell e3; have c2 := hq.cell f0; have c3 := hq.cell f1; have c4 := hq.cell f2; have c5 := hq.cell f3; have c6 := hq.cell f4; have c7 := hq.cell f5
        go_simp
        exact hR _ _ (Ext.refl _) rfl
      · intro xs wq hq hk R hR
        go_simp
        exact hR _ _ ((Ext.refl _).alloc _) ⟨_, rfl, alloc_at _ _⟩
    intro xs w6 hx6 hk
    simp only [heldV, Nat.zero_add, Nat.reduceAdd, and_true] at hk
    obtain ⟨q0, q1, q2, q3, q4, q5, q6⟩ := hk
    simp (maxSteps := 1000000) only [List.take_succ_cons, List.take_zero, List.drop_succ_cons, List.drop_zero, fillFrom, Act.put, List.setIfInBounds_toArray, List.set_cons_zero, List.set_cons_succ, Nat.zero_add, Nat.reduceAdd, q0, q1, q2, q3, q4, q5]
    clear q0 q1 q2 q3 q4 q5
    generalize xs 6 = x6 at *
    obtain ⟨k6, rfl, hk6⟩ := q6
    have hown6 := owns_ext hown5 hx6
    have hgg6 := Ext.row hx6 hg5
    have HP6 : Hid _ := HP5.out.ext hx6
    have hs6 := hx6.size
    clear hown5 e0 e1 e2 e3 e4 e5 e6 e7 e8 f0 f1 f2 f3 f4 f5
    go_wp2_with (first
      | (at_builtin; go_must (refine app_op rfl _ _ rfl 0 _ m.pend.length _ rfl hown6 k6 1 _ rfl rfl hk6 (by simp [Value.oneCell']) (by omega) (Nat.zero_le _) ?_; intro v7 w7 hown7 hgr7 hwh7; obtain ⟨va, vc, rfl⟩ := owns_some hown7 (by omega); have hgg7 : w7.heap[g]? = _ := (hgr7.block g (Array.getElem?_eq_some_iff.1 hgg6).1 (fun heq => by obtain ⟨cs9, fr9, hx9⟩ := HP6.out.pend.typed g heq.symm; rw [hgg6] at hx9; simp at hx9)).trans hgg6))
      | (refine store_field rfl 83 (.tmp 38) (.tmp 36) rfl g 3 rfl (.slice (some ⟨va, 0, none⟩) (m.pend.length + 1) vc) rfl rfl _ _ hgg7 (Nat.le_of_ble_eq_true rfl) size_ops (refCells m.room (.slice ya (ap m.now c').length yc) vs (.slice (some ⟨va, 0, none⟩) (m.pend.length + 1) vc) vl m.calls (m.time + 1) m.down vu) (by simp) ?_; intro w8 hg8 hgr8))
    refine NoP.intro ?_
    go_end0
    have hu6 : ∀ k, Value.ownBlock (.slice pa m.pend.length pc) = some k → ¬ IsU8 w6 k := fun k hk => by
      obtain ⟨cs9, fr9, hx9⟩ := HP6.out.pend.typed k hk
      exact cells_u8 hx9 (by kernel_rfl)
    have k57 : ∀ (R : Nat → Prop), KeepR R w5 w7 := fun R => by
      have a := KeepR.of_keep (R := R) (KeepB.of_ext hx6)
      have b : KeepR R w6 w7 := grownR hgr7 hu6
      exact KeepR.trans a b
    have hn7 : OwnL w7 140 6 (IsOp (On R w.heap.size) w7) (.slice (some ⟨va, 0, none⟩) (m.pend.length + 1) vc) (m.pend ++ [c']) :=
      OwnL.app HE5.out hown7 (fun c x hx => hx.keepR (k57 _)) ((IsOp.keepR HOP5.out (k57 _)).mono (fun k hk => .inl hk))
    have hP7 := HP6.out.appPend hgr7 hn7 (fun k hk => by
      rcases hwh7 k hk with h1 | h1
      · exact HP6.out.op k h1
      · exact .inr (by omega))
    have hdo : does m c = { m with time := m.time + 1, now := ap m.now c', pend := m.pend ++ [c'] } := by
      unfold does
      rw [HC'.out]
    rw [hdo]
    refine ⟨rfl, IsRef.fit ⟨g, _, vs, _, vl, vu, rfl, hg8, .inl hO, hP7.own hgg7 hgr8⟩, ?_⟩
    exact ((Fr.ext HFR5.out hx6).step hgr7 (fun k hk => by rcases HP6.out.op k hk with h | h; exact .inl h; exact .inr h) hu6).step hgr8 (fun k hk => by cases hk; exact .inl hO) (by rintro k hk; cases hk; exact cells_u8 hgg7 (by kernel_rfl))

end Go.Proofs.YtoajnaopainpnaaGreatDoor

/-! marref1.Under: what it answers. Conditions: texts of at most 1000000 signs. -/
namespace Go.Proofs.YtoajnaopainpnaaGreatDoor
open Go Go.RowKit

theorem cut_snoc (c : UInt8) : ∀ l : B8, cut c (l ++ [c]) = cut c l ++ [[]]
  | [] => by simp [cut]
  | x :: l => by
    have ih := cut_snoc c l
    rw [List.cons_append, cut, cut]
    split
    · rw [ih]; rfl
    · rw [ih]
      cases hc : cut c l with
      | nil => exact absurd hc (cut_ne c l)
      | cons h t => rfl
theorem path_end {l : B8} (h : pathB (l ++ [47]) = true) : False := by
  unfold pathB at h
  simp only [Bool.and_eq_true, List.all_eq_true] at h
  have := h.2.1 [] (by rw [cut_snoc]; simp)
  revert this; decide
theorem under_eq {d s : B8} (hs : pathB s = true) : isUnder d s = true ↔ d.length + 1 < s.length ∧ s.take d.length = d ∧ s[d.length]? = some 47 := by
  unfold isUnder
  rw [List.isPrefixOf_iff_prefix]
  constructor
  · rintro ⟨t, rfl⟩
    have ht : t ≠ [] := by
      rintro rfl
      rw [List.append_nil] at hs
      exact path_end hs
    have h1 := List.length_pos_iff.2 ht
    refine ⟨by simp; omega, by simp, by simp⟩
  · rintro ⟨h1, h2, h3⟩
    refine ⟨s.drop (d.length + 1), ?_⟩
    have e := List.take_append_drop (d.length + 1) s
    rw [List.take_add_one, h2, h3] at e
    exact e

set_option maxRecDepth 100000 in
set_option maxHeartbeats 1000000 in
theorem runder_any (d s : B8) (w : World) (hd : d.length ≤ 1000000) (hs : s.length ≤ 1000000) :
    Calls Tryz.prog 110 #[S8 d, S8 s] w fun e w' => e = .returned (.bool (pathB d && (pathB s && isUnder d s))) ∧ Ext w w' := by
  have hts : (⟨s.toArray⟩ : ByteArray).toList = s := Lib.toList_data _
  have htd : (⟨d.toArray⟩ : ByteArray).toList = d := Lib.toList_data _
  go_enter Tryz.func110, Tryz.ntmps110
  go_wp2_with fail
  go_at_call 36
  refine (rpath_any d _ hd).mono ?_
  rintro e w1 ⟨rfl, hx1⟩
  cases hp1 : pathB d
  · have HP1 : Hid _ := hp1
    clear hp1
    go_wp2
    go_ret
    exact ⟨ret_b (by rw [HP1.out]; rfl), hx1⟩
  have HP1 : Hid _ := hp1
  clear hp1
  go_wp2_with fail
  go_at_call 36
  refine (rpath_any s _ hs).mono ?_
  rintro e w2 ⟨rfl, hx2⟩
  cases hp2 : pathB s
  · have HP2 : Hid _ := hp2
    clear hp2
    go_wp2
    go_ret
    exact ⟨ret_b (by rw [HP1.out, HP2.out]; rfl), hx1.trans hx2⟩
  have HP2 : Hid _ := hp2
  have HU : Hid _ := @under_eq d s hp2
  clear hp2
  by_cases h1 : d.length + 1 < s.length
  · have h1i : (d.length : Int) + 1 < (s.length : Int) := by omega
    have hidx : d.length < s.length := by omega
    have hex : ((⟨s.toArray⟩ : ByteArray).extract 0 d.length).toList = s.take d.length := by
      rw [extract_list ⟨s.toArray⟩ 0 d.length (Nat.zero_le _) (by show d.length ≤ s.length; omega)]
      simp [Lib.toList_data]
    have hget : (⟨s.toArray⟩ : ByteArray)[d.length]'(by show d.length < s.length; exact hidx) = s[d.length] := rfl
    obtain ⟨bq, hbq⟩ : ∃ bq, (((⟨s.toArray⟩ : ByteArray).extract 0 d.length).toList == d) = bq := ⟨_, rfl⟩
    have HB : Hid ((s.take d.length == d) = bq) := by unfold Hid; rw [← hex]; exact hbq
    have HG : Hid _ := hget
    clear hex hget
    cases bq with
    | true =>
      go_wp2
      go_ret
      refine ⟨ret_b ?_, hx1.trans hx2⟩
      rw [HP1.out, HP2.out, Bool.true_and, Bool.true_and]
      have h2 : s.take d.length = d := by simpa using HB.out
      rw [Bool.eq_iff_iff, HU.out, HG.out]
      constructor
      · intro h3
        have h4 : s[d.length].toNat = 47 := by have := beq_iff_eq.1 h3; omega
        refine ⟨h1, h2, ?_⟩
        rw [List.getElem?_eq_getElem hidx]
        exact congrArg some (UInt8.toNat_inj.1 h4)
      · rintro ⟨_, _, h3⟩
        rw [List.getElem?_eq_getElem hidx] at h3
        rw [Option.some.inj h3]
        rfl
    | false =>
      have HF : Hid (isUnder d s = false) := by
        unfold Hid
        cases hu : isUnder d s with
        | false => rfl
        | true =>
          have := HB.out
          rw [(HU.out.1 hu).2.1] at this
          simp at this
      go_wp2
      go_ret
      exact ⟨ret_b (by rw [HP1.out, HP2.out, HF.out]; rfl), hx1.trans hx2⟩
  · have h1i : ¬ (d.length : Int) + 1 < (s.length : Int) := by omega
    have HF : Hid (isUnder d s = false) := by
      unfold Hid
      cases hu : isUnder d s with
      | false => rfl
      | true => exact absurd (HU.out.1 hu).1 h1
    go_wp2
    go_ret
    exact ⟨ret_b (by rw [HP1.out, HP2.out, HF.out]; rfl), hx1.trans hx2⟩

end Go.Proofs.YtoajnaopainpnaaGreatDoor

/-! marref5.may: may a file stand at a path? Conditions: all paths may be. -/
namespace Go.Proofs.YtoajnaopainpnaaGreatDoor
open Go Go.RowKit

theorem mayR_full {l : Files} {path : B8} {k : Nat} (h : mayR (l.take k) path = true) (hk : l.length ≤ k) : mayR l path = true := by
  rwa [List.take_of_length_le hk] at h

set_option maxRecDepth 100000 in
set_option maxHeartbeats 1000000 in
theorem mayR_any {R : Nat → Prop} {w : World} {v : Value} {l : Files} (path : B8) (hv : IsRows R w v l) (hp : pathB path = true) (hl : ∀ e ∈ l, pathB e.1 = true) :
    Calls Tryz.prog 135 #[v, S8 path] w fun e w' => e = .returned (.bool (mayR l path)) ∧ Ext w w' := by
  obtain ⟨a, cap, rfl, h1, h2, h3, h4⟩ := rows_get hv
  have H4 : Hid _ := h4
  have HP : Hid _ := hp
  have HL : Hid _ := hl
  have hps := path_short hp
  clear h4 hv hp hl
  go_enter Tryz.func135, Tryz.ntmps135
  go_wp2
  go_loopw [5] (fun i wr => ∃ k : Nat, k ≤ l.length ∧ i = .int .i64 k ∧ mayR (l.take k) path = true ∧ Ext w wr) (fun i _ => l.length - (intOf i).toNat)
  case atStart => exact ⟨0, Nat.zero_le _, rfl, rfl, Ext.refl _⟩
  case round =>
    obtain ⟨k, hk, rfl, hn, hx⟩ := hrel
    have HN : Hid _ := hn
    clear hn
    by_cases hlt : k < l.length
    · obtain ⟨⟨q, f⟩, hke⟩ : ∃ e, l[k]? = some e := ⟨_, List.getElem?_eq_getElem hlt⟩
      obtain ⟨b, o, s, c, rfl, hql, hd, c0, -, -, -⟩ := H4.out k q f hke
      replace c0 := hx.cell c0
      have HQ : Hid (pathB q = true) := HL.out (q, f) (List.mem_of_getElem? hke)
      have HM : Hid _ := List.mem_of_getElem? hke
      have HT : Hid _ := mayR_take HN.out hke
      obtain ⟨u1, hu1⟩ : ∃ u1, isUnder path q = u1 := ⟨_, rfl⟩
      obtain ⟨u2, hu2⟩ : ∃ u2, isUnder q path = u2 := ⟨_, rfl⟩
      have HU1 : Hid _ := hu1
      have HU2 : Hid _ := hu2
      clear hd hke hu1 hu2
      cases u1 with
      | true =>
        go_wp2_with (go_at_call 110; go_must (refine (runder_any path q _ (by omega) (by omega)).mono ?_; rw [HP.out, HQ.out, HU1.out]; rintro e w2 ⟨rfl, hx2⟩))
        go_ret
        exact ⟨ret_b (by rw [mayR_no HM.out (by rw [HU1.out]; rfl)]), hx.trans hx2⟩
      | false =>
        go_wp2_with fail
        go_at_call 110
        refine (runder_any path q _ (by omega) (by omega)).mono ?_
        rw [HP.out, HQ.out, HU1.out]
        rintro e w2 ⟨rfl, hx2⟩
        replace c0 := hx2.cell c0
        go_wp2_with fail
        go_at_call 110
        refine (runder_any q path _ (by omega) (by omega)).mono ?_
        rw [HP.out, HQ.out, HU2.out]
        rintro e w3 ⟨rfl, hx3⟩
        cases u2 with
        | true =>
          go_wp2
          go_ret
          exact ⟨ret_b (by rw [mayR_no HM.out (by rw [HU2.out, Bool.or_true])]), (hx.trans hx2).trans hx3⟩
        | false =>
          go_wp2
          go_roundw
          case rel => exact ⟨k + 1, by omega, by go_num, by rw [HT.out, HU1.out, HU2.out]; rfl, (hx.trans hx2).trans hx3⟩
          case measure => simp [intOf]; omega
    · have hkk : l.length ≤ k := by omega
      have HF : Hid _ := mayR_full HN.out hkk
      go_wp2
      go_ret
      exact ⟨ret_b (by rw [HF.out]), hx⟩

end Go.Proofs.YtoajnaopainpnaaGreatDoor

/-! marref5.FS: safe, drop. Conditions: at most 900000 ticks; short paths. -/
namespace Go.Proofs.YtoajnaopainpnaaGreatDoor
open Go Go.RowKit
variable [Inhabited BaseW]

section
variable {ops : Array Oper} {rest : List Oper} {o : Oper} {a : Act} {Q : Exit → Act → World → Prop} {w : World}
/-- append of rows, of whatever slice. -/
theorem app_rows_op (hgd : o.guard = none) (s x : Operand) (ho : o.op = .call { callee := .builtin .append, args := #[s, x], argTypes := #[82, 82] }) (hty : o.type = 82)
    (base : Nat) (v : Value) (n : Nat) (xs : List Value) (hs : a.eval s = v) (hown : w.ownsRow base 137 4 v n xs)
    (xv : Value) (m : Nat) (news : List Value) (hx : a.eval x = xv) (hrow : Row w xv m news) (hl : news.length = m * 4) (h1 : ∀ u ∈ news, u.oneCell' = true) (hb : n + m ≤ 1000000000) (hbase : base ≤ w.heap.size)
    (h : ∀ v' w', w'.ownsRow base 137 4 v' (n + m) (xs ++ news) → w.grownBy w' v.ownBlock → wpList Tryz.prog ops Q rest (a.put o.dst v') w') : wpList Tryz.prog ops Q (o :: rest) a w := by
  refine wpList_plain hgd fun K hK => ?_
  obtain ⟨v', w', hr, h2, h3, h4⟩ := app_rows_run base v n xs hown xv m news hrow hl h1 hb hbase
  unfold Oper.wp execOp
  simp only [ho, hty, resolve, invoke, builtin, Sem.run_bind, Sem.run_pure, Result.andThen_ok, List.map_toArray, List.map_cons, List.map_nil, hs, hx, hr]
  exact hK _ _ (h v' w' h2 h3)
end
theorem rows_cells {R : Nat → Prop} {w : World} {v : Value} {l : Files} (h : IsRows R w v l) : ∃ css : List (List Value), Row w v l.length css.flatten ∧ Each (IsRowR R w) css l ∧ css.flatten.length = l.length * 4 ∧ (∀ u ∈ css.flatten, u.oneCell' = true) := by
  obtain ⟨css, h1, h2, h3⟩ := h
  exact ⟨css, h1, h3, by rw [flat_len (Each.len h3 (fun c x hx => hx.length.1)), h3.1], Each.one h3 (fun c x hx => hx.length.2)⟩

set_option maxRecDepth 100000 in
set_option maxHeartbeats 2000000 in
theorem safe_any {O R : Nat → Prop} {w : World} {p : Value} {m : Fs} (h : IsRef O R w p m) (hl : m.now.length ≤ 1000000) :
    Calls Tryz.prog 106 #[p] w fun e w' => e = .returned (.tuple #[]) ∧ RefPost O R w p (settle m) w' := by
  obtain ⟨g, vn, vs, vp, vl, vu, rfl, hg, hO, hP⟩ := h
  obtain ⟨na, nc, rfl, -⟩ := rows_get hP.now
  obtain ⟨css, hrow, heach, hfl, hone⟩ := rows_cells hP.now
  have hx1 : Ext w (w.alloc (.cells #[] 137)) := (Ext.refl _).alloc _
  have hown1 : (w.alloc (.cells #[] 137)).ownsRow w.heap.size 137 4 (.slice (some ⟨w.heap.size, 0, none⟩) 0 0) 0 [] := ⟨rfl, .inr ⟨w.heap.size, 0, #[], rfl, Nat.le_refl _, alloc_at _ _, Nat.le_refl _, by unfold maxLen; omega, rfl, rfl⟩⟩
  have hg1 := Ext.row hx1 hg
  obtain ⟨d0, d1, d2, d3, d4, d5, d6, d7, d8⟩ := cellsAt9 hg1
  have hgl := (Array.getElem?_eq_some_iff.1 hg).1
  have HX1 : Hid _ := hx1
  have HG : Hid _ := hg
  have HG1 : Hid _ := hg1
  have HP : Hid _ := hP
  have HROW : Hid _ := hrow.ext hx1
  have HEA : Hid _ := heach
  have HFL : Hid _ := hfl
  have HONE : Hid _ := hone
  have HOWN1 : Hid _ := hown1
  clear hg hP hrow heach hfl hone hown1 hx1 hg1
  go_enter Tryz.func106, Tryz.ntmps106
  go_wp2_with (first
    | (at_builtin; go_must (refine app_rows_op rfl _ _ rfl rfl w.heap.size _ 0 [] rfl HOWN1.out _ m.now.length css.flatten rfl HROW.out HFL.out HONE.out (by omega) (by simp) ?_; intro v2 w2 hown2 hgr2; rw [Nat.zero_add, List.nil_append] at hown2; have hx2 : Ext w w2 := owns_ext_app HX1.out HOWN1.out hgr2; have hg2 := Ext.row hx2 HG.out; obtain ⟨ya, yc, rfl, -⟩ := Row.of_owns hown2 (by omega)))
    | (refine store_field rfl 82 (.tmp 10) (.tmp 8) rfl g 2 rfl (.slice ya m.now.length yc) rfl rfl _ _ hg2 (Nat.le_of_ble_eq_true rfl) size_rows (refCells m.room (.slice na m.now.length nc) (.slice ya m.now.length yc) vp vl m.calls m.time m.down vu) (by simp) ?_; intro w3 hg3 hgr3)
    | (refine store_field rfl 83 (.tmp 13) _ rfl g 3 rfl (.slice none 0 0) rfl rfl _ _ hg3 (Nat.le_of_ble_eq_true rfl) size_ops (refCells m.room (.slice na m.now.length nc) (.slice ya m.now.length yc) (.slice none 0 0) vl m.calls m.time m.down vu) (by simp) ?_; intro w4 hg4 hgr4))
  go_end0
  have hown : OwnRows w.heap.size R w2 (.slice ya m.now.length yc) m.now := ⟨css, hown2, Each.imp HEA.out (fun c x hc => IsRowR.keepR hc (KeepR.of_keep (KeepB.of_ext hx2)))⟩
  have hP2 := ((HP.out.ext hx2).mono (O' := On O w.heap.size) (R' := On R w.heap.size) (fun k hk => .inl hk) (fun k hk => .inl hk)).setSure (ReadL.rowsMono (hown.rows (by omega)) (fun k hk => .inl hk)) (fun k hk => .inr (hown.lt hk).1)
  have hP4 := ((hP2.own hg2 hgr3).own hg3 hgr4).noPend
  refine ⟨rfl, IsRef.fit ⟨g, _, _, _, vl, vu, rfl, hg4, .inl hO, hP4⟩, ?_⟩
  exact (((Fr.refl O w).ext hx2).step hgr3 (fun k hk => by cases hk; exact .inl hO) (by rintro k hk; cases hk; exact cells_u8 hg2 (by kernel_rfl))).step hgr4 (fun k hk => by cases hk; exact .inl hO) (by rintro k hk; cases hk; exact cells_u8 hg3 (by kernel_rfl))

theorem place_neg {l : Files} {p : B8} {i : Int} (h : PlaceOf l p i) (hi : i < 0) : look l p = none := by
  rcases h with ⟨h, _⟩ | ⟨k, f, rfl, _⟩
  · exact h
  · omega

set_option maxRecDepth 100000 in
set_option maxHeartbeats 2000000 in
theorem drop_any {O R : Nat → Prop} {w : World} {p : Value} {m : Fs} (path : B8) (h : IsRef O R w p m) (hok : OkM m) (ht : m.time ≤ 800000) (hp : path.length ≤ 400) :
    Calls Tryz.prog 105 #[p, S8 path] w fun e w' => e = .returned (.int .i64 (removesM m path).2) ∧ RefPost O R w p (removesM m path).1 w' := by
  have HH : Hid (IsRef O R w p m) := h
  have hl := hok.lnow
  have hpl := hok.lpend
  have HDEF : Hid (removesM m path = if pathB path = false then (m, 6) else if (look m.now path).isNone then (m, 7) else (does m (.del path), 0)) := rfl
  obtain ⟨g, vn, vs, vp, vl, vu, rfl, hg, hO, hP⟩ := h
  obtain ⟨na, nc, rfl, -⟩ := rows_get hP.now
  have HG : Hid _ := hg
  have HP : Hid _ := hP
  clear hg hP hok
  obtain ⟨pb, hpb⟩ : ∃ pb, pathB path = pb := ⟨_, rfl⟩
  have HPB : Hid _ := hpb
  rw [hpb] at HDEF
  clear hpb
  go_enter Tryz.func105, Tryz.ntmps105
  go_wp2_with fail
  go_at_call 36
  refine (rpath_any path _ (by omega)).mono ?_
  rw [HPB.out]
  rintro e w2 ⟨rfl, hx2⟩
  cases pb with
  | false =>
    go_wp2
    go_ret
    rw [HDEF.out]
    exact ⟨rfl, RefPost.same HH.out hx2⟩
  | true =>
    obtain ⟨d0, d1, d2, d3, d4, d5, d6, d7, d8⟩ := cellsAt9 (Ext.row hx2 HG.out)
    go_wp2_with fail
    go_at_call 118
    refine (find_any path (ReadL.rowsExt HP.out.now hx2)).mono ?_
    rintro e w3 ⟨⟨i, rfl, hpl2⟩, hx3⟩
    rcases hpl2 with ⟨hlk, rfl⟩ | ⟨k, f, rfl, hk, hlk⟩
    · have HD : Hid (removesM m path = (m, 7)) := by unfold Hid; rw [HDEF.out, hlk]; rfl
      clear hlk HDEF
      go_wp2
      go_ret
      rw [HD.out]
      exact ⟨rfl, RefPost.same HH.out (hx2.trans hx3)⟩
    · have HD : Hid (removesM m path = (does m (.del path), 0)) := by unfold Hid; rw [HDEF.out, hlk]; rfl
      clear hlk hk HDEF
      have hk0 : ¬ (k : Int) < 0 := by omega
      go_wp2_with (go_at_call 136; go_must (refine (change_any (.del path) (cs := [.int .i64 3, S8 path, S8 [], .int .i64 0, .slice none 0 0, .int .i64 0]) (IsRef.ext HH.out (hx2.trans hx3)) ⟨by omega, rfl⟩ (by omega) (by omega) (by omega)).mono ?_; rintro e w4 ⟨rfl, h4⟩))
      go_ret
      rw [HD.out]
      exact ⟨rfl, RefPost.pre (hx2.trans hx3) h4⟩

end Go.Proofs.YtoajnaopainpnaaGreatDoor
