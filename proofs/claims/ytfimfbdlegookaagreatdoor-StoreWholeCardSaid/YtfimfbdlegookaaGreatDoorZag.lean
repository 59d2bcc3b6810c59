/- marlaw8.few. Conditions: as each theorem states. -/
import Derived.Test.YtfimfbdlegookaaGreatDoorZaf
import Derived.Test.YtfimfbdlegookaaGreatDoorZae
import Derived.Lib.SlBytesConst
import Derived.Test.YtfimfbdlegookaaGreatDoorZad

set_option linter.unusedVariables false
set_option linter.unusedSimpArgs false
set_option linter.unusedSectionVars false

/-! refs.Set. Conditions: as each theorem states. -/
namespace Go.Proofs.YtfimfbdlegookaaGreatDoor
open Go Go.RowKit

end Go.Proofs.YtfimfbdlegookaaGreatDoor

/-! What marlaw8.RefsExpect says, in plain Lean: one ref, set and deleted just from what it is. Conditions: as each theorem states. -/
namespace Go.Proofs.YtfimfbdlegookaaGreatDoor
open Go Go.RowKit

def headB : B8 := [104, 101, 97, 100]
def placeH : B8 := [115, 47, 114, 47, 104, 101, 97, 100]
def lockH : B8 := [115, 47, 108, 47, 104, 101, 97, 100]
/-- One ref, or none; nothing planned, up, room enough. -/
structure Ex (m : Fs) (cur : B8) : Prop where
  plan : m.plan = []
  down : m.down = false
  room : 1000 ≤ m.room
  now : (cur = [] ∧ m.now = []) ∨ (validB cur = true ∧ ∃ t, m.now = [(placeH, ⟨1, lineM cur, t⟩)])
end Go.Proofs.YtfimfbdlegookaaGreatDoor

/-! A file system of the call's own; marlaw8.first: what the chapter's examples fix. Conditions: as each theorem states. -/
namespace Go.Proofs.YtfimfbdlegookaaGreatDoor
open Go Go.RowKit
set_option linter.unusedVariables false
set_option linter.unusedSimpArgs false
set_option linter.unusedSectionVars false

theorem env_ltR {w0 : World} (hE : Env w0) : 2 < w0.heap.size := by
  obtain ⟨m, hm⟩ := hE
  exact World.block_lt_of_cell? _ _ hm
/-- A file system of the call's own. -/
structure One (w0 : World) (S O : Nat → Prop) (w : World) (f : Value) (m : Fs) : Prop where
  ext : Ext w0 w
  fs : IsFs S O (fun k => k < w.heap.size) w f m
  lo : ∀ k, O k → w0.heap.size ≤ k ∧ k < w.heap.size
  loS : ∀ k, S k → w0.heap.size ≤ k ∧ k < w.heap.size
  disS : ∀ k, S k → ¬ O k
section
variable {w0 w w' : World} {S O : Nat → Prop} {f : Value} {m m' : Fs} {n : Nat}
theorem One.noG (h : One w0 S O w f m) (hE : Env w0) : NoG O := fun k hk e => by have := h.lo k hk; have := env_ltR hE; omega
theorem One.fin (h : One w0 S O w f m) (hE : Env w0) (hg : Good n m) (hn : n ≤ 1000) : FsIn S O (fun k => k < w.heap.size) w f m := by
  have ht := hg.time
  have hc := hg.calls
  exact ⟨hE.ext h.ext, h.fs, hg.ok, hg.plan, by omega, by omega, h.noG hE, fun k hk => ⟨h.disS k hk, (h.loS k hk).2⟩, fun k hk => (h.lo k hk).2, hg.room0, hg.room1⟩
theorem One.more (h : One w0 S O w f m) (hx : Ext w w') : One w0 S O w' f m := by
  have hs := hx.size
  exact ⟨h.ext.trans hx, (h.fs.ext hx).mono (fun _ h => h) (fun k hk => Nat.lt_of_lt_of_le hk hs), fun k hk => by have := h.lo k hk; omega, fun k hk => by have := h.loS k hk; omega, h.disS⟩
theorem One.post (h : One w0 S O w f m) (hp : FsPost S O (fun k => k < w.heap.size) w f m' w') : One w0 S (Nw O w w') w' f m' := by
  have hs := hp.fr.size
  have hs0 := h.ext.size
  refine ⟨Ext.of_fr h.ext hp.fr (fun k hk => (h.lo k hk).1), hp.fs.mono (fun _ h => h) (fun k hk => by rcases hk with hk | hk <;> omega), fun k hk => ?_, fun k hk => by have := h.loS k hk; omega, fun k hk ho => ?_⟩
  · rcases hk with hk | hk
    · have := h.lo k hk; omega
    · exact ⟨by omega, hk.2⟩
  · rcases ho with ho | ho
    · exact h.disS k hk ho
    · have := h.loS k hk; omega
end
theorem One.new {w w' : World} {p : Value} {room : Int} (h : IsFs (fun _ => False) (Nu w w') (fun _ => False) w' p (newM room)) (hx : Ext w w') : One w (fun _ => False) (Nu w w') w' p (newM room) :=
  ⟨hx, h.mono (fun _ h => h) (fun _ h => h.elim), fun k hk => hk, fun k hk => hk.elim, fun k hk => hk.elim⟩
theorem good_new {room : Int} (h0 : 0 ≤ room) (h1 : room ≤ 1073741824) : Good 0 (newM room) :=
  ⟨(new_ok room).1, (new_ok room).2, Nat.zero_le _, Nat.le_refl _, Nat.le_refl _, h0, h1⟩


theorem one_byte {w : World} {g : Nat} {x : UInt8} {fr : Nat × Nat} (h : w.heap[g]? = some (.cells #[.int .u8 (x.toNat : Int)] 5 fr)) : IsBytes w (.slice (some ⟨g, 0, none⟩) 1 1) [x] := Row.new h (by decide) _ rfl
def aB : B8 := shaM [97]
def bB : B8 := shaM [98]
def rm0 : Fs := newM 1000
def rm1 : Fs := (setM rm0 headB [] aB).1
def rm2 : Fs := (setM rm1 headB [] bB).1
def rm3 : Fs := (getM rm2 headB).1
end Go.Proofs.YtfimfbdlegookaaGreatDoor

/-! How the document's file system lies in memory: rows, changes, events, all in slices; what an operation leaves as it was. No conditions of its own. -/
namespace Go.Proofs.YtfimfbdlegookaaGreatDoor
open Go Go.RowKit

/-! ### Rows and changes -/
def IsRowR (R : Nat → Prop) (w : World) (cs : List Value) (e : B8 × Fi) : Prop := e.1.length ≤ 1000000 ∧ ∃ v, cs = [S8 e.1, .int .i64 e.2.mode, v, .int .i64 e.2.time] ∧ IsData R w v e.2.data
theorem IsRowR.mono {R R' : Nat → Prop} {w : World} {cs : List Value} {e : B8 × Fi} (h : IsRowR R w cs e) (hr : ∀ k, R k → R' k) : IsRowR R' w cs e := by
  obtain ⟨h1, v, h2, h3⟩ := h
  exact ⟨h1, v, h2, h3.mono hr⟩
theorem IsRowR.keepR {R : Nat → Prop} {w w' : World} {cs : List Value} {e : B8 × Fi} (h : IsRowR R w cs e) (hk : KeepR R w w') : IsRowR R w' cs e := by
  obtain ⟨h1, v, h2, h3⟩ := h
  exact ⟨h1, v, h2, h3.keepR hk⟩
theorem IsRowR.length {R : Nat → Prop} {w : World} {cs : List Value} {e : B8 × Fi} (h : IsRowR R w cs e) : cs.length = 4 ∧ cs.all (·.oneCell') = true := by
  obtain ⟨_, v, rfl, h3⟩ := h
  obtain ⟨_, _, rfl, _⟩ := h3.bytes
  exact ⟨rfl, by simp [Value.oneCell']⟩
theorem IsRowR.bound {R : Nat → Prop} {w : World} {cs : List Value} {e : B8 × Fi} (h : IsRowR R w cs e) : IsRowR (fun k => R k ∧ k < w.heap.size) w cs e := by
  obtain ⟨h1, v, h2, h3⟩ := h
  exact ⟨h1, v, h2, h3.bound⟩

def IsOp (R : Nat → Prop) (w : World) (cs : List Value) : Ch → Prop
  | .put p f => p.length ≤ 1000000 ∧ ∃ v, cs = [.int .i64 1, S8 [], S8 p, .int .i64 f.mode, v, .int .i64 f.time] ∧ IsData R w v f.data
  | .mv s d => s.length ≤ 1000000 ∧ d.length ≤ 1000000 ∧ cs = [.int .i64 2, S8 s, S8 d, .int .i64 0, .slice none 0 0, .int .i64 0]
  | .del p => p.length ≤ 1000000 ∧ cs = [.int .i64 3, S8 p, S8 [], .int .i64 0, .slice none 0 0, .int .i64 0]
theorem IsOp.mono {R R' : Nat → Prop} {w : World} {cs : List Value} {c : Ch} (h : IsOp R w cs c) (hr : ∀ k, R k → R' k) : IsOp R' w cs c := by
  cases c with
  | put p f =>
    obtain ⟨h1, v, h2, h3⟩ := h
    exact ⟨h1, v, h2, h3.mono hr⟩
  | mv s d => exact h
  | del p => exact h
theorem IsOp.keepR {R : Nat → Prop} {w w' : World} {cs : List Value} {c : Ch} (h : IsOp R w cs c) (hk : KeepR R w w') : IsOp R w' cs c := by
  cases c with
  | put p f =>
    obtain ⟨h1, v, h2, h3⟩ := h
    exact ⟨h1, v, h2, h3.keepR hk⟩
  | mv s d => exact h
  | del p => exact h
theorem IsOp.length {R : Nat → Prop} {w : World} {cs : List Value} {c : Ch} (h : IsOp R w cs c) : cs.length = 6 ∧ cs.all (·.oneCell') = true := by
  cases c with
  | put p f =>
    obtain ⟨_, v, rfl, h3⟩ := h
    obtain ⟨_, _, rfl, _⟩ := h3.bytes
    exact ⟨rfl, by simp [Value.oneCell']⟩
  | mv s d => obtain ⟨_, _, rfl⟩ := h; exact ⟨rfl, by simp [Value.oneCell']⟩
  | del p => obtain ⟨_, rfl⟩ := h; exact ⟨rfl, by simp [Value.oneCell']⟩
theorem IsOp.bound {R : Nat → Prop} {w : World} {cs : List Value} {c : Ch} (h : IsOp R w cs c) : IsOp (fun k => R k ∧ k < w.heap.size) w cs c := by
  cases c with
  | put p f =>
    obtain ⟨h1, v, h2, h3⟩ := h
    exact ⟨h1, v, h2, h3.bound⟩
  | mv s d => exact h
  | del p => exact h

theorem ReadL.lt {α : Type} {w : World} {t : TypeId} {p : List Value → α → Prop} {v : Value} {xs : List α} (h : ReadL w t p v xs) : ∀ k, v.ownBlock = some k → k < w.heap.size := fun k hv => by
  obtain ⟨cs, fr, hb⟩ := h.typed k hv
  exact (Array.getElem?_eq_some_iff.1 hb).1
theorem ReadL.nil {α : Type} (w : World) (t : TypeId) (p : List Value → α → Prop) : ReadL w t p (.slice none 0 0) [] := ⟨[], Row.nil _, Typed.nil _ _ _ _, Each.nil _⟩
theorem OwnL.nil {α : Type} (w : World) (t : TypeId) (size : Nat) (p : List Value → α → Prop) : OwnL w t size p (.slice none 0 0) [] := ⟨[], World.ownsRow_nil _ _ _ _, Each.nil _⟩

abbrev IsRows (R : Nat → Prop) (w : World) (v : Value) (l : Files) : Prop := ReadL w 182 (IsRowR R w) v l
theorem ReadL.rows {R : Nat → Prop} {w w' : World} {v : Value} {l : Files} (h : IsRows R w v l) (hb : ∀ k, v.ownBlock = some k → w'.heap[k]? = w.heap[k]?) (hk : KeepR R w w') : IsRows R w' v l :=
  (ReadL.stay h hb).mono (fun c x hx => hx.keepR hk)
theorem ReadL.rowsMono {R R' : Nat → Prop} {w : World} {v : Value} {l : Files} (h : IsRows R w v l) (hr : ∀ k, R k → R' k) : IsRows R' w v l :=
  h.mono (fun c x hx => hx.mono hr)

/-! ### A base world: what was there when the law's function was called -/
structure BaseW where
  w : World
def baseW [Inhabited BaseW] : World := (default : BaseW).w
variable [Inhabited BaseW]
/-- Bytes that were there. -/
structure OldB (v : Value) (l : B8) : Prop where
  bytes : IsBytes baseW v l
  low : ∀ a n c, v = .slice (some a) n c → n ≠ 0 → a.block < baseW.heap.size
def IsEvD (cs : List Value) (e : Ev) : Prop := ∃ vd, cs = [.int .i64 e.t, .int .i64 e.kind, .int .i64 e.mode, .int .i64 e.keep, .int .i64 e.torn, S8 e.path, vd] ∧ OldB vd e.data ∧ e.path.length ≤ 1000000
/-- .. as it comes in: its path may be of any length. -/
def IsEvI (cs : List Value) (e : Ev) : Prop := ∃ vd, cs = [.int .i64 e.t, .int .i64 e.kind, .int .i64 e.mode, .int .i64 e.keep, .int .i64 e.torn, S8 e.path, vd] ∧ OldB vd e.data
theorem IsEvI.length {cs : List Value} {e : Ev} (h : IsEvI cs e) : cs.length = 7 ∧ cs.all (·.oneCell') = true := by
  obtain ⟨v, rfl, h2⟩ := h
  obtain ⟨_, _, rfl, _⟩ := h2.bytes
  exact ⟨rfl, by simp [Value.oneCell']⟩
theorem IsEvI.up {cs : List Value} {e : Ev} (h : IsEvI cs e) (hp : e.path.length ≤ 400) : IsEvD cs e := by
  obtain ⟨v, h1, h2⟩ := h
  exact ⟨v, h1, h2, by omega⟩
theorem IsEvD.length {cs : List Value} {e : Ev} (h : IsEvD cs e) : cs.length = 7 ∧ cs.all (·.oneCell') = true := by
  obtain ⟨v, rfl, h2, _⟩ := h
  obtain ⟨_, _, rfl, _⟩ := h2.bytes
  exact ⟨rfl, by simp [Value.oneCell']⟩
theorem OldB.at {v : Value} {l : B8} {w : World} (h : OldB v l) (hx : Ext baseW w) : IsBytes w v l := h.bytes.ext hx
theorem OldB.out {v : Value} {l : B8} {w : World} {O : Nat → Prop} (h : OldB v l) (hO : ∀ k, O k → baseW.heap.size ≤ k) : Out O w v := fun a n c he hn => .inl fun ho => by have := h.low a n c he hn; have := hO _ ho; omega
theorem IsEvD.read {cs : List Value} {e : Ev} {w : World} (h : IsEvD cs e) (hx : Ext baseW w) : IsEvB w cs e := by
  obtain ⟨v, h1, h2, h3⟩ := h
  exact ⟨v, h1, h2.at hx, h3⟩

/-! ### The parts of the document's file system, but for its own block -/
structure RParts (O R : Nat → Prop) (w : World) (vn vs vp vl vu : Value) (now sure : Files) (pend : List Ch) (L users : List Ev) : Prop where
  now : IsRows R w vn now
  on : Inn O vn
  sure : IsRows R w vs sure
  os : Inn O vs
  pend : OwnL w 185 6 (IsOp R w) vp pend
  op : Inn O vp
  plan : OwnL w 146 7 IsEvD vl L
  ol : Inn O vl
  users : OwnL w 146 7 (IsEvR R w) vu users
  ou : Inn O vu
  off : ∀ k, vu.ownBlock = some k → vl.ownBlock ≠ some k
abbrev refCells (room : Int) (vn vs vp vl : Value) (calls time : Nat) (down : Bool) (vu : Value) : Array Value := #[.int .i64 room, vn, vs, vp, vl, .int .i64 calls, .int .i64 time, .bool down, vu]
def IsRef (O R : Nat → Prop) (w : World) (p : Value) (m : Fs) : Prop := ∃ (g : Nat) (vn vs vp vl vu : Value), p = .pointer (some ⟨g, 0, none⟩) ∧
    w.heap[g]? = some (.cells (refCells m.room vn vs vp vl m.calls m.time m.down vu) 133 (0, 0)) ∧ O g ∧ RParts O R w vn vs vp vl vu m.now m.sure m.pend m.plan m.users

section
variable {O R : Nat → Prop} {w w' : World} {vn vs vp vl vu : Value} {now sure : Files} {pend : List Ch} {L users : List Ev}
theorem RParts.mono {O' R' : Nat → Prop} (h : RParts O R w vn vs vp vl vu now sure pend L users) (ho : ∀ k, O k → O' k) (hr : ∀ k, R k → R' k) : RParts O' R' w vn vs vp vl vu now sure pend L users :=
  ⟨h.now.rowsMono hr, h.on.mono ho, h.sure.rowsMono hr, h.os.mono ho, h.pend.mono (fun c x hx => hx.mono hr), h.op.mono ho, h.plan, h.ol.mono ho, h.users.mono (fun c x hx => hx.mono hr), h.ou.mono ho, h.off⟩
theorem RParts.stay (h : RParts O R w vn vs vp vl vu now sure pend L users)
    (hn : ∀ k, vn.ownBlock = some k → w'.heap[k]? = w.heap[k]?) (hs : ∀ k, vs.ownBlock = some k → w'.heap[k]? = w.heap[k]?) (hp : ∀ k, vp.ownBlock = some k → w'.heap[k]? = w.heap[k]?) (hl : ∀ k, vl.ownBlock = some k → w'.heap[k]? = w.heap[k]?) (hu : ∀ k, vu.ownBlock = some k → w'.heap[k]? = w.heap[k]?) (hk : KeepR R w w') :
    RParts O R w' vn vs vp vl vu now sure pend L users :=
  ⟨h.now.rows hn hk, h.on, h.sure.rows hs hk, h.os, (h.pend.stay hp).mono (fun c x hx => hx.keepR hk), h.op, h.plan.stay hl, h.ol, (h.users.stay hu).mono (fun c x hx => hx.keepR hk), h.ou, h.off⟩
theorem RParts.stayO (h : RParts O R w vn vs vp vl vu now sure pend L users)
    (ho : ∀ k, O k → k < w.heap.size → w'.heap[k]? = w.heap[k]?) (hk : KeepR R w w') : RParts O R w' vn vs vp vl vu now sure pend L users :=
  h.stay (fun k hv => ho k (h.on k hv) (h.now.lt k hv)) (fun k hv => ho k (h.os k hv) (h.sure.lt k hv)) (fun k hv => ho k (h.op k hv) (h.pend.lt k hv)) (fun k hv => ho k (h.ol k hv) (h.plan.lt k hv)) (fun k hv => ho k (h.ou k hv) (h.users.lt k hv)) hk
theorem RParts.ext (h : RParts O R w vn vs vp vl vu now sure pend L users) (hx : Ext w w') : RParts O R w' vn vs vp vl vu now sure pend L users :=
  h.stayO (fun k _ hlt => hx.block k hlt) (KeepR.of_keep (KeepB.of_ext hx))
/-- .. where only the own block is written. -/
theorem RParts.own (h : RParts O R w vn vs vp vl vu now sure pend L users)
    {g : Nat} {cs : Array Value} {fr : Nat × Nat} (hg : w.heap[g]? = some (.cells cs 133 fr)) (hw : w.grownBy w' (some g)) : RParts O R w' vn vs vp vl vu now sure pend L users := by
  have ne : ∀ k, (∃ x, w.heap[k]? = some x ∧ x ≠ Obj.cells cs 133 fr) → w'.heap[k]? = w.heap[k]? := fun k ⟨x, hx, hn⟩ => hw.block k (Array.getElem?_eq_some_iff.1 hx).1 (by simpa using apart_kind hx hg hn)
  refine h.stay (fun k hv => ?_) (fun k hv => ?_) (fun k hv => ?_) (fun k hv => ?_) (fun k hv => ?_) (grownR hw (by rintro k hk; simp at hk; subst hk; exact cells_u8 hg (by kernel_rfl)))
  · obtain ⟨xs, f, hx⟩ := h.now.typed k hv; exact ne k ⟨_, hx, by simp⟩
  · obtain ⟨xs, f, hx⟩ := h.sure.typed k hv; exact ne k ⟨_, hx, by simp⟩
  · obtain ⟨xs, f, hx⟩ := h.pend.typed k hv; exact ne k ⟨_, hx, by simp⟩
  · obtain ⟨xs, f, hx⟩ := h.plan.typed k hv; exact ne k ⟨_, hx, by simp⟩
  · obtain ⟨xs, f, hx⟩ := h.users.typed k hv; exact ne k ⟨_, hx, by simp⟩
/-- .. where the changes' slice grows. -/
theorem RParts.appPend (h : RParts O R w vn vs vp vl vu now sure pend L users)
    (hw : w.grownBy w' vp.ownBlock) {vp' : Value} {pend' : List Ch} (hn : OwnL w' 185 6 (IsOp R w') vp' pend') (hi : Inn O vp') : RParts O R w' vn vs vp' vl vu now sure pend' L users := by
  have hk : KeepR R w w' := grownR hw (fun k hk => by obtain ⟨cs, fr, hx⟩ := h.pend.typed k hk; exact cells_u8 hx (by kernel_rfl))
  have ne : ∀ k, (∃ x, w.heap[k]? = some x ∧ ∀ cs fr, x ≠ Obj.cells cs 185 fr) → w'.heap[k]? = w.heap[k]? := fun k ⟨x, hx, hn⟩ => hw.block k (Array.getElem?_eq_some_iff.1 hx).1 (fun heq => by
    obtain ⟨cs, fr, hy⟩ := h.pend.typed k heq.symm
    rw [hx] at hy
    exact hn cs fr (Option.some.inj hy))
  refine ⟨h.now.rows (fun k hv => ?_) hk, h.on, h.sure.rows (fun k hv => ?_) hk, h.os, hn, hi, h.plan.stay (fun k hv => ?_), h.ol, (h.users.stay (fun k hv => ?_)).mono (fun c x hx => hx.keepR hk), h.ou, h.off⟩
  · obtain ⟨xs, f, hx⟩ := h.now.typed k hv; exact ne k ⟨_, hx, by simp⟩
  · obtain ⟨xs, f, hx⟩ := h.sure.typed k hv; exact ne k ⟨_, hx, by simp⟩
  · obtain ⟨xs, f, hx⟩ := h.plan.typed k hv; exact ne k ⟨_, hx, by simp⟩
  · obtain ⟨xs, f, hx⟩ := h.users.typed k hv; exact ne k ⟨_, hx, by simp⟩
theorem RParts.appUsers (h : RParts O R w vn vs vp vl vu now sure pend L users)
    (hw : w.grownBy w' vu.ownBlock) {vu' : Value} {users' : List Ev} (hn : OwnL w' 146 7 (IsEvR R w') vu' users') (hi : Inn O vu') (hoff : ∀ k, vu'.ownBlock = some k → vl.ownBlock ≠ some k) : RParts O R w' vn vs vp vl vu' now sure pend L users' := by
  have hk : KeepR R w w' := grownR hw (fun k hk => by obtain ⟨cs, fr, hx⟩ := h.users.typed k hk; exact cells_u8 hx (by kernel_rfl))
  have ne : ∀ k, (∃ x, w.heap[k]? = some x ∧ ∀ cs fr, x ≠ Obj.cells cs 146 fr) → w'.heap[k]? = w.heap[k]? := fun k ⟨x, hx, hn⟩ => hw.block k (Array.getElem?_eq_some_iff.1 hx).1 (fun heq => by
    obtain ⟨cs, fr, hy⟩ := h.users.typed k heq.symm
    rw [hx] at hy
    exact hn cs fr (Option.some.inj hy))
  refine ⟨h.now.rows (fun k hv => ?_) hk, h.on, h.sure.rows (fun k hv => ?_) hk, h.os, (h.pend.stay (fun k hv => ?_)).mono (fun c x hx => hx.keepR hk), h.op, h.plan.stay (fun k hv => ?_), h.ol, hn, hi, hoff⟩
  · obtain ⟨xs, f, hx⟩ := h.now.typed k hv; exact ne k ⟨_, hx, by simp⟩
  · obtain ⟨xs, f, hx⟩ := h.sure.typed k hv; exact ne k ⟨_, hx, by simp⟩
  · obtain ⟨xs, f, hx⟩ := h.pend.typed k hv; exact ne k ⟨_, hx, by simp⟩
  · obtain ⟨xs, f, hx⟩ := h.plan.typed k hv
    exact hw.block k (Array.getElem?_eq_some_iff.1 hx).1 (fun heq => h.off k heq.symm hv)
theorem RParts.bound (h : RParts O R w vn vs vp vl vu now sure pend L users) :
    RParts (fun k => O k ∧ k < w.heap.size) (fun k => R k ∧ k < w.heap.size) w vn vs vp vl vu now sure pend L users :=
  ⟨h.now.mono (fun c x hx => hx.bound), fun k hk => ⟨h.on k hk, h.now.lt k hk⟩, h.sure.mono (fun c x hx => hx.bound), fun k hk => ⟨h.os k hk, h.sure.lt k hk⟩, h.pend.mono (fun c x hx => hx.bound), fun k hk => ⟨h.op k hk, h.pend.lt k hk⟩, h.plan, fun k hk => ⟨h.ol k hk, h.plan.lt k hk⟩, h.users.mono (fun c x hx => hx.bound), fun k hk => ⟨h.ou k hk, h.users.lt k hk⟩, h.off⟩
end

/-! ### The whole -/
section
variable {O O' R R' : Nat → Prop} {w w' : World} {p : Value} {m : Fs}
theorem IsRef.mono (h : IsRef O R w p m) (ho : ∀ k, O k → O' k) (hr : ∀ k, R k → R' k) : IsRef O' R' w p m := by
  obtain ⟨g, vn, vs, vp, vl, vu, h1, h2, h3, h4⟩ := h
  exact ⟨g, vn, vs, vp, vl, vu, h1, h2, ho _ h3, h4.mono ho hr⟩
theorem IsRef.fit (h : IsRef (On O w.heap.size) (On R w.heap.size) w' p m) : IsRef (Nw O w w') (Nw R w w') w' p m := by
  obtain ⟨g, vn, vs, vp, vl, vu, h1, h2, h3, h4⟩ := h
  have hlt := (Array.getElem?_eq_some_iff.1 h2).1
  have hb : ∀ (S : Nat → Prop) k, On S w.heap.size k ∧ k < w'.heap.size → Nw S w w' k := fun S k hk => hk.1.imp id (fun h => ⟨h, hk.2⟩)
  exact ⟨g, vn, vs, vp, vl, vu, h1, h2, hb O g ⟨h3, hlt⟩, h4.bound.mono (hb O) (hb R)⟩
theorem IsRef.stay (h : IsRef O R w p m) (ho : ∀ k, O k → k < w.heap.size → w'.heap[k]? = w.heap[k]?) (hk : KeepR R w w') : IsRef O R w' p m := by
  obtain ⟨g, vn, vs, vp, vl, vu, h1, h2, h3, h4⟩ := h
  exact ⟨g, vn, vs, vp, vl, vu, h1, (ho g h3 (Array.getElem?_eq_some_iff.1 h2).1).trans h2, h3, h4.stayO ho hk⟩
theorem IsRef.ext (h : IsRef O R w p m) (hx : Ext w w') : IsRef O R w' p m :=
  h.stay (fun k _ hlt => hx.block k hlt) (KeepR.of_keep (KeepB.of_ext hx))
end

/-- What a call leaves of the document's file system. -/
structure RefPost (O R : Nat → Prop) (w : World) (p : Value) (m : Fs) (w' : World) : Prop where
  fs : IsRef (Nw O w w') (Nw R w w') w' p m
  fr : Fr O w w'
section
variable {O R : Nat → Prop} {w wx w1 w' : World} {p : Value} {m m1 : Fs}
theorem RefPost.of_ext (hx : Ext w wx) (h : RefPost O (Nw R w wx) wx p m w') : RefPost O R w p m w' := by
  refine ⟨h.fs.mono (fun k hk => ?_) (fun k hk => hk.nw hx.size h.fr.size), (Fr.of_ext hx).trans (h.fr.mono fun k hk => .inl hk)⟩
  rcases hk with hk | hk
  · exact .inl hk
  · exact .inr ⟨Nat.le_trans hx.size hk.1, hk.2⟩
theorem RefPost.trans (h1 : RefPost O R w p m1 w1) (h : RefPost (Nw O w w1) (Nw R w w1) w1 p m w') : RefPost O R w p m w' :=
  ⟨h.fs.mono (fun k hk => hk.nw h1.fr.size h.fr.size) (fun k hk => hk.nw h1.fr.size h.fr.size), h1.fr.trans h.fr⟩
theorem RefPost.same (h : IsRef O R w p m) (hx : Ext w w') : RefPost O R w p m w' :=
  ⟨(h.ext hx).mono (fun k hk => .inl hk) (fun k hk => .inl hk), Fr.of_ext hx⟩
theorem RefPost.ext (h : RefPost O R w p m w1) (hx : Ext w1 w') : RefPost O R w p m w' := h.trans (RefPost.same h.fs hx)
theorem RefPost.pre (hx : Ext w wx) (h : RefPost O R wx p m w') : RefPost O R w p m w' := RefPost.of_ext hx ⟨h.fs.mono (fun k hk => hk) (fun k hk => hk.imp .inl id), h.fr⟩
end

end Go.Proofs.YtfimfbdlegookaaGreatDoor

/-! What the document's lists of files are, in plain Lean: places, files put in their places, what may be. No conditions. -/
namespace Go.Proofs.YtfimfbdlegookaaGreatDoor
open Go Go.RowKit

/-- The place of a path. -/
def PlaceOf (l : Files) (p : B8) (i : Int) : Prop := (look l p = none ∧ i = -1) ∨ ∃ (k : Nat) (f : Fi), i = k ∧ l[k]? = some (p, f) ∧ look l p = some f
def mayR (l : Files) (path : B8) : Bool := !(l.any fun e => isUnder path e.1 || isUnder e.1 path)
end Go.Proofs.YtfimfbdlegookaaGreatDoor

/-! marref5: find, used: what is read of a list of files. Conditions: at most 10000000 files; short paths. -/
namespace Go.Proofs.YtfimfbdlegookaaGreatDoor
open Go Go.RowKit

theorem Row.stayN {w w' : World} {v : Value} {n : Nat} {cs : List Value} (h : Row w v n cs) (hb : cs ≠ [] → ∀ k, v.ownBlock = some k → w'.heap[k]? = w.heap[k]?) : Row w' v n cs := by
  obtain ⟨a, cap, rfl, h1, h2, h3, h4⟩ := h
  refine ⟨a, cap, rfl, h1, h2, h3, fun hn => ?_⟩
  obtain ⟨b, o, rfl, hc⟩ := h4 hn
  refine ⟨b, o, rfl, fun i u hu => ?_⟩
  rw [World.cell?_of_block (w := w) (w' := w') (a := ⟨b, o + i, none⟩) (hb hn b rfl)]
  exact hc i u hu
/-- A slice of another's, that is read alone: its block's type is not told. -/
def ReadO {α : Type} (w : World) (p : List Value → α → Prop) (v : Value) (xs : List α) : Prop := ∃ css : List (List Value), Row w v xs.length css.flatten ∧ (xs ≠ [] → ∀ k, v.ownBlock = some k → k < w.heap.size) ∧ Each p css xs
theorem ReadO.mono {α : Type} {w : World} {p q : List Value → α → Prop} {v : Value} {xs : List α} (h : ReadO w p v xs) (hpq : ∀ c x, p c x → q c x) : ReadO w q v xs := by
  obtain ⟨css, h1, h2, h3⟩ := h
  exact ⟨css, h1, h2, h3.imp hpq⟩
theorem ReadO.lt {α : Type} {w : World} {p : List Value → α → Prop} {v : Value} {xs : List α} (h : ReadO w p v xs) (hn : xs ≠ []) : ∀ k, v.ownBlock = some k → k < w.heap.size := by
  obtain ⟨css, h1, h2, h3⟩ := h
  exact h2 hn
theorem ReadO.stay {α : Type} {w w' : World} {p : List Value → α → Prop} {v : Value} {xs : List α} (h : ReadO w p v xs) (hs : w.heap.size ≤ w'.heap.size) (hb : xs ≠ [] → ∀ k, v.ownBlock = some k → w'.heap[k]? = w.heap[k]?) : ReadO w' p v xs := by
  obtain ⟨css, h1, h2, h3⟩ := h
  refine ⟨css, h1.stayN (fun hn => hb fun hx => hn ?_), fun hn k hk => Nat.lt_of_lt_of_le (h2 hn k hk) hs, h3⟩
  have : css = [] := List.eq_nil_of_length_eq_zero (by rw [h3.1, hx]; rfl)
  rw [this]; rfl
theorem readO_get {α : Type} {w : World} {p : List Value → α → Prop} {v : Value} {xs : List α} (n : Nat) (hp : ∀ c x, p c x → c.length = n) (hn0 : 0 < n) (h : ReadO w p v xs) : ∃ a cap, v = .slice a xs.length cap ∧ xs.length ≤ cap ∧ xs.length ≤ 140737488355328 ∧ cap ≤ 9223372036854775807 ∧
    ∀ (k : Nat) x, xs[k]? = some x → ∃ b o cs, a = some ⟨b, o, none⟩ ∧ p cs x ∧ ∀ j u, cs[j]? = some u → w.cell? ⟨b, o + k * n + j, none⟩ = some u := by
  obtain ⟨css, ⟨a, cap, rfl, h1, h2, h3, h4⟩, ht, he⟩ := h
  refine ⟨a, cap, rfl, h1, h3, h2, fun k x hk => ?_⟩
  have h7 : ∀ c ∈ css, c.length = n := fun c hc => by
    obtain ⟨i, hi, rfl⟩ := List.mem_iff_getElem.1 hc
    have hi2 : i < xs.length := by rw [← he.1]; exact hi
    exact hp _ _ (he.2 i css[i] xs[i] (List.getElem?_eq_getElem hi) (List.getElem?_eq_getElem hi2))
  have hkl : k < css.length := by rw [he.1]; exact (List.getElem?_eq_some_iff.1 hk).1
  have hev := he.2 k _ x (List.getElem?_eq_getElem hkl) hk
  have hf := fun j u hu => flat_get n css k j _ u h7 (List.getElem?_eq_getElem hkl) hu
  obtain ⟨b, o, rfl, hc⟩ := h4 (by
    intro hnil
    have h0 : (css[k])[0]? = some ((css[k])[0]'(by rw [hp _ _ hev]; exact hn0)) := List.getElem?_eq_getElem _
    have := hf 0 _ h0
    rw [hnil] at this
    simp at this)
  refine ⟨b, o, css[k], rfl, hev, fun j u hu => ?_⟩
  have := hc _ _ (hf j u hu)
  rwa [Nat.add_assoc, Nat.mul_comm k n]

theorem tl (l : B8) : (⟨l.toArray⟩ : ByteArray).toList = l := Lib.toList_data _

end Go.Proofs.YtfimfbdlegookaaGreatDoor

/-! marlaw5.FewEvents, Few: are events, operations few and small? Conditions: as each theorem states. -/
namespace Go.Proofs.YtfimfbdlegookaaGreatDoor
open Go Go.RowKit
variable [Inhabited BaseW]

theorem ReadO.dRead {w : World} {v : Value} {L : List Ev} (h : ReadO w IsEvD v L) (hx : Ext baseW w) : ReadB w v L := by
  obtain ⟨css, h1, _, h2⟩ := h
  exact ⟨css, h1, h2.imp (fun c x hc => hc.read hx)⟩
theorem ReadO.dExt {p : List Value → Ev → Prop} {w w' : World} {v : Value} {L : List Ev} (h : ReadO w p v L) (hx : Ext w w') : ReadO w' p v L := h.stay hx.size (fun hn k hk => hx.block k (h.lt hn k hk))
theorem ReadO.dUp {w : World} {v : Value} {L : List Ev} (h : ReadO w IsEvI v L) (hp : ∀ e ∈ L, e.path.length ≤ 400) : ReadO w IsEvD v L := by
  obtain ⟨css, h1, h2, h3, h4⟩ := h
  exact ⟨css, h1, h2, h3, fun i c x hc hx => (h4 i c x hc hx).up (hp x (List.mem_of_getElem? hx))⟩

/-- An operation, in its cells. -/
def IsOpn (w : World) (cs : List Value) (o : Opn) : Prop := ∃ vd vp, cs = [.int .i64 o.kind, .int .i64 o.mode, .int .i64 o.keep, .int .i64 o.torn, S8 o.path, S8 o.dest, vd, vp] ∧ OldB vd o.data ∧ ReadO w IsEvI vp o.plan
/-! ### FewEvents -/
def evW (n : Nat) (e : Ev) : Nat := min (n + min e.data.length 40000 + min e.path.length 1000) 160000
def fewEv (es : List Ev) : Bool := decide (es.length ≤ 60) && (es.all (fun e => decide (e.path.length ≤ 400)) && decide (es.foldl evW 0 ≤ 40000))
theorem evW_snoc {l : List Ev} {k : Nat} {e : Ev} (h : l[k]? = some e) : (l.take (k + 1)).foldl evW 0 = evW ((l.take k).foldl evW 0) e := by
  have hk := (List.getElem?_eq_some_iff.1 h)
  obtain ⟨hlt, rfl⟩ := hk
  rw [List.take_succ_eq_append_getElem hlt, List.foldl_append]
  rfl
theorem few_snoc {l : List Ev} {k : Nat} {e : Ev} (h : l[k]? = some e) (h0 : (l.take k).all (fun e => decide (e.path.length ≤ 400)) = true) (h1 : e.path.length ≤ 400) : (l.take (k + 1)).all (fun e => decide (e.path.length ≤ 400)) = true := by
  obtain ⟨hlt, rfl⟩ := (List.getElem?_eq_some_iff.1 h)
  rw [List.take_succ_eq_append_getElem hlt]
  simp only [List.all_append, h0, List.all_cons, List.all_nil, Bool.and_true, Bool.true_and, decide_eq_true_eq]
  exact h1
theorem few_no {l : List Ev} {k : Nat} {e : Ev} (h : l[k]? = some e) (h1 : ¬ e.path.length ≤ 400) : fewEv l = false := by
  have : l.all (fun e => decide (e.path.length ≤ 400)) = false := by
    rw [List.all_eq_false]
    exact ⟨e, List.mem_of_getElem? h, by simpa using h1⟩
  unfold fewEv
  rw [this]
  simp

set_option maxRecDepth 100000 in
set_option maxHeartbeats 2000000 in
theorem fewEvents_any {w : World} {v : Value} {l : List Ev} (hv : ReadO w IsEvI v l) :
    Calls Tryz.prog 23 #[v] w fun e w' => e = .returned (.bool (fewEv l)) ∧ Ext w w' := by
  obtain ⟨a, cap, rfl, h1, h2, h3, h4⟩ := readO_get 7 (fun c x hx => hx.length.1) (by omega) hv
  have H4 : Hid _ := h4
  clear h4 hv
  go_enter Tryz.func23, Tryz.ntmps23
  go_wp2
  go_loopw [3, 4] (fun n i wr => ∃ k m : Nat, Ext w wr ∧ k ≤ l.length ∧ k ≤ 60 ∧ i = .int .i64 k ∧ n = .int .i64 m ∧ m ≤ 160000 ∧ (l.take k).foldl evW 0 = m ∧ (l.take k).all (fun e => decide (e.path.length ≤ 400)) = true) (fun _ i _ => l.length - (intOf i).toNat)
  case atStart => exact ⟨0, 0, Ext.refl _, Nat.zero_le _, by omega, rfl, rfl, by omega, rfl, rfl⟩
  case round =>
    obtain ⟨k, m, hx, hk, hk6, rfl, rfl, hm, hfd, hal⟩ := hrel
    have HX : Hid _ := hx
    have HF : Hid _ := hfd
    have HA : Hid _ := hal
    clear hfd hal
    by_cases hlt : k < l.length
    · by_cases h60 : k < 60
      · obtain ⟨E, he⟩ : ∃ e, l[k]? = some e := ⟨_, List.getElem?_eq_getElem hlt⟩
        obtain ⟨b, o, cs, rfl, hev, hc⟩ := H4.out k E he
        obtain ⟨vd, rfl, hd⟩ := hev
        obtain ⟨s1, s2, rfl, -⟩ := id hd.bytes
        have c5 := hx.cell (hc 5 _ rfl)
        have c6 := hx.cell (hc 6 _ rfl)
        have HE : Hid _ := he
        have hdl := hd.bytes.len
        obtain ⟨d', hd'⟩ : ∃ d', min E.data.length 40000 = d' := ⟨_, rfl⟩
        obtain ⟨p', hp'⟩ : ∃ p', min E.path.length 1000 = p' := ⟨_, rfl⟩
        obtain ⟨n', hn'⟩ : ∃ n', min (m + d' + p') 160000 = n' := ⟨_, rfl⟩
        have hmd : min (E.data.length : Int) 40000 = (d' : Int) := by omega
        have hmp : min (E.path.length : Int) 1000 = (p' : Int) := by omega
        have hmn : min ((m : Int) + d' + p') 160000 = (n' : Int) := by omega
        have hdl' : d' ≤ 40000 := by omega
        have hpl' : p' ≤ 1000 := by omega
        have hnl : n' ≤ 160000 := by omega
        have hw1 : IntKind.i64.wrap ((m : Int) + (d' : Int)) = (m : Int) + d' := IntWalk.i64_in _ (by omega)
        have hw2 : IntKind.i64.wrap ((m : Int) + (d' : Int) + (p' : Int)) = (m : Int) + d' + p' := IntWalk.i64_in _ (by omega)
        have HN : Hid (evW m E = n') := by unfold Hid evW; rw [hd', hp', hn']
        clear hd he hd' hp' hn' hc
        by_cases h4 : E.path.length ≤ 400
        · have h4i : ¬ (400 : Int) < (E.path.length : Int) := by omega
          have H40 : Hid _ := h4
          clear h4
          go_wp2_with fail
          apply wp_region_mix 18 [_, _, _, _, _, _, _, _, _, _, _, _, _, _, _, _, _, .int .i64 n'] [none, none, none, none, none, none, none, none, none, none, none, none, none, none, none, none, none, none] [[], [], [], [1, 2], [3], [4], [5], [6], [0, 7], [], [], [9, 10], [11], [12], [13], [14], [8, 15], [16]] (by kernel_rfl) (by kernel_rfl) (by simp [mixV])
          · trivial
          · simp (maxSteps := 1000000) only [List.take_succ_cons, List.take_zero, oblFrom, stepObl, fillFrom, Act.put, List.setIfInBounds_toArray, List.set_cons_zero, List.set_cons_succ, knows, getV, mixV, List.getD_cons_zero, List.getD_cons_succ, and_true, true_and, forall_const]
            refine ⟨?_, ?_, ?_, ?_, ?_, ?_, ?_, ?_, ?_, ?_, ?_, ?_, ?_, ?_, ?_, ?_, ?_, ?_⟩
            · intro xs wq hq R hR
              have f5 := hq.cell c5; have f6 := hq.cell c6
              go_simp
              exact hR _ _ (Ext.refl _) rfl
            · intro xs wq hq R hR
              have f5 := hq.cell c5; have f6 := hq.cell c6
              go_simp
              exact hR _ _ (Ext.refl _) rfl
            · intro xs wq hq R hR
              have f5 := hq.cell c5; have f6 := hq.cell c6
              go_simp
              exact hR _ _ (Ext.refl _) rfl
            · intro xs wq hq hk R hR
              obtain ⟨hk0, hk1⟩ := hk
              have f5 := hq.cell c5; have f6 := hq.cell c6
              go_simp
              exact hR _ _ (Ext.refl _) rfl
            · intro xs wq hq hk R hR
              have f5 := hq.cell c5; have f6 := hq.cell c6
              go_simp
              exact hR _ _ (Ext.refl _) rfl
            · intro xs wq hq hk R hR
              have f5 := hq.cell c5; have f6 := hq.cell c6
              go_simp
              exact hR _ _ (Ext.refl _) rfl
            · intro xs wq hq hk R hR
              have f5 := hq.cell c5; have f6 := hq.cell c6
              go_simp
              exact hR _ _ (Ext.refl _) rfl
            · intro xs wq hq hk R hR
              have f5 := hq.cell c5; have f6 := hq.cell c6
              go_simp
              exact hR _ _ (Ext.refl _) rfl
            · intro xs wq hq hk R hR
              obtain ⟨hk0, hk1⟩ := hk
              have f5 := hq.cell c5; have f6 := hq.cell c6
              go_simp
              exact hR _ _ (Ext.refl _) rfl
            · intro xs wq hq R hR
              have f5 := hq.cell c5; have f6 := hq.cell c6
              go_simp
              exact hR _ _ (Ext.refl _) rfl
            · intro xs wq hq R hR
              have f5 := hq.cell c5; have f6 := hq.cell c6
              go_simp
              exact hR _ _ (Ext.refl _) rfl
            · intro xs wq hq hk R hR
              obtain ⟨hk0, hk1⟩ := hk
              have f5 := hq.cell c5; have f6 := hq.cell c6
              go_simp
              exact hR _ _ (Ext.refl _) rfl
            · intro xs wq hq hk R hR
              have f5 := hq.cell c5; have f6 := hq.cell c6
              go_simp
              exact hR _ _ (Ext.refl _) rfl
            · intro xs wq hq hk R hR
              have f5 := hq.cell c5; have f6 := hq.cell c6
              go_simp
              exact hR _ _ (Ext.refl _) rfl
            · intro xs wq hq hk R hR
              have f5 := hq.cell c5; have f6 := hq.cell c6
              go_simp
              exact hR _ _ (Ext.refl _) rfl
            · intro xs wq hq hk R hR
              have f5 := hq.cell c5; have f6 := hq.cell c6
              go_simp
              exact hR _ _ (Ext.refl _) rfl
            · intro xs wq hq hk R hR
              obtain ⟨hk0, hk1⟩ := hk
              have f5 := hq.cell c5; have f6 := hq.cell c6
              go_simp
              exact hR _ _ (Ext.refl _) rfl
            · intro xs wq hq hk R hR
              have f5 := hq.cell c5; have f6 := hq.cell c6
              go_simp
              exact hR _ _ (Ext.refl _) rfl
          intro xs w2 hx2 hk
          simp only [heldV, Nat.zero_add, Nat.reduceAdd, and_true] at hk
          obtain ⟨q0, q1, q2, q3, q4, q5, q6, q7, q8, q9, q10, q11, q12, q13, q14, q15, q16, q17⟩ := hk
          simp (maxSteps := 1000000) only [List.take_succ_cons, List.take_zero, List.drop_succ_cons, List.drop_zero, fillFrom, Act.put, List.setIfInBounds_toArray, List.set_cons_zero, List.set_cons_succ, Nat.zero_add, Nat.reduceAdd, q0, q1, q2, q3, q4, q5, q6, q7, q8, q9, q10, q11, q12, q13, q14, q15, q16, q17]
          clear q0 q1 q2 q3 q4 q5 q6 q7 q8 q9 q10 q11 q12 q13 q14 q15 q16 q17
          have hxr := Ext.trans HX.out hx2
          replace c5 := hx2.cell c5
          replace c6 := hx2.cell c6
          go_wp2
          go_roundw
          case rel => exact ⟨k + 1, n', hxr, by omega, by omega, by go_num, rfl, hnl, by rw [evW_snoc HE.out, HF.out, HN.out], few_snoc HE.out HA.out H40.out⟩
          case measure => simp [intOf]; omega
        · have h4i : (400 : Int) < (E.path.length : Int) := by omega
          have H40 : Hid _ := few_no HE.out h4
          clear h4
          go_wp2_with fail
          apply wp_region_mix 18 [_, _, _, _, _, _, _, _, _, _, _, _, _, _, _, _, _, .int .i64 n'] [none, none, none, none, none, none, none, none, none, none, none, none, none, none, none, none, none, none] [[], [], [], [1, 2], [3], [4], [5], [6], [0, 7], [], [], [9, 10], [11], [12], [13], [14], [8, 15], [16]] (by kernel_rfl) (by kernel_rfl) (by simp [mixV])
          · trivial
          · simp (maxSteps := 1000000) only [List.take_succ_cons, List.take_zero, oblFrom, stepObl, fillFrom, Act.put, List.setIfInBounds_toArray, List.set_cons_zero, List.set_cons_succ, knows, getV, mixV, List.getD_cons_zero, List.getD_cons_succ, and_true, true_and, forall_const]
            refine ⟨?_, ?_, ?_, ?_, ?_, ?_, ?_, ?_, ?_, ?_, ?_, ?_, ?_, ?_, ?_, ?_, ?_, ?_⟩
            · intro xs wq hq R hR
              have f5 := hq.cell c5; have f6 := hq.cell c6
              go_simp
              exact hR _ _ (Ext.refl _) rfl
            · intro xs wq hq R hR
              have f5 := hq.cell c5; have f6 := hq.cell c6
              go_simp
              exact hR _ _ (Ext.refl _) rfl
            · intro xs wq hq R hR
              have f5 := hq.cell c5; have f6 := hq.cell c6
              go_simp
              exact hR _ _ (Ext.refl _) rfl
            · intro xs wq hq hk R hR
              obtain ⟨hk0, hk1⟩ := hk
              have f5 := hq.cell c5; have f6 := hq.cell c6
              go_simp
              exact hR _ _ (Ext.refl _) rfl
            · intro xs wq hq hk R hR
              have f5 := hq.cell c5; have f6 := hq.cell c6
              go_simp
              exact hR _ _ (Ext.refl _) rfl
            · intro xs wq hq hk R hR
              have f5 := hq.cell c5; have f6 := hq.cell c6
              go_simp
              exact hR _ _ (Ext.refl _) rfl
            · intro xs wq hq hk R hR
              have f5 := hq.cell c5; have f6 := hq.cell c6
              go_simp
              exact hR _ _ (Ext.refl _) rfl
            · intro xs wq hq hk R hR
              have f5 := hq.cell c5; have f6 := hq.cell c6
              go_simp
              exact hR _ _ (Ext.refl _) rfl
            · intro xs wq hq hk R hR
              obtain ⟨hk0, hk1⟩ := hk
              have f5 := hq.cell c5; have f6 := hq.cell c6
              go_simp
              exact hR _ _ (Ext.refl _) rfl
            · intro xs wq hq R hR
              have f5 := hq.cell c5; have f6 := hq.cell c6
              go_simp
              exact hR _ _ (Ext.refl _) rfl
            · intro xs wq hq R hR
              have f5 := hq.cell c5; have f6 := hq.cell c6
              go_simp
              exact hR _ _ (Ext.refl _) rfl
            · intro xs wq hq hk R hR
              obtain ⟨hk0, hk1⟩ := hk
              have f5 := hq.cell c5; have f6 := hq.cell c6
              go_simp
              exact hR _ _ (Ext.refl _) rfl
            · intro xs wq hq hk R hR
              have f5 := hq.cell c5; have f6 := hq.cell c6
              go_simp
              exact hR _ _ (Ext.refl _) rfl
            · intro xs wq hq hk R hR
              have f5 := hq.cell c5; have f6 := hq.cell c6
              go_simp
              exact hR _ _ (Ext.refl _) rfl
            · intro xs wq hq hk R hR
              have f5 := hq.cell c5; have f6 := hq.cell c6
              go_simp
              exact hR _ _ (Ext.refl _) rfl
            · intro xs wq hq hk R hR
              have f5 := hq.cell c5; have f6 := hq.cell c6
              go_simp
              exact hR _ _ (Ext.refl _) rfl
            · intro xs wq hq hk R hR
              obtain ⟨hk0, hk1⟩ := hk
              have f5 := hq.cell c5; have f6 := hq.cell c6
              go_simp
              exact hR _ _ (Ext.refl _) rfl
            · intro xs wq hq hk R hR
              have f5 := hq.cell c5; have f6 := hq.cell c6
              go_simp
              exact hR _ _ (Ext.refl _) rfl
          intro xs w2 hx2 hk
          simp only [heldV, Nat.zero_add, Nat.reduceAdd, and_true] at hk
          obtain ⟨q0, q1, q2, q3, q4, q5, q6, q7, q8, q9, q10, q11, q12, q13, q14, q15, q16, q17⟩ := hk
          simp (maxSteps := 1000000) only [List.take_succ_cons, List.take_zero, List.drop_succ_cons, List.drop_zero, fillFrom, Act.put, List.setIfInBounds_toArray, List.set_cons_zero, List.set_cons_succ, Nat.zero_add, Nat.reduceAdd, q0, q1, q2, q3, q4, q5, q6, q7, q8, q9, q10, q11, q12, q13, q14, q15, q16, q17]
          clear q0 q1 q2 q3 q4 q5 q6 q7 q8 q9 q10 q11 q12 q13 q14 q15 q16 q17
          have hxr := Ext.trans HX.out hx2
          replace c5 := hx2.cell c5
          replace c6 := hx2.cell c6
          go_wp2
          go_ret
          exact ⟨by rw [H40.out]; rfl, hxr⟩
      · have hkk : k = 60 := by omega
        subst hkk
        have hl60 : ¬ (l.length : Int) ≤ 60 := by omega
        have HB : Hid (fewEv l = false) := by
          unfold Hid fewEv
          rw [decide_eq_false (by omega)]
          rfl
        go_wp2
        go_ret
        exact ⟨by rw [HB.out]; rfl, HX.out⟩
    · have hkk : k = l.length := by omega
      subst hkk
      have hfd := HF.out
      have hal := HA.out
      rw [List.take_length] at hfd hal
      have hl60 : (l.length : Int) ≤ 60 := by omega
      have HB : Hid (fewEv l = decide ((m : Int) ≤ 40000)) := by
        unfold Hid fewEv
        rw [decide_eq_true hk6, hal, hfd]
        simp only [Bool.true_and, decide_eq_decide]
        omega
      clear hfd hal
      go_wp2
      go_ret
      exact ⟨by rw [HB.out]; rfl, HX.out⟩

/-! ### Few -/
def opW (n : Nat) (o : Opn) : Nat := min (n + min o.data.length 40000) 160000
def okOp (o : Opn) : Bool := fewEv o.plan && (decide (o.path.length ≤ 400) && decide (o.dest.length ≤ 400))
def fewOps (l : List Opn) : Bool := decide (l.length ≤ 100) && (l.all okOp && decide (l.foldl opW 0 ≤ 40000))
theorem IsOpn.length {w : World} {cs : List Value} {o : Opn} (h : IsOpn w cs o) : cs.length = 8 ∧ cs.all (·.oneCell') = true := by
  obtain ⟨vd, vp, rfl, h1, h3⟩ := h
  obtain ⟨_, _, rfl, _⟩ := h1.bytes
  obtain ⟨_, ⟨_, _, rfl, _⟩, _⟩ := h3
  exact ⟨rfl, by simp [Value.oneCell']⟩
abbrev IsOps (w : World) (v : Value) (l : List Opn) : Prop := ReadO w (IsOpn w) v l
end Go.Proofs.YtfimfbdlegookaaGreatDoor

/-! marlaw8.few. Conditions: as each theorem states. -/
namespace Go.Proofs.YtfimfbdlegookaaGreatDoor
open Go Go.RowKit
set_option linter.unusedVariables false
set_option linter.unusedSimpArgs false
set_option linter.unusedSectionVars false
variable [Inhabited BaseW]

section
variable {ops : Array Oper} {rest : List Oper} {o : Oper} {a : Act} {Q : Exit → Act → World → Prop} {w : World}
end

theorem IsOpn.ext {w w' : World} {cs : List Value} {o : Opn} (h : IsOpn w cs o) (hx : Ext w w') : IsOpn w' cs o := by
  obtain ⟨vd, vp, rfl, h1, h2⟩ := h
  exact ⟨vd, vp, rfl, h1, h2.dExt hx⟩
theorem IsOps.ext {w w' : World} {v : Value} {l : List Opn} (h : IsOps w v l) (hx : Ext w w') : IsOps w' v l :=
  (h.stay hx.size (fun hn k hk => hx.block k (h.lt hn k hk))).mono (fun c x hc => hc.ext hx)

/-- marlaw8's operations. -/
structure Rop where
  kind : Int
  name : B8
  old : B8
  next : B8
  f : Opn
def IsRop (w : World) (cs : List Value) (o : Rop) : Prop := ∃ fs, cs = .int .i64 o.kind :: S8 o.name :: S8 o.old :: S8 o.next :: fs ∧ IsOpn w fs o.f
theorem IsRop.length {w : World} {cs : List Value} {o : Rop} (h : IsRop w cs o) : cs.length = 12 := by
  obtain ⟨fs, rfl, h⟩ := h
  simp [(h.length).1]
abbrev IsRops (w : World) (v : Value) (l : List Rop) : Prop := ReadO w (IsRop w) v l
def okN (o : Rop) : Bool := decide (o.name.length ≤ 400) && (decide (o.old.length ≤ 400) && decide (o.next.length ≤ 400))
def fewR (l : List Rop) : Bool := (l.take 60).all okN && (decide (l.length ≤ 60) && fewOps (l.map Rop.f))
theorem take_snocN {α : Type} {l : List α} {k : Nat} {e : α} (h : l[k]? = some e) : l.take (k + 1) = l.take k ++ [e] := by rw [List.take_add_one, h]; rfl

end Go.Proofs.YtfimfbdlegookaaGreatDoor
