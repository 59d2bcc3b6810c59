/- scan: Scan. Conditions: as each theorem states. -/
import Derived.Test.YtalpfoomkhhgnaaGreatDoorZag
import Derived.Test.YtalpfoomkhhgnaaGreatDoorZaf
import Derived.Deep.DeepCutAuto
import Derived.Lib.AppendStr
import Derived.Test.YtalpfoomkhhgnaaGreatDoorZae
import Derived.Test.YtalpfoomkhhgnaaGreatDoorZad
import Derived.Test.YtalpfoomkhhgnaaGreatDoorZab
import Derived.Test.YtalpfoomkhhgnaaGreatDoorZaa

set_option linter.unusedVariables false
set_option linter.unusedSimpArgs false
set_option linter.unusedSectionVars false

/-! marref5.FS: Crash. Conditions: at most 8000000 ticks. -/
namespace Go.Proofs.YtalpfoomkhhgnaaGreatDoor
open Go Go.RowKit
variable [Inhabited BaseW]

theorem NewOr.inn {O : Nat → Prop} {w w' : World} {v v' : Value} (h : NewOr w v v') (hi : Inn O v) (hl : ∀ k, v'.ownBlock = some k → k < w'.heap.size) : Inn (Nw O w w') v' := fun k hk => (h k hk).imp (hi k) (fun h1 => ⟨h1, hl k hk⟩)
end Go.Proofs.YtalpfoomkhhgnaaGreatDoor

/-! marref5.FS: UserWrite, UserRemove. Conditions: at most 7000000 ticks; short paths. -/
namespace Go.Proofs.YtalpfoomkhhgnaaGreatDoor
open Go Go.RowKit
variable [Inhabited BaseW]

section
variable {ops : Array Oper} {rest : List Oper} {o : Oper} {a : Act} {Q : Exit → Act → World → Prop} {w : World}
end

end Go.Proofs.YtalpfoomkhhgnaaGreatDoor

/-! marref5.FS: begin: a call begins. Conditions: at most 6000000 ticks; a plan that is few. -/
namespace Go.Proofs.YtalpfoomkhhgnaaGreatDoor
open Go Go.RowKit
variable [Inhabited BaseW]

end Go.Proofs.YtalpfoomkhhgnaaGreatDoor

/-! marref5.FS: Create, Write, Remove, Sync. Conditions: what holds of a file system at all times; short paths. -/
namespace Go.Proofs.YtalpfoomkhhgnaaGreatDoor
open Go Go.RowKit
variable [Inhabited BaseW]

end Go.Proofs.YtalpfoomkhhgnaaGreatDoor

/-! marref5.FS: move, Move, MoveNew. Conditions: what holds of a file system at all times; short paths. -/
namespace Go.Proofs.YtalpfoomkhhgnaaGreatDoor
open Go Go.RowKit
variable [Inhabited BaseW]

end Go.Proofs.YtalpfoomkhhgnaaGreatDoor

/-! marref5.FS: Peek, Paths, Read, List. Conditions: what holds of a file system at all times; short paths. -/
namespace Go.Proofs.YtalpfoomkhhgnaaGreatDoor
open Go Go.RowKit
variable [Inhabited BaseW]

end Go.Proofs.YtalpfoomkhhgnaaGreatDoor

/-! marref5.FS: List, New, Plan, User, and what each tells of itself. Conditions: what holds of a file system at all times; short paths. -/
namespace Go.Proofs.YtalpfoomkhhgnaaGreatDoor
open Go Go.RowKit
variable [Inhabited BaseW]

def inDir (dir q : B8) : Bool := dir == [] || isUnder dir q
end Go.Proofs.YtalpfoomkhhgnaaGreatDoor

/-! marref5.FS: New, Plan, User, and what each tells of itself. Conditions: what holds of a file system at all times. -/
namespace Go.Proofs.YtalpfoomkhhgnaaGreatDoor
open Go Go.RowKit
variable [Inhabited BaseW]

section
variable {O R : Nat → Prop} {w : World} {p : Value} {m : Fs}
end

end Go.Proofs.YtalpfoomkhhgnaaGreatDoor

/-! marref5.FS: User. Conditions: at most 10000000 events. -/
namespace Go.Proofs.YtalpfoomkhhgnaaGreatDoor
open Go Go.RowKit
variable [Inhabited BaseW]

section
variable {ops : Array Oper} {rest : List Oper} {o : Oper} {a : Act} {Q : Exit → Act → World → Prop} {w : World}
end

end Go.Proofs.YtalpfoomkhhgnaaGreatDoor

/-! marref: Bytes, Texts, Has; marlaw5: flag, file. Conditions: at most 10000000 texts. -/
namespace Go.Proofs.YtalpfoomkhhgnaaGreatDoor
open Go Go.RowKit

def FilePost (f g : Fi) (w : World) (e : Ending) (w' : World) : Prop := (∃ r : Bool, e = .returned (.bool r) ∧ (f = g → r = true)) ∧ Ext w w'
end Go.Proofs.YtalpfoomkhhgnaaGreatDoor

/-! store: Put. Conditions: as each theorem states. -/
namespace Go.Proofs.YtalpfoomkhhgnaaGreatDoor
open Go Go.RowKit
set_option linter.unusedVariables false
set_option linter.unusedSimpArgs false
set_option linter.unusedSectionVars false

/-- How many reads a Put has made when it hands back. -/
def cntP (n : Int) (b : B8) : Int := if 20000 < b.length then n else n + 1
theorem old_out {O : Nat → Prop} {w0 w : World} {v : Value} {l : B8} (h : IsBytes w0 v l) (hO : ∀ k, O k → w0.heap.size ≤ k) : Out O w v := by
  obtain ⟨a, cap, rfl, h1, h2, h3, h4⟩ := h
  intro a' n c he hn
  cases he
  refine .inl fun ho => ?_
  cases hl : l with
  | nil => rw [hl] at hn; exact hn rfl
  | cons x r =>
    obtain ⟨b, o, e, hc⟩ := h4 (by rw [hl]; simp)
    cases e
    have := World.block_lt_of_cell? _ _ (hc 0 (.int .u8 x.toNat) (by rw [hl]; rfl))
    have h9 := hO _ ho
    simp only at this h9
    omega
/-- Bytes that a call is handed: old ones, or typed ones. -/
def Arg (w0 w : World) (v : Value) (b : B8) : Prop := IsBytes w0 v b ∨ IsBytes w v b ∧ TypB w v
theorem Arg.keep {w0 w w' : World} {v : Value} {b : B8} (h : Arg w0 w v b) (hk : KeepB w w') : Arg w0 w' v b := by
  rcases h with h | ⟨h1, h2⟩
  · exact .inl h
  · exact .inr ⟨Row.keepB h1 h2 hk, h2.keep hk⟩
theorem Arg.bytes {w0 w : World} {v : Value} {b : B8} (h : Arg w0 w v b) (hx : Ext w0 w) : IsBytes w v b := by
  rcases h with h | h
  · exact IsBytes.ext h hx
  · exact h.1
theorem Arg.out {O : Nat → Prop} {w0 w : World} {v : Value} {b : B8} (h : Arg w0 w v b) (hO : ∀ k, O k → w0.heap.size ≤ k) : Out O w v := by
  rcases h with h | h
  · exact old_out h hO
  · exact fun a n c he _ => .inr (h.2 a n c he)
variable [Inhabited BaseW] [KW : Inhabited KeptW]
end Go.Proofs.YtalpfoomkhhgnaaGreatDoor

/-! store: List. Conditions: as each theorem states. -/
namespace Go.Proofs.YtalpfoomkhhgnaaGreatDoor
open Go Go.RowKit
set_option linter.unusedVariables false
set_option linter.unusedSimpArgs false
set_option linter.unusedSectionVars false

def dirO : B8 := [115, 47, 111]
def dirS : B8 := [115, 47, 111, 47]
def idsL (l : List B8) : List B8 := (l.map fun p => Lib.trimPrefix p dirS).filter validB
def storeListM (m : Fs) : Fs × List B8 × Int := if (listM m dirO).2.2 ≠ 0 then ((listM m dirO).1, [], (listM m dirO).2.2) else ((listM m dirO).1, idsL (listM m dirO).2.1, 0)
variable [Inhabited BaseW] [KW : Inhabited KeptW]
end Go.Proofs.YtalpfoomkhhgnaaGreatDoor

/-! store: what the chapter's examples fix. Conditions: as each theorem states. -/
namespace Go.Proofs.YtalpfoomkhhgnaaGreatDoor
open Go Go.RowKit
set_option linter.unusedVariables false
set_option linter.unusedSimpArgs false
set_option linter.unusedSectionVars false

def xB : B8 := shaM [120]
def sm0 : Fs := newM 1000
def sm1 : Fs := (putO sm0 [120]).1
def sm2 : Fs := (putO sm1 [120]).1
section
variable [Inhabited BaseW] [KW : Inhabited KeptW]
end
end Go.Proofs.YtalpfoomkhhgnaaGreatDoor

/-! A scan: how much a file system has done behind it. Conditions: as each theorem states. -/
namespace Go.Proofs.YtalpfoomkhhgnaaGreatDoor
open Go Go.RowKit

/-- A row more each time that the store is asked. -/
structure ScN (N : Nat) (x : Sc) : Prop where
  rows : x.rows.length ≤ N
  rows2 : x.rows.length ≤ 256
  ix : x.ix.length ≤ N
  n : x.n ≤ N
/-! ### What the chapter's examples fix -/
def qs0 : Fs := newM 10000
def qs1 : Fs := (putObjM qs0 (blobO [113])).1
def qs2 : Fs := (userWrite qs1 [119, 47, 97] 1 [113]).1
def qa : Sc × Int := scanGo qs2 [] 0 []
def qb : Sc × Int := scanGo qa.1.m qa.1.ix qa.1.m.time []
def qs5 : Fs := (userWrite qb.1.m [118] 1 []).1
def qc : Sc × Int := scanGo qs5 qb.1.ix qb.1.m.time []
def qd : Sc × Int := scanGo qc.1.m qc.1.ix qc.1.m.time []
/-! ### How many files of users there are -/
def WN (k : Nat) (m : Fs) : Prop := ((pathsL m.now).filter (isUnder wP)).length ≤ k
theorem WN.goes {k : Nat} {m m' : Fs} (h : WN k m) (hg : Goes m m') : WN k m' := by
  unfold WN at h ⊢
  rw [hg.same.2]
  exact h
theorem WN.mono {k n : Nat} {m : Fs} (h : WN k m) (hn : k ≤ n) : WN n m := Nat.le_trans h hn
end Go.Proofs.YtalpfoomkhhgnaaGreatDoor

/-! obj: may rows of a tree be; may an object be. Conditions: as each theorem states. -/
namespace Go.Proofs.YtalpfoomkhhgnaaGreatDoor
open Go Go.RowKit Go.Sort
set_option linter.unusedVariables false
set_option linter.unusedSimpArgs false
set_option linter.unusedSectionVars false

/-- What was read so far is fine: rows whose names rise. -/
def itT (l : List Itm) (k : Nat) : Bool := (l.take k).all itemOk && risesB ((l.take k).map (·.name))
def itm0 : Itm := ⟨0, [], []⟩
/-- Rows whose texts are short. -/
def ItSmall (l : List Itm) : Prop := ∀ x ∈ l, x.name.length ≤ 140737488355328 ∧ x.id.length ≤ 140737488355328

end Go.Proofs.YtalpfoomkhhgnaaGreatDoor

/-! obj: may an object be. Conditions: as each theorem states. -/
namespace Go.Proofs.YtalpfoomkhhgnaaGreatDoor
open Go Go.RowKit
set_option linter.unusedVariables false
set_option linter.unusedSimpArgs false
set_option linter.unusedSectionVars false

/-- An object whose texts are short. -/
structure ObSmall (o : Ob) : Prop where
  items : ItSmall o.items
  pars : ∀ s ∈ o.parents, s.length ≤ 140737488355328
  tree : o.tree.length ≤ 10000000
  msg : o.msg.length ≤ 10000000
end Go.Proofs.YtalpfoomkhhgnaaGreatDoor

/-! obj: a number, a hash behind bytes. Conditions: as each theorem states. -/
namespace Go.Proofs.YtalpfoomkhhgnaaGreatDoor
open Go Go.RowKit
set_option linter.unusedVariables false
set_option linter.unusedSimpArgs false
set_option linter.unusedSectionVars false

abbrev U8s (l : B8) : List Value := l.map fun x => .int .u8 x.toNat
/-- Where a slice that grew lies: where it lay, or in a new block. -/
def Near (w : World) (v v' : Value) : Prop := ∀ k, v'.ownBlock = some k → v.ownBlock = some k ∨ w.heap.size ≤ k
theorem Near.of {w : World} {v v' : Value} (h : v'.ownBlock = v.ownBlock ∨ v'.ownBlock = some w.heap.size) : Near w v v' := fun k hk => by
  rcases h with h | h
  · exact .inl (h.symm.trans hk)
  · rw [h] at hk; cases hk; exact .inr (Nat.le_refl _)
abbrev Ow (base : Nat) (w : World) (v : Value) (l : B8) : Prop := w.ownsRow base 5 1 v l.length (U8s l)
section
variable {ops : Array Oper} {rest : List Oper} {o : Oper} {a : Act} {Q : Exit → Act → World → Prop} {w : World}
end
theorem Near.far {w w1 : World} {v v' : Value} (h : Near w1 v v') (hx : w.heap.size ≤ w1.heap.size) : Near w v v' := fun k hk => by
  rcases h k hk with h | h
  · exact .inl h
  · exact .inr (Nat.le_trans hx h)

end Go.Proofs.YtalpfoomkhhgnaaGreatDoor

/-! A slice of bytes of the call's own that grows step by step inside a region that draws its order. Conditions: as each theorem states. -/
namespace Go.Proofs.YtalpfoomkhhgnaaGreatDoor
open Go Go.RowKit
set_option linter.unusedVariables false
set_option linter.unusedSimpArgs false
set_option linter.unusedSectionVars false

/-- What the steps za, zb, zc have made of v0, and the literal zl. -/
structure ChJ (w0 : World) (base : Nat) (v0 : Value) (c : UInt8) (l0 l1 l2 l3 : B8) (zl za zb zc : Option Value) (w : World) : Prop where
  ext : w0.grownBy w v0.ownBlock
  cur : ∃ cv cl, ((za = none ∧ zb = none ∧ zc = none ∧ cv = v0 ∧ cl = l0) ∨ (za = some cv ∧ zb = none ∧ zc = none ∧ cl = l1) ∨ (za ≠ none ∧ zb = some cv ∧ zc = none ∧ cl = l2) ∨ (za ≠ none ∧ zb ≠ none ∧ zc = some cv ∧ cl = l3)) ∧
    Ow base w cv cl ∧ Near w0 v0 cv ∧ ∀ u, zl = some u → ∃ g, u = .slice (some ⟨g, 0, none⟩) 1 1 ∧ w.heap[g]? = some (.cells #[.int .u8 c.toNat] 5 (0, 0)) ∧ cv.ownBlock ≠ some g
section
variable {w0 w w' : World} {base : Nat} {v0 v' : Value} {c : UInt8} {l0 l1 l2 l3 : B8} {zl za zb zc : Option Value}
theorem ChJ.start (h : Ow base w0 v0 l0) (hx : Ext w0 w) : ChJ w0 base v0 c l0 l1 l2 l3 none none none none w :=
  ⟨hx.grown.but _, v0, l0, .inl ⟨rfl, rfl, rfl, rfl, rfl⟩, owns_ext h hx, fun k hk => .inl hk, fun u hu => by cases hu⟩
theorem ChJ.cell {a : Addr} {x : Value} (h : ChJ w0 base v0 c l0 l1 l2 l3 zl za zb zc w) (hne : v0.ownBlock ≠ some a.block) (hc : w0.cell? a = some x) : w.cell? a = some x := by
  rw [World.cell?_of_block (h.ext.block _ (World.block_lt_of_cell? _ _ hc) (fun e => hne e.symm))]
  exact hc
/-- One step on. -/
theorem chJ_step {cv : Value} {g : Nat} (hx : w0.grownBy w v0.ownBlock) (hn0 : Near w0 v0 cv) (hg : w.grownBy w' cv.ownBlock) (hn : Near w cv v') : w0.grownBy w' v0.ownBlock ∧ Near w0 v0 v' ∧ (∀ g o, w.heap[g]? = some o → cv.ownBlock ≠ some g → w'.heap[g]? = some o ∧ v'.ownBlock ≠ some g) := by
  refine ⟨hx.andThen hg (fun j hj => ?_), fun k hk => ?_, fun g o ho hne => ?_⟩
  · rcases hn0 j hj with h | h
    · exact .inr h
    · exact .inl h
  · rcases hn k hk with h | h
    · exact hn0 k h
    · exact .inr (Nat.le_trans hx.size h)
  · have hlt := (Array.getElem?_eq_some_iff.1 ho).1
    refine ⟨(hg.block g hlt (fun e => hne e.symm)).trans ho, fun e => ?_⟩
    rcases hn g e with h | h
    · exact hne h
    · omega
theorem ChJ.setA (h : ChJ w0 base v0 c l0 l1 l2 l3 zl none zb zc w) (ho : Ow base w' v' l1) (hg : w.grownBy w' v0.ownBlock) (hn : Near w v0 v') : ChJ w0 base v0 c l0 l1 l2 l3 zl (some v') zb zc w' := by
  obtain ⟨cv, cl, hs, -, hn0, hl⟩ := h.cur
  rcases hs with ⟨-, h2, h3, rfl, rfl⟩ | ⟨h, -⟩ | ⟨h, -⟩ | ⟨h, -⟩
  · obtain ⟨s1, s2, s3⟩ := chJ_step (g := 0) h.ext hn0 hg hn
    refine ⟨s1, v', l1, .inr (.inl ⟨rfl, h2, h3, rfl⟩), ho, s2, fun u hu => ?_⟩
    obtain ⟨g, e, hr, hne⟩ := hl u hu
    exact ⟨g, e, (s3 g _ hr hne).1, (s3 g _ hr hne).2⟩
  · cases h
  · exact absurd rfl h
  · exact absurd rfl h
theorem ChJ.lit {u : Value} (h : ChJ w0 base v0 c l0 l1 l2 l3 zl za zb zc w) (hk : zl = some u) : IsBytes w u [c] := by
  obtain ⟨cv, cl, -, -, -, hl⟩ := h.cur
  obtain ⟨g, rfl, hr, -⟩ := hl u hk
  exact Row.new hr (by decide) _ rfl
theorem ChJ.size (h : ChJ w0 base v0 c l0 l1 l2 l3 zl za zb zc w) : w0.heap.size ≤ w.heap.size := h.ext.size
end
end Go.Proofs.YtalpfoomkhhgnaaGreatDoor

/-! obj.Encode. Conditions: as each theorem states. -/
namespace Go.Proofs.YtalpfoomkhhgnaaGreatDoor
open Go Go.RowKit
set_option linter.unusedVariables false
set_option linter.unusedSimpArgs false
set_option linter.unusedSectionVars false

end Go.Proofs.YtalpfoomkhhgnaaGreatDoor

/-! store: PutObj, Get, Has, Drop, Clean, Reads. Conditions: as each theorem states. -/
namespace Go.Proofs.YtalpfoomkhhgnaaGreatDoor
open Go Go.RowKit
set_option linter.unusedVariables false
set_option linter.unusedSimpArgs false
set_option linter.unusedSectionVars false

/-- How many reads a PutObj has made when it hands back. -/
def cntO (n : Int) (o : Ob) : Int := if (encodeM o).2 = 0 then cntP n (encodeM o).1 else n
variable [Inhabited BaseW] [KW : Inhabited KeptW]
end Go.Proofs.YtalpfoomkhhgnaaGreatDoor

/-! The store's calls, all blocks apart from the store's own kept. Conditions: as each theorem states. -/
namespace Go.Proofs.YtalpfoomkhhgnaaGreatDoor
open Go Go.RowKit
set_option linter.unusedVariables false
set_option linter.unusedSimpArgs false
set_option linter.unusedSectionVars false

open Classical in
noncomputable abbrev KwOf (w : World) (O : Nat → Prop) (gs gc : Nat) : Inhabited KeptW := ⟨⟨fun k => if ¬ O k ∧ k ≠ gs ∧ k ≠ gc then w.heap[k]? else none, w.heap.size⟩⟩
/-- All blocks apart from the store's own are as they were, and apart still. -/
def FrS (O O' : Nat → Prop) (gs gc : Nat) (w w' : World) : Prop := ∀ k, k < w.heap.size → ¬ O k → k ≠ gs → k ≠ gc → w'.heap[k]? = w.heap[k]? ∧ ¬ O' k
section
variable {w0 w w' : World} {S O O' : Nat → Prop} {f : Value} {gs gc : Nat} {m m' : Fs} {n n' : Int}
theorem FrS.refl (O : Nat → Prop) (gs gc : Nat) (w : World) : FrS O O gs gc w w := fun k _ hO _ _ => ⟨rfl, hO⟩
theorem FrS.trans {O1 O2 O3 : Nat → Prop} {w1 w2 w3 : World} (h : FrS O1 O2 gs gc w1 w2) (g : FrS O2 O3 gs gc w2 w3) : FrS O1 O3 gs gc w1 w3 := fun k hk hO h1 h2 => by
  obtain ⟨a, b⟩ := h k hk hO h1 h2
  have hk2 : k < w2.heap.size := by
    have : w2.heap[k]? = some (w1.heap[k]'hk) := a.trans (Array.getElem?_eq_getElem hk)
    exact (Array.getElem?_eq_some_iff.1 this).1
  obtain ⟨c, d⟩ := g k hk2 b h1 h2
  exact ⟨c.trans a, d⟩
theorem FrS.ext {w1 : World} (h : Ext w w1) : FrS O O gs gc w w1 := fun k hk hO _ _ => ⟨h.block k hk, hO⟩
theorem FrS.row (h : FrS O O' gs gc w w') {k : Nat} {o : Obj} (hk : w.heap[k]? = some o) (hO : ¬ O k) (h1 : k ≠ gs) (h2 : k ≠ gc) : w'.heap[k]? = some o ∧ ¬ O' k := by
  obtain ⟨a, b⟩ := h k (Array.getElem?_eq_some_iff.1 hk).1 hO h1 h2
  exact ⟨a.trans hk, b⟩
end
section
variable [Inhabited BaseW] [KW : Inhabited KeptW] {w0 w w' : World} {S O O' : Nat → Prop} {f : Value} {gs gc : Nat} {m m' : Fs} {n n' : Int}
end

end Go.Proofs.YtalpfoomkhhgnaaGreatDoor

/-! Maps by texts, their elements given by a function: looked up, set. Conditions: keys of at most 1000000 signs. -/
namespace Go.Proofs.YtalpfoomkhhgnaaGreatDoor
open Go Go.RowKit

def enG (V : Fi → Value) (e : B8 × Fi) : Lit × DataW Value := (.string e.1, .held (V e.2))
def datG (V : Fi → Value) (l : Files) : DataW Value := .map (l.map (enG V))
def lookG (V : Fi → Value) (z : Value) (l : Files) (p : B8) : Value := match look l p with
  | some f => V f
  | none => z
section
variable (V : Fi → Value)
theorem filter_enG (p : B8) : ∀ l : Files, (l.map (enG V)).filter (fun q => !q.1.sameKey (.string p)) = (delF l p).map (enG V)
  | [] => rfl
  | e :: l => by
    have ih := filter_enG p l
    unfold delF at ih ⊢
    have hk : (enG V e).1.sameKey (.string p) = (e.1 == p) := rfl
    rw [List.map_cons, List.filter_cons, List.filter_cons, hk]
    split
    · rw [List.map_cons, ih]
    · exact ih
theorem insert_enG (x : B8 × Fi) : ∀ l : Files, DataW.insert (enG V x) (l.map (enG V)) = (insF x l).map (enG V)
  | [] => rfl
  | y :: l => by
    rw [List.map_cons, DataW.insert, insF]
    have hb : (enG V x).1.before (enG V y).1 = ltB x.1 y.1 := before_ltB _ _
    rw [hb]
    split
    · rfl
    · rw [insert_enG x l]; rfl
theorem datG_put (l : Files) (p : B8) (f : Fi) : (datG V l).put (.string p) (.held (V f)) = datG V (putF l p f) := by
  unfold datG DataW.put putF
  simp only
  rw [filter_enG]
  have : (Lit.string p, DataW.held (V f)) = enG V (p, f) := rfl
  rw [this, insert_enG]
theorem find_enG (p : B8) : ∀ l : Files, (l.map (enG V)).find? (fun q => q.1.sameKey (.string p)) = (l.find? fun e => e.1 == p).map (enG V)
  | [] => rfl
  | e :: l => by
    have hk : (enG V e).1.sameKey (.string p) = (e.1 == p) := rfl
    rw [List.map_cons, List.find?_cons, List.find?_cons, hk]
    cases e.1 == p
    · exact find_enG p l
    · rfl
theorem datG_at (l : Files) (p : B8) (z : DataW Value) : (datG V l).atKey (.string p) z = match look l p with | some f => .held (V f) | none => z := by
  unfold datG DataW.atKey look
  simp only
  rw [find_enG]
  cases h : l.find? fun e => e.1 == p with
  | none => rfl
  | some e => rfl
theorem datG_has (l : Files) (p : B8) : Maps.has (datG V l) (.string p) = (look l p).isSome := by
  unfold datG
  rw [Maps.has_eq, Bool.eq_iff_iff, List.any_eq_true]
  unfold look
  constructor
  · rintro ⟨q, hq, hk⟩
    obtain ⟨e, he, rfl⟩ := List.mem_map.1 hq
    have : e.1 == p := hk
    rw [Option.isSome_map, List.find?_isSome]
    exact ⟨e, he, this⟩
  · intro h
    rw [Option.isSome_map, List.find?_isSome] at h
    obtain ⟨e, he, hk⟩ := h
    exact ⟨enG V e, List.mem_map.2 ⟨e, he, rfl⟩, hk⟩
end
structure IsMG (V : Fi → Value) (w : World) (b : Nat) (l : Files) : Prop where
  map : w.ownsMap Tryz.prog 9 elemV b l.length (datG V l)
theorem mg_made (V : Fi → Value) (w : World) : IsMG V (w.alloc (.map #[] 0)) w.heap.size [] := ⟨World.ownsMap_made _ _ _ _⟩
section
variable {V : Fi → Value} {w w' : World} {b : Nat} {l : Files}
theorem IsMG.stay (h : IsMG V w b l) (hb : w'.heap[b]? = w.heap[b]?) : IsMG V w' b l := by
  obtain ⟨es, clock, he, F, hs, hD⟩ := h.map
  exact ⟨es, clock, hb.trans he, F, hs, hD⟩
theorem IsMG.lt (h : IsMG V w b l) : b < w.heap.size := h.map.lt
theorem IsMG.ext (h : IsMG V w b l) (hx : Ext w w') : IsMG V w' b l := h.stay (hx.block _ h.lt)
theorem IsMG.kind (h : IsMG V w b l) : ∃ es clock, w.heap[b]? = some (.map es clock) := by
  obtain ⟨es, clock, he, _⟩ := h.map
  exact ⟨es, clock, he⟩
/-- m[p]. -/
theorem IsMG.look_run (h : IsMG V w b l) (T E : TypeId) (z : Value) (hT : Tryz.prog.underlying T = some (.map 9 E)) (hz : (zeroValue E).run Tryz.prog w = .ok z w) (p : B8) (hp : p.length ≤ 1000000) :
    (Instr.lookup T (.map (some b)) (S8 p) true).run Tryz.prog w = .ok (.tuple #[lookG V z l p, .bool (look l p).isSome]) w ∧ (Instr.lookup T (.map (some b)) (S8 p) false).run Tryz.prog w = .ok (lookG V z l p) w := by
  have h2 := h.map
  obtain ⟨v, ps, h4, h5⟩ := h2.look_ok K_str hT hz rfl (key_str p (by omega))
  obtain ⟨v', ps', h6, h7⟩ := h2.lookup K_str hT hz rfl (key_str p (by omega))
  rw [datG_at] at h5 h7
  rw [datG_has] at h4
  have hz : (match look l p with | some f => DataW.held (V f) | none => DataW.held z) = (DataW.held (lookG V z l p) : DataW Value) := by
    unfold lookG
    cases look l p <;> rfl
  rw [hz] at h5 h7
  have e1 : v = lookG V z l p := DataW.held.inj (congrArg Prod.fst (Option.some.inj h5))
  have e2 : v' = lookG V z l p := DataW.held.inj (congrArg Prod.fst (Option.some.inj h7))
  subst e1
  subst e2
  exact ⟨h4, h6⟩
end
section
variable {ops : Array Oper} {rest : List Oper} {o : Oper} {a : Act} {Q : Exit → Act → World → Prop} {w : World} {V : Fi → Value}
theorem set_mg (T E : TypeId) (hT : Tryz.prog.underlying T = some (.map 9 E)) (hgd : o.guard = none) (m x v : Operand) (hop : o.op = Op.mapUpdate T m x v) {b : Nat} {l : Files} (hf : IsMG V w b l) (hl : l.length ≤ 10000000)
    (hm : a.eval m = .map (some b)) (p : B8) (hp : p.length ≤ 1000000) (hx : a.eval x = S8 p) (f : Fi) (hv : a.eval v = V f)
    (h : ∀ w', IsMG V w' b (putF l p f) → w.grownBy w' (some b) → wpList Tryz.prog ops Q rest (a.put o.dst undef) w') : wpList Tryz.prog ops Q (o :: rest) a w := by
  refine wpList_mapUpdate_own w hgd m x v _ hop _ _ K_str hT elemV b _ _ hm hf.map (by unfold maxLen; omega) (S8 p) (V f) (.string p) hx hv (key_str p (by omega)) (.held (V f)) [] rfl ?_
  intro w' hown hg
  rw [datG_put] at hown
  refine h w' ⟨?_⟩ hg
  obtain ⟨es, clock, hb, F, hs, hD⟩ := hown
  refine ⟨es, clock, hb, F, ?_, hD⟩
  have : Maps.size (datG V (putF l p f)) = es.size := by rw [hD]; simp [Maps.size, length_sorted]
  rw [← this]
  simp [datG, Maps.size]
end

end Go.Proofs.YtalpfoomkhhgnaaGreatDoor

/-! scan: an index in memory; NewIndex, hash. Conditions: as each theorem states. -/
namespace Go.Proofs.YtalpfoomkhhgnaaGreatDoor
open Go Go.RowKit Go.Sort
set_option linter.unusedVariables false
set_option linter.unusedSimpArgs false
set_option linter.unusedSectionVars false

def knV (f : Fi) : Value := .agg #[.int .i64 f.time, S8 f.data]
section
variable {w0 w w' : World} {O O' : Nat → Prop} {gs gc gi gx : Nat} {ix : Files} {wr : Int}
end
/-- All blocks but X are as they were, and apart from the file system still. -/
def FrX (X O O' : Nat → Prop) (w w' : World) : Prop := ∀ k, k < w.heap.size → ¬ O k → ¬ X k → w'.heap[k]? = w.heap[k]? ∧ ¬ O' k
section
variable {X Y O O1 O2 O' : Nat → Prop} {w w1 w2 w' : World} {gs gc : Nat}
theorem FrX.of (h : FrS O O' gs gc w w') (h1 : X gs) (h2 : X gc) : FrX X O O' w w' := fun k hk hO hX => h k hk hO (fun e => hX (e ▸ h1)) (fun e => hX (e ▸ h2))
theorem FrX.ext (h : Ext w w1) : FrX X O O w w1 := fun k hk hO _ => ⟨h.block k hk, hO⟩
theorem FrX.lt (h : FrX X O O' w w') {k : Nat} (hk : k < w.heap.size) (hO : ¬ O k) (hX : ¬ X k) : k < w'.heap.size := by
  have : w'.heap[k]? = some (w.heap[k]'hk) := (h k hk hO hX).1.trans (Array.getElem?_eq_getElem hk)
  exact (Array.getElem?_eq_some_iff.1 this).1
theorem FrX.trans (h : FrX X O O1 w w1) (g : FrX X O1 O2 w1 w2) : FrX X O O2 w w2 := fun k hk hO hX => by
  obtain ⟨a, b⟩ := h k hk hO hX
  obtain ⟨c, d⟩ := g k (h.lt hk hO hX) b hX
  exact ⟨c.trans a, d⟩
theorem FrX.mono (h : FrX X O O' w w') (hXY : ∀ k, X k → Y k) : FrX Y O O' w w' := fun k hk hO hY => h k hk hO (fun hX => hY (hXY k hX))
theorem FrX.but {b : Nat} (h : w.grownBy w' (some b)) (hb : X b) : FrX X O O w w' := fun k hk hO hX => ⟨h.block k hk (fun e => hX (by cases e; exact hb)), hO⟩
theorem FrX.row (h : FrX X O O' w w') {k : Nat} {o : Obj} (hk : w.heap[k]? = some o) (hO : ¬ O k) (hX : ¬ X k) : w'.heap[k]? = some o ∧ ¬ O' k := by
  obtain ⟨a, b⟩ := h k (Array.getElem?_eq_some_iff.1 hk).1 hO hX
  exact ⟨a.trans hk, b⟩
end
def trM (m : Fs) (ix : Files) (wr : Int) (p : B8) (f : Fi) : Fs × Bool := if trustX ix wr p f.time = true then ((getO m (lookD ix p)).1, hasO m (lookD ix p)) else (m, false)
def kn0 : Fi := ⟨0, [], 0⟩
def lookK (ix : Files) (p : B8) : Fi := (look ix p).getD kn0
variable [Inhabited BaseW] [KW : Inhabited KeptW]
end Go.Proofs.YtalpfoomkhhgnaaGreatDoor

/-! names: Pattern, takes, Ignored. Conditions: texts of at most 1000000 signs. -/
namespace Go.Proofs.YtalpfoomkhhgnaaGreatDoor
open Go Go.RowKit
set_option linter.unusedVariables false
set_option linter.unusedSimpArgs false
set_option linter.unusedSectionVars false

def hitF (rest : B8) (dir : Bool) (n : Nat) (x : B8 × Nat) : Bool := takesB rest x.1 && !(dir && decide (x.2 + 1 = n))
end Go.Proofs.YtalpfoomkhhgnaaGreatDoor

/-! scan: Scan. Conditions: as each theorem states. -/
namespace Go.Proofs.YtalpfoomkhhgnaaGreatDoor
open Go Go.RowKit Go.Sort
set_option linter.unusedVariables false
set_option linter.unusedSimpArgs false
set_option linter.unusedSectionVars false

theorem info_rw : (Tryz.prog.info? 30).map (fun i => (i.zero, i.size, i.bytes)) = some (some (.agg #[S8 [], .int .i64 0, S8 []]), 3, 40) := by kernel_rfl
section
variable {ops : Array Oper} {rest : List Oper} {o : Oper} {a : Act} {Q : Exit → Act → World → Prop} {w : World}
/-- append of a row that lies in a block known whole; where the slice then lies. -/
theorem app_rw (hgd : o.guard = none) (s x : Operand) (ho : o.op = .call { callee := .builtin .append, args := #[s, x], argTypes := #[22, 22] })
    (base : Nat) (v : Value) (n : Nat) (xs : List Value) (hs : a.eval s = v) (hown : w.ownsRow base 30 3 v n xs)
    (g c : Nat) (r : Rw) (hx : a.eval x = .slice (some ⟨g, 0, none⟩) 1 c) {fr : Nat × Nat} (hg : w.heap[g]? = some (.cells #[S8 r.path, .int .i64 r.mode, S8 r.id] 30 fr))
    (hb : n ≤ 10000000) (hbase : base ≤ w.heap.size)
    (h : ∀ v' w', w'.ownsRow base 30 3 v' (n + 1) (xs ++ rwC r) → w.grownBy w' v.ownBlock → (∀ k, v'.ownBlock = some k → v.ownBlock = some k ∨ w.heap.size ≤ k) → wpList Tryz.prog ops Q rest (a.put o.dst v') w') : wpList Tryz.prog ops Q (o :: rest) a w := by
  obtain ⟨i0, hi, hz0, hz1, hz2⟩ := info_parts info_rw
  exact wpList_append_own_at w hgd s x _ ho base _ i0 _ 3 40 Tryz.underlying22 hi hz0 hz1 hz2 rfl (by omega) v n xs hs hown ⟨g, 0, none⟩ 1 c (rwC r) hx rfl (by simpa [rwC] using news_of_block hg) (fun u hu => by simp [rwC] at hu; rcases hu with rfl | rfl | rfl <;> rfl) (by unfold maxLen; omega) (by omega) hbase
    (fun v' w' h1 h2 _ h4 => h v' w' h1 h2 (fun k hk => by
      rcases h4 with h4 | h4
      · exact .inl (h4.symm.trans hk)
      · rw [h4] at hk; simp only [Option.some.injEq] at hk; exact .inr (by omega)))
end
theorem row_same {w w' : World} {v : Value} {n : Nat} {cs : List Value} (h : Row w v n cs) (hb : ∀ q, v.ownBlock = some q → w'.heap[q]? = w.heap[q]?) : Row w' v n cs := by
  obtain ⟨a, cap, rfl, h1, h2, h3, h4⟩ := h
  refine ⟨a, cap, rfl, h1, h2, h3, fun hn => ?_⟩
  obtain ⟨b, o, rfl, hc⟩ := h4 hn
  refine ⟨b, o, rfl, fun i u hu => ?_⟩
  have hcu := hc i u hu
  rw [World.cell?_of_block (w := w) (w' := w') (a := ⟨b, o + i, none⟩) (hb b rfl)]
  exact hcu
variable [Inhabited BaseW] [KW : Inhabited KeptW]
end Go.Proofs.YtalpfoomkhhgnaaGreatDoor
