/- Maps of files gone through: copied, dir, Used. Conditions: as each theorem states. -/
import Derived.Test.YtalpfoomkhhgnaaGreatDoorZaa
import Derived.Test.YtalpfoomkhhgnaaGreatDoorShelf
import Derived.WalkSpells
import Derived.WalkLawsBesides
import Derived.Lib.Hide
import Derived.Lib.SmallJoins
import Derived.Deep.QuietTactic
import Derived.BigQuiet
import Derived.Lib.Split
import Derived.Lib.SplitLaws
import Derived.Lib.SlBytesRow
import Derived.Great.BuildSlice
import Derived.Maps.RangeWalk
import Derived.Maps.OwnSet
import Derived.Maps.Ext

set_option linter.unusedVariables false
set_option linter.unusedSimpArgs false

/-! A region that draws its order, some of whose operations do not look at the world at all: these first; then its head by each operation alone; then the rest in the text's order. Conditions: as the theorem states. -/
namespace Go.Proofs.YtalpfoomkhhgnaaGreatDoor
open Go Go.RowKit

section
variable {P : Program} {C : World → Prop} {le : World → World → Prop} {ops : Array Oper}

/-- In this frame the operation yields v, whatever the world. -/
def PureAt (P : Program) (ops : Array Oper) (o : Oper) (v : Value) (a : Act) : Prop :=
  Region.wanted o (yielded ops a.tmps) = true ∧ ∀ w, (execOp a.eval o).run P w = .ok (.value v) w

theorem PureAt.put {o : Oper} {v : Value} {a : Act} (h : PureAt P ops o v a) (hs : ∀ cs b, o.op ≠ .select cs b) (d : Option Tmp) (u : Value) (hd : ∀ t, d = some t → t ∉ o.looksAt ops) : PureAt P ops o v (a.put d u) :=
  ⟨by rw [wanted_put o a d u hd]; exact h.1, by rw [execOp_put o hs a d u hd]; exact h.2⟩

theorem PureAt.defers {o : Oper} {v : Value} {a : Act} (h : PureAt P ops o v a) (ds : List Deferred) : PureAt P ops o v { a with defers := ds } := h

/-! ### What an operation waits for, through others -/
def depsOf (o : Oper) : List Nat := (o.after.toList.filter (Region.binds .any)).map (·.on)
def closF : List Oper → List (List Nat) → List (List Nat)
  | [], acc => acc
  | o :: l, acc => closF l (acc ++ [depsOf o ++ (depsOf o).flatMap fun j => acc.getD j []])

def Closed (ops : Array Oper) (listed : Array Bool) : Prop := ∀ j oj, ops[j]? = some oj → listed.getD j false = true → ∀ d ∈ depsOf oj, listed.getD d false = true

def tailB (ops : Array Oper) (n : Nat) (T : List Nat) : Bool := T.all fun t => decide (n ≤ t) && (List.range n).all fun i => ((closF ops.toList []).getD t []).contains i

/-- The rest comes up one by one. -/
def seqT (ops : Array Oper) : List Nat → Array Bool → Bool
  | [], listed => (Region.ready .any ops listed).isEmpty
  | t :: T, listed => decide (Region.ready .any ops listed = [t]) && seqT ops T (listed.setIfInBounds t true)

def pick (ops : Array Oper) (T : List Nat) : List Oper := T.filterMap fun t => ops[t]?

def startArr (m : Nat) (pre : List Nat) : Array Bool := pre.foldl (fun l i => l.setIfInBounds i true) (Array.replicate m false)

def fullArr (m n : Nat) (pre : List Nat) : Array Bool := ((List.range m).map fun i => decide (i < n) || pre.contains i).toArray

def relP (ops : Array Oper) (n : Nat) (pre T : List Nat) (D : List (List Nat)) : Bool :=
  decide (n ≤ ops.size) && backB ops && depsB ops D && decide (dstsOf (ops.toList.take n)).Nodup &&
  pre.all (fun p => decide (n ≤ p) && decide (p < ops.size)) && T.all (fun t => decide (t < ops.size)) && tailB ops n T && (List.range ops.size).all (fun i => decide (i < n) || (pre.contains i || T.contains i)) &&
  seqT ops T (fullArr ops.size n pre) && (List.range ops.size).all (fun i => (startArr ops.size pre).getD i false == pre.contains i)

structure RInvP (C : World → Prop) (ops : Array Oper) (n : Nat) (pre T : List Nat) (V : List (Value → World → Prop)) (a0 : Act) (listed : Array Bool) (a : Act) (w : World) : Prop where
  size : listed.size = ops.size
  closed : Closed ops listed
  tail : ∀ t ∈ T, listed.getD t true = false
  pre : ∀ p ∈ pre, listed.getD p false = true
  ext : C w
  fill : ∃ xs : Nat → Value, a = fillFrom xs (ops.toList.take n) 0 a0 ∧ ∀ j, j < n → listed.getD j false = true → getV V j (xs j) w

theorem mem_depsOf {o : Oper} {d : Nat} : d ∈ depsOf o ↔ ∃ e ∈ o.after, Region.binds .any e = true ∧ e.on = d := by
  simp only [depsOf, List.mem_map, List.mem_filter]
  constructor
  · rintro ⟨e, ⟨h1, h2⟩, h3⟩; exact ⟨e, by simpa using h1, h2, h3⟩
  · rintro ⟨e, h1, h2, h3⟩; exact ⟨e, ⟨by simpa using h1, h2⟩, h3⟩

theorem Closed.set {listed : Array Bool} (h : Closed ops listed) {i : Nat} (hi : i ∈ Region.ready .any ops listed) : Closed ops (listed.setIfInBounds i true) := by
  obtain ⟨_, oi, hoi, hall⟩ := mem_ready.1 hi
  intro j oj hj hl d hd
  by_cases hij : i = j
  · subst hij
    have : oj = oi := Option.some.inj (hj.symm.trans hoi)
    subst this
    obtain ⟨e, he, hb, rfl⟩ := mem_depsOf.1 hd
    exact getD_set_true (hall e he hb)
  · rw [getD_set_ne false hij] at hl
    exact getD_set_true (h j oj hj hl d hd)

/-- The operations that don't look at the world, with their values, taken first. -/
def preFill (ops : Array Oper) : List (Nat × Value) → Act → Act
  | [], a => a
  | (i, v) :: l, a => preFill ops l (a.put ((ops[i]?).bind (·.dst)) v)
def PureAll (P : Program) (ops : Array Oper) : List (Nat × Value) → Act → Prop
  | [], _ => True
  | (i, v) :: l, a => (∃ o, ops[i]? = some o ∧ PureAt P ops o v a) ∧ PureAll P ops l (a.put ((ops[i]?).bind (·.dst)) v)
def preB (ops : Array Oper) : List Nat → Array Bool → Bool
  | [], _ => true
  | i :: l, listed => (Region.ready .any ops listed).contains i && Region.free .any ops listed i && preB ops l (listed.setIfInBounds i true)

/-- Q, but nothing at a panic. -/
def NoP (Q : Exit → Act → World → Prop) : Exit → Act → World → Prop
  | .panic _, _, _ => False
  | e, a, w => Q e a w
theorem NoP.intro {Q : Exit → Act → World → Prop} {a : Act} {w : World} (h : Q .normal a w) : NoP Q .normal a w := h

end

end Go.Proofs.YtalpfoomkhhgnaaGreatDoor

/-! A region that draws its order, one operation of whose head does not look at the world and need not come ahead of the rest: it is taken first. Conditions: as the theorem states. -/
namespace Go.Proofs.YtalpfoomkhhgnaaGreatDoor
open Go Go.RowKit

section
variable {P : Program} {C : World → Prop} {le : World → World → Prop} {ops : Array Oper} {md : Region.Mode}

def sinkF (md : Region.Mode) (ops : Array Oper) (n f : Nat) : Bool :=
  (List.range n).all fun i => decide (i = f) || (List.range (n + 1)).any fun j => decide (i < j) && Region.waitsFor md ops j i

def relF (ops : Array Oper) (n f : Nat) (D : List (List Nat)) : Bool :=
  decide (n ≤ ops.size) && backB ops && depsB ops D && decide (dstsOf (ops.toList.take n)).Nodup &&
  (decide (n < ops.size) && sinkF .any ops n f && Region.chainB .any ops n) &&
  Region.seqB .any ops (ops.size - n) n (headArr ops.size n)

end

end Go.Proofs.YtalpfoomkhhgnaaGreatDoor

/-! What the contracts of this seat speak of: rows of cells, texts, lists of texts; a world in which the library's variables lie. Conditions: as each theorem states. -/
namespace Go.Proofs.YtalpfoomkhhgnaaGreatDoor
open Go Go.RowKit

abbrev B8 := List UInt8
/-- A text as a value. -/
abbrev S8 (l : B8) : Value := .string ⟨l.toArray⟩

theorem ret_b {a b : Bool} (h : a = b) : Ending.returned (.bool a) = .returned (.bool b) := by rw [h]
/-! ### Worlds that go on -/
theorem Ext.refl (w : World) : Ext w w := Below.refl _ _
theorem Ext.drew {a w : World} (h : Ext a w) : Ext a w.drew := Below.drew h
theorem Ext.alloc {a w : World} (h : Ext a w) (o : Obj) : Ext a (w.alloc o) := Below.alloc h h.size o
theorem Ext.grown {w w' : World} (h : Ext w w') : w.grownBy w' none := ⟨h.os, h.tape, h.output, h.size, fun k hk _ => h.block k hk⟩
theorem Ext.cell {w w' : World} (h : Ext w w') {a : Addr} {v : Value} (hc : w.cell? a = some v) : w'.cell? a = some v := cell_later h hc
theorem Ext.of_grow {w : World} (k : Nat) (os : Array Obj) : Ext w (Go.Sort.grow (w.drewN k) os) := by
  refine ⟨rfl, rfl, rfl, by simp [Go.Sort.grow, World.drewN], fun i hi => ?_⟩
  have : i < (w.drewN k).heap.size := hi
  show ((w.drewN k).heap ++ os)[i]? = _
  rw [Array.getElem?_append_left this]
  rfl

theorem alloc_at (w : World) (o : Obj) : (w.alloc o).heap[w.heap.size]? = some o := by
  show (w.heap.push o)[w.heap.size]? = some o
  simp

/-! ### Rows of cells -/
/-- The slice v has n elements, whose cells hold cs. -/
def Row (w : World) (v : Value) (n : Nat) (cs : List Value) : Prop :=
  ∃ a cap, v = .slice a n cap ∧ n ≤ cap ∧ cap ≤ 9223372036854775807 ∧ n ≤ 140737488355328 ∧ (cs ≠ [] → ∃ b o, a = some ⟨b, o, none⟩ ∧ ∀ i u, cs[i]? = some u → w.cell? ⟨b, o + i, none⟩ = some u)

theorem Row.ext {w w' : World} {v : Value} {n : Nat} {cs : List Value} (h : Row w v n cs) (he : Ext w w') : Row w' v n cs := by
  obtain ⟨a, cap, hv, h1, h2, h3, h4⟩ := h
  refine ⟨a, cap, hv, h1, h2, h3, fun hn => ?_⟩
  obtain ⟨b, o, ha, hc⟩ := h4 hn
  exact ⟨b, o, ha, fun i u hu => he.cell (hc i u hu)⟩

theorem Row.nil (w : World) : Row w (.slice none 0 0) 0 [] := ⟨none, 0, rfl, Nat.le_refl _, by omega, by omega, fun h => absurd rfl h⟩

theorem Row.len {w : World} {v : Value} {n : Nat} {cs : List Value} (h : Row w v n cs) : n ≤ 140737488355328 := by
  obtain ⟨_, _, _, _, _, h3, _⟩ := h
  exact h3

theorem Row.of_owns {w : World} {base : Nat} {e : TypeId} {size : Nat} {v : Value} {n : Nat} {xs : List Value} (h : w.ownsRow base e size v n xs) (hn : n ≤ 140737488355328) : Row w v n xs := by
  obtain ⟨hl, ⟨rfl, rfl⟩ | ⟨g, cap, cur, rfl, _, hg, hc, hm, hs, hx⟩⟩ := h
  · have : xs = [] := List.eq_nil_of_length_eq_zero (by simpa using hl)
    subst this
    exact Row.nil w
  · refine ⟨_, cap, rfl, hc, by unfold maxLen at hm; omega, hn, fun _ => ⟨g, 0, rfl, fun i u hu => ?_⟩⟩
    subst hx
    have hi := (List.getElem?_eq_some_iff.1 hu).1
    simp only [List.length_take, Array.length_toList] at hi
    rw [List.getElem?_take_of_lt (by omega)] at hu
    simpa [World.cell?, hg] using hu

theorem owns_ext {w w' : World} {base : Nat} {e : TypeId} {size : Nat} {v : Value} {n : Nat} {xs : List Value} (h : w.ownsRow base e size v n xs) (he : Ext w w') : w'.ownsRow base e size v n xs :=
  h.kept he.grown (by cases hv : v.ownBlock with | none => exact .inl rfl | some g => exact .inr (by simp))

/-- A new block of one row. -/
theorem Row.new {w : World} {n : Nat} {cs : Array Value} {t : TypeId} {fr : Nat × Nat} {g : Nat} (hb : w.heap[g]? = some (.cells cs t fr)) (hn : n ≤ 140737488355328) (l : List Value) (hl : cs.toList = l) : Row w (.slice (some ⟨g, 0, none⟩) n n) n l :=
  ⟨_, n, rfl, Nat.le_refl _, by omega, hn, fun _ => ⟨g, 0, rfl, fun i u hu => by subst hl; simpa [World.cell?, hb] using hu⟩⟩

/-- The slice does not lie in block g; it lies in a block from B on. -/
def Off (g : Nat) (v : Value) : Prop := ∀ a n c, v = .slice (some a) n c → a.block ≠ g
def Fresh (B : Nat) (v : Value) : Prop := ∀ a n c, v = .slice (some a) n c → B ≤ a.block
theorem Fresh.off {B g : Nat} {v : Value} (h : Fresh B v) (hg : g < B) : Off g v := fun a n c e => by have := h a n c e; omega
theorem Fresh.mono {B B' : Nat} {v : Value} (h : Fresh B v) (hg : B' ≤ B) : Fresh B' v := fun a n c e => by have := h a n c e; omega
theorem Fresh.nil (B n c : Nat) : Fresh B (.slice none n c) := fun a n c e => by simp at e
theorem Fresh.at {B g o n c : Nat} (h : B ≤ g) : Fresh B (.slice (some ⟨g, o, none⟩) n c) := fun a n c e => by simp at e; rw [← e.1]; exact h
theorem Fresh.of_owns {w : World} {base : Nat} {e : TypeId} {size : Nat} {v : Value} {n : Nat} {xs : List Value} (h : w.ownsRow base e size v n xs) : Fresh base v := by
  obtain ⟨_, ⟨rfl, _⟩ | ⟨g, cap, cur, rfl, hb, _⟩⟩ := h
  · exact Fresh.nil _ _ _
  · exact Fresh.at hb

theorem Row.but {w w' : World} {v : Value} {n g : Nat} {cs : List Value} (h : Row w v n cs) (hg : w.grownBy w' (some g)) (ho : Off g v) : Row w' v n cs := by
  obtain ⟨a, cap, rfl, h1, h2, h3, h4⟩ := h
  refine ⟨a, cap, rfl, h1, h2, h3, fun hn => ?_⟩
  obtain ⟨b, o, rfl, hc⟩ := h4 hn
  refine ⟨b, o, rfl, fun i u hu => ?_⟩
  have hcu := hc i u hu
  have hb := World.block_lt_of_cell? _ _ hcu
  rw [World.cell?_of_block (w := w) (w' := w') (hg.block b hb (fun e => ho _ _ _ rfl (by simpa using e)))]
  exact hcu

/-- The slice, if it has an address, lies in a block of elements of type e. -/
def Typed (e : TypeId) (w : World) (v : Value) : Prop := ∀ a n c, v = .slice (some a) n c → ∃ cs fr, w.heap[a.block]? = some (.cells cs e fr)
/-- All blocks of elements of type e are as they were. -/
def Keep (e : TypeId) (w w' : World) : Prop := w.heap.size ≤ w'.heap.size ∧ ∀ (k : Nat) cs fr, w.heap[k]? = some (.cells cs e fr) → w'.heap[k]? = some (.cells cs e fr)
theorem Keep.refl (e : TypeId) (w : World) : Keep e w w := ⟨Nat.le_refl _, fun _ _ _ h => h⟩
theorem Keep.trans {e : TypeId} {a b c : World} (h : Keep e a b) (k : Keep e b c) : Keep e a c := ⟨Nat.le_trans h.1 k.1, fun i cs fr hi => k.2 i cs fr (h.2 i cs fr hi)⟩
theorem Keep.of_ext {e : TypeId} {w w' : World} (h : Ext w w') : Keep e w w' := ⟨h.size, fun k cs fr hk => (h.block k (Array.getElem?_eq_some_iff.1 hk).1).trans hk⟩
theorem Keep.of_grown {e t : TypeId} {w w' : World} {g : Nat} {cs : Array Value} {fr : Nat × Nat} (h : w.grownBy w' (some g)) (hb : w.heap[g]? = some (.cells cs t fr)) (hne : t ≠ e) : Keep e w w' :=
  ⟨h.size, fun k cs' fr' hk => (h.block k (Array.getElem?_eq_some_iff.1 hk).1 (by
    rintro heq
    simp at heq
    subst heq
    rw [hb] at hk
    simp at hk
    exact hne hk.2.1)).trans hk⟩
theorem Keep.of_owns {e t : TypeId} {w w' : World} {base size : Nat} {v : Value} {n : Nat} {xs : List Value} (hown : w.ownsRow base t size v n xs) (h : w.grownBy w' v.ownBlock) (hne : t ≠ e) : Keep e w w' := by
  obtain ⟨_, ⟨rfl, _⟩ | ⟨g, cap, cur, rfl, _, hk, _⟩⟩ := hown
  · exact ⟨h.size, fun k cs fr hk => (h.block k (Array.getElem?_eq_some_iff.1 hk).1 (by simp [Value.ownBlock])).trans hk⟩
  · exact Keep.of_grown h hk hne
theorem Typed.keep {e : TypeId} {w w' : World} {v : Value} (h : Typed e w v) (hk : Keep e w w') : Typed e w' v := fun a n c he => by
  obtain ⟨cs, fr, hb⟩ := h a n c he
  exact ⟨cs, fr, hk.2 _ _ _ hb⟩
theorem Typed.nil (e : TypeId) (w : World) (n c : Nat) : Typed e w (.slice none n c) := fun a n c he => by simp at he
theorem Typed.at {e : TypeId} {w : World} {g o n c : Nat} {cs : Array Value} {fr : Nat × Nat} (h : w.heap[g]? = some (.cells cs e fr)) : Typed e w (.slice (some ⟨g, o, none⟩) n c) := fun a n c he => by
  simp at he
  rw [← he.1]
  exact ⟨cs, fr, h⟩
theorem Typed.of_owns {w : World} {base : Nat} {e : TypeId} {size : Nat} {v : Value} {n : Nat} {xs : List Value} (h : w.ownsRow base e size v n xs) : Typed e w v := by
  obtain ⟨_, ⟨rfl, _⟩ | ⟨g, cap, cur, rfl, _, hk, _⟩⟩ := h
  · exact Typed.nil _ _ _ _
  · exact Typed.at hk
theorem Row.keep {e : TypeId} {w w' : World} {v : Value} {n : Nat} {cs : List Value} (h : Row w v n cs) (ht : Typed e w v) (hk : Keep e w w') : Row w' v n cs := by
  obtain ⟨a, cap, rfl, h1, h2, h3, h4⟩ := h
  refine ⟨a, cap, rfl, h1, h2, h3, fun hn => ?_⟩
  obtain ⟨b, o, rfl, hc⟩ := h4 hn
  obtain ⟨xs, fr, hb⟩ := ht _ _ _ rfl
  refine ⟨b, o, rfl, fun i u hu => ?_⟩
  have hcu := hc i u hu
  rw [World.cell?_of_block (w := w) (w' := w') (a := ⟨b, o + i, none⟩) ((hk.2 _ _ _ hb).trans hb.symm)]
  exact hcu

/-! ### Blocks that hold bytes -/
def holdsT (p : Program) (u : TypeId) : Nat → TypeId → Bool
  | 0, _ => false
  | d + 1, e => sameLayout p p.depth e u || (match p.underlying e with
    | some (.struct fs) => fs.any fun f => holdsT p u d f.type
    | some (.array _ e') => holdsT p u d e'
    | _ => false)
def IsU8 (w : World) (k : Nat) : Prop := ∃ cs t fr, w.heap[k]? = some (.cells cs t fr) ∧ holdsT Tryz.prog 5 Tryz.prog.depth t = true
/-- The slice, if it has an address, lies in a block that holds bytes. -/
def TypB (w : World) (v : Value) : Prop := ∀ a n c, v = .slice (some a) n c → IsU8 w a.block
/-- All blocks that hold bytes are as they were. -/
def KeepB (w w' : World) : Prop := w.heap.size ≤ w'.heap.size ∧ ∀ k, IsU8 w k → w'.heap[k]? = w.heap[k]?
theorem IsU8.lt {w : World} {k : Nat} (h : IsU8 w k) : k < w.heap.size := by
  obtain ⟨cs, t, fr, h, -⟩ := h
  exact (Array.getElem?_eq_some_iff.1 h).1
theorem IsU8.same {w w' : World} {k : Nat} (h : IsU8 w k) (e : w'.heap[k]? = w.heap[k]?) : IsU8 w' k := by
  obtain ⟨cs, t, fr, h, hb⟩ := h
  exact ⟨cs, t, fr, e.trans h, hb⟩
theorem byt_u8 : holdsT Tryz.prog 5 Tryz.prog.depth 5 = true := by kernel_rfl
theorem KeepB.trans {a b c : World} (h : KeepB a b) (k : KeepB b c) : KeepB a c := ⟨Nat.le_trans h.1 k.1, fun i hi => (k.2 i (hi.same (h.2 i hi))).trans (h.2 i hi)⟩
theorem KeepB.of_ext {w w' : World} (h : Ext w w') : KeepB w w' := ⟨h.size, fun k hk => h.block k hk.lt⟩
theorem KeepB.of_grown {t : TypeId} {w w' : World} {g : Nat} {cs : Array Value} {fr : Nat × Nat} (h : w.grownBy w' (some g)) (hb : w.heap[g]? = some (.cells cs t fr)) (hne : holdsT Tryz.prog 5 Tryz.prog.depth t = false) : KeepB w w' :=
  ⟨h.size, fun k hk => h.block k hk.lt (by
    rintro heq
    simp only [Option.some.injEq] at heq
    subst heq
    obtain ⟨cs', t', fr', h', hb'⟩ := hk
    rw [hb] at h'
    simp only [Option.some.injEq, Obj.cells.injEq] at h'
    rw [h'.2.1, hb'] at hne
    cases hne)⟩
theorem TypB.keep {w w' : World} {v : Value} (h : TypB w v) (hk : KeepB w w') : TypB w' v := fun a n c he => (h a n c he).same (hk.2 _ (h a n c he))
theorem TypB.nil (w : World) (n c : Nat) : TypB w (.slice none n c) := fun a n c he => by simp at he
theorem TypB.of {w : World} {v : Value} (h : Typed 5 w v) : TypB w v := fun a n c he => by
  obtain ⟨cs, fr, hb⟩ := h a n c he
  exact ⟨cs, _, fr, hb, byt_u8⟩
theorem TypB.at {w : World} {g o n c : Nat} {cs : Array Value} {fr : Nat × Nat} (h : w.heap[g]? = some (.cells cs 5 fr)) : TypB w (.slice (some ⟨g, o, none⟩) n c) := TypB.of (Typed.at h)
theorem TypB.of_owns {w : World} {base : Nat} {size : Nat} {v : Value} {n : Nat} {xs : List Value} (h : w.ownsRow base 5 size v n xs) : TypB w v := TypB.of (Typed.of_owns h)
theorem Row.keepB {w w' : World} {v : Value} {n : Nat} {cs : List Value} (h : Row w v n cs) (ht : TypB w v) (hk : KeepB w w') : Row w' v n cs := by
  obtain ⟨a, cap, rfl, h1, h2, h3, h4⟩ := h
  refine ⟨a, cap, rfl, h1, h2, h3, fun hn => ?_⟩
  obtain ⟨b, o, rfl, hc⟩ := h4 hn
  refine ⟨b, o, rfl, fun i u hu => ?_⟩
  have hcu := hc i u hu
  rw [World.cell?_of_block (w := w) (w' := w') (a := ⟨b, o + i, none⟩) (hk.2 b (ht ⟨b, o, none⟩ _ _ rfl))]
  exact hcu

/-- The slice holds these bytes. -/
def IsBytes (w : World) (v : Value) (l : B8) : Prop := Row w v l.length (l.map fun x => .int .u8 x.toNat)
/-- The slice holds these texts. -/
def IsStrs (w : World) (v : Value) (l : List B8) : Prop := Row w v l.length (l.map S8)
/-- The slice holds these numbers. -/
def IsInts (w : World) (v : Value) (l : List Int) : Prop := Row w v l.length (l.map fun x => .int .i64 x)

theorem IsBytes.ext {w w' : World} {v : Value} {l : B8} (h : IsBytes w v l) (he : Ext w w') : IsBytes w' v l := Row.ext h he
theorem IsStrs.ext {w w' : World} {v : Value} {l : List B8} (h : IsStrs w v l) (he : Ext w w') : IsStrs w' v l := Row.ext h he
theorem IsInts.ext {w w' : World} {v : Value} {l : List Int} (h : IsInts w v l) (he : Ext w w') : IsInts w' v l := Row.ext h he

theorem IsBytes.nil (w : World) : IsBytes w (.slice none 0 0) [] := Row.nil w
theorem IsStrs.nil (w : World) : IsStrs w (.slice none 0 0) [] := Row.nil w
theorem IsInts.nil (w : World) : IsInts w (.slice none 0 0) [] := Row.nil w

theorem IsStrs.get {w : World} {v : Value} {l : List B8} (h : IsStrs w v l) : ∃ a cap, v = .slice a l.length cap ∧ l.length ≤ cap ∧ l.length ≤ 140737488355328 ∧ cap ≤ 9223372036854775807 ∧
    ∀ k, k < l.length → ∃ b o, a = some ⟨b, o, none⟩ ∧ (∀ i, i < l.length → w.cell? ⟨b, o + i, none⟩ = some (S8 (l.getD i []))) := by
  obtain ⟨a, cap, rfl, h1, h2, h3, h4⟩ := h
  refine ⟨a, cap, rfl, h1, h3, h2, fun k hk => ?_⟩
  obtain ⟨b, o, ha, hc⟩ := h4 (by simp; intro h; subst h; simp at hk)
  exact ⟨b, o, ha, fun i hi => hc i _ (by simp [hi])⟩

theorem IsBytes.get {w : World} {v : Value} {l : B8} (h : IsBytes w v l) : ∃ a cap, v = .slice a l.length cap ∧ l.length ≤ cap ∧ l.length ≤ 140737488355328 ∧ cap ≤ 9223372036854775807 ∧
    ∀ k, k < l.length → ∃ b o, a = some ⟨b, o, none⟩ ∧ (∀ i, i < l.length → w.cell? ⟨b, o + i, none⟩ = some (.int .u8 (l.getD i 0).toNat)) := by
  obtain ⟨a, cap, rfl, h1, h2, h3, h4⟩ := h
  refine ⟨a, cap, rfl, h1, h3, h2, fun k hk => ?_⟩
  obtain ⟨b, o, ha, hc⟩ := h4 (by simp; intro h; subst h; simp at hk)
  exact ⟨b, o, ha, fun i hi => hc i _ (by simp [hi])⟩

theorem IsInts.get {w : World} {v : Value} {l : List Int} (h : IsInts w v l) : ∃ a cap, v = .slice a l.length cap ∧ l.length ≤ cap ∧ l.length ≤ 140737488355328 ∧ cap ≤ 9223372036854775807 ∧
    ∀ k, k < l.length → ∃ b o, a = some ⟨b, o, none⟩ ∧ (∀ i, i < l.length → w.cell? ⟨b, o + i, none⟩ = some (.int .i64 (l.getD i 0))) := by
  obtain ⟨a, cap, rfl, h1, h2, h3, h4⟩ := h
  refine ⟨a, cap, rfl, h1, h3, h2, fun k hk => ?_⟩
  obtain ⟨b, o, ha, hc⟩ := h4 (by simp; intro h; subst h; simp at hk)
  exact ⟨b, o, ha, fun i hi => hc i _ (by simp [hi])⟩

/-! ### The library's variables -/
structure Env (w : World) : Prop where
  maxl : ∃ m, w.cell? ⟨2, 0, none⟩ = some (.int .i64 m)

theorem Env.ext {w w' : World} (h : Env w) (he : Ext w w') : Env w' := by
  obtain ⟨m, hm⟩ := h
  exact ⟨m, he.cell hm⟩

end Go.Proofs.YtalpfoomkhhgnaaGreatDoor

/-! Texts cut at a sign, in plain Lean; the library's Split at one sign. No conditions of its own. -/
namespace Go.Proofs.YtalpfoomkhhgnaaGreatDoor
open Go Go.RowKit

/-- A text cut at every such sign: one piece at least. -/
def cut (c : UInt8) : B8 → List B8
  | [] => [[]]
  | x :: l => if x == c then [] :: cut c l else match cut c l with
    | h :: t => (x :: h) :: t
    | [] => [[x]]

theorem cut_ne (c : UInt8) (l : B8) : cut c l ≠ [] := by
  cases l with
  | nil => simp [cut]
  | cons x l =>
    unfold cut
    split
    · simp
    · split <;> simp

theorem index_one_ne (b c : UInt8) (l : B8) (h : b ≠ c) : Lib.index (b :: l) [c] = if Lib.index l [c] == -1 then -1 else Lib.index l [c] + 1 := by
  have hp : ([c] : B8).isPrefixOf (b :: l) = false := by simp [List.isPrefixOf, Ne.symm h]
  rw [Lib.index, hp]; simp

theorem splitK_cut (c : UInt8) : ∀ l : B8, Lib.splitK [c] 0 (Lib.count l [c]) l = cut c l
  | [] => by rw [Lib.count_miss (by simp [Lib.index])]; rfl
  | x :: l => by
    have ih := splitK_cut c l
    by_cases h : x = c
    · subst h
      have hix : Lib.index (x :: l) [x] = ((0 : Nat) : Int) := by rw [Lib.index]; simp [List.isPrefixOf]
      rw [Lib.count_cons_eq, Nat.add_comm, Lib.splitK, hix]
      simp [cut, ih]
    · rw [Lib.count_cons_ne x c l h]
      unfold cut
      rw [if_neg (by simpa using h), ← ih]
      by_cases hm : Lib.index l [c] = -1
      · rw [Lib.count_miss hm]
        simp [Lib.splitK]
      · have hge := Lib.index_ge l [c]
        obtain ⟨j, hj⟩ : ∃ j : Nat, Lib.index l [c] = j := ⟨(Lib.index l [c]).toNat, by omega⟩
        have hj2 : ¬ (Lib.index l [c] == -1) = true := fun e => by have := beq_iff_eq.1 e; omega
        have hix : Lib.index (x :: l) [c] = ((j + 1 : Nat) : Int) := by rw [index_one_ne x c l h, if_neg hj2, hj]; omega
        have hix2 : ¬ (Lib.index (x :: l) [c] == -1) = true := fun e => by have := beq_iff_eq.1 e; omega
        obtain ⟨n, hn⟩ : ∃ n, Lib.count l [c] = n + 1 := ⟨_, by rw [Lib.count_hit (by simp) hj, Nat.add_comm]⟩
        rw [hn, Lib.splitK, if_neg hix2, Lib.splitK, if_neg hj2, hix, hj]
        simp

theorem cut_total (c : UInt8) : ∀ l : B8, ((cut c l).map List.length).sum + (cut c l).length = l.length + 1
  | [] => by simp [cut]
  | x :: l => by
    have ih := cut_total c l
    unfold cut
    split
    · simp; omega
    · split
      · rename_i h t he
        rw [he] at ih
        simp at ih ⊢; omega
      · rename_i he
        exact absurd he (cut_ne c l)

theorem cut_length (c : UInt8) (l : B8) : 1 ≤ (cut c l).length ∧ (cut c l).length ≤ l.length + 1 := by
  have h1 := cut_total c l
  have h2 : (cut c l).length ≠ 0 := fun h => cut_ne c l (List.eq_nil_of_length_eq_zero h)
  omega

theorem le_sum_of_mem {l : List Nat} {x : Nat} (h : x ∈ l) : x ≤ l.sum := by
  induction l with
  | nil => simp at h
  | cons a l ih =>
    rcases List.mem_cons.1 h with rfl | h
    · simp
    · have := ih h; simp; omega

theorem cut_piece (c : UInt8) (l : B8) {x : B8} (h : x ∈ cut c l) : x.length ≤ l.length := by
  have h1 := cut_total c l
  have h2 := le_sum_of_mem (List.mem_map.2 ⟨x, h, rfl⟩ : x.length ∈ (cut c l).map List.length)
  have h3 := (cut_length c l).1
  omega

/-- strings.Split at one sign. -/
theorem split_any (s : ByteArray) (c : UInt8) (w : World) (hE : Env w) (hs : s.size < 4294967281) :
    Calls Tryz.prog 50 #[.string s, .string ⟨#[c]⟩] w fun e w' => ∃ v, e = .returned v ∧ IsStrs w' v (cut c s.data.toList) ∧ (Typed 9 w' v ∧ ∀ b, v.ownBlock = some b → w.heap.size ≤ b) ∧ Ext w w' := by
  obtain ⟨m, hm⟩ := hE.maxl
  refine (Tryz.strings_Split s ⟨#[c]⟩ m w hs hm (Nat.le_refl 1)).mono ?_
  rintro e w' ⟨rfl, rfl⟩
  have hlen := Lib.splitB_all ⟨#[c]⟩ (Nat.le_refl 1) 0 _ s rfl
  have hdat := Lib.splitB_data ⟨#[c]⟩ 0 (Lib.countB s ⟨#[c]⟩) s
  have hcut : Lib.splitK [c] 0 (Lib.countB s ⟨#[c]⟩) s.data.toList = cut c s.data.toList := splitK_cut c _
  have hsz : s.data.toList.length = s.size := by simp
  have hcl := (cut_length c s.data.toList).2
  have e1 : (Lib.splitB ⟨#[c]⟩ 0 (Lib.countB s ⟨#[c]⟩) s).map (·.data.toList) = cut c s.data.toList := hdat.trans hcut
  have e2 : Lib.countB s ⟨#[c]⟩ + 1 = (cut c s.data.toList).length := by rw [← e1, List.length_map, hlen]
  refine ⟨_, rfl, ?_, ⟨Typed.at (alloc_at _ _), fun b hb => by cases hb; exact Nat.le_refl _⟩, (Ext.refl w).alloc _⟩
  unfold IsStrs
  rw [e2]
  refine Row.new (alloc_at _ _) (by omega) _ ?_
  simp only
  rw [← e1, List.map_map]
  apply List.map_congr_left
  intro x _
  rfl

end Go.Proofs.YtalpfoomkhhgnaaGreatDoor

/-! names.Name, names.Path: what they answer. Conditions: a text of fewer than 2^32 - 15 signs. -/
namespace Go.Proofs.YtalpfoomkhhgnaaGreatDoor
open Go Go.RowKit

def badC (c : UInt8) : Bool := decide (c.toNat < 33) || (decide (126 < c.toNat) || decide (c.toNat = 47))
def nameB (l : B8) : Bool := !(l.any badC) && (!l.isEmpty && (decide (l.length ≤ 64) && (!(l == [46]) && !(l == [46, 46]))))
def pathB (l : B8) : Bool := decide (l.length ≤ 200) && ((cut 47 l).all nameB && decide ((cut 47 l).length ≤ 8))

theorem badC_ok {c : UInt8} (h1 : ¬ (c.toNat : Int) < 33) (h2 : ¬ (126 : Int) < c.toNat) (h3 : ¬ (c.toNat : Int) = 47) : badC c = false := by
  unfold badC; simp only [Bool.or_eq_false_iff, decide_eq_false_iff_not]; omega
theorem badC_no {c : UInt8} (h : (c.toNat : Int) < 33 ∨ (126 : Int) < c.toNat ∨ (c.toNat : Int) = 47) : badC c = true := by
  unfold badC; simp only [Bool.or_eq_true, decide_eq_true_eq]; omega

theorem name_bad {s : ByteArray} {k : Nat} (h : k < s.size) (hb : badC s[k] = true) : nameB s.data.toList = false := by
  have : s.data.toList.any badC = true := List.any_eq_true.2 ⟨s[k], by
    have : s[k] = s.data[k]'h := rfl
    rw [this]; simp, hb⟩
  simp [nameB, this]

theorem take_snoc (s : ByteArray) (k : Nat) (h : k < s.size) : s.data.toList.take (k + 1) = s.data.toList.take k ++ [s[k]] := by
  rw [List.take_succ_eq_append_getElem (by simpa using h)]; rfl

theorem any_snoc {s : ByteArray} {k : Nat} (h : k < s.size) (h0 : (s.data.toList.take k).any badC = false) (h1 : badC s[k] = false) : (s.data.toList.take (k + 1)).any badC = false := by
  rw [take_snoc s k h]; simp only [List.any_append, h0, List.any_cons, h1, List.any_nil, Bool.or_false]

set_option maxHeartbeats 400000 in
theorem name_s (s : ByteArray) (w : World) (hs : s.size ≤ 140737488355328) :
    Calls Tryz.prog 51 #[.string s] w fun e w' => e = .returned (.bool (nameB s.data.toList)) ∧ w' = w := by
  go_enter Tryz.func51, Tryz.ntmps51
  go_wp2
  go_loop [6] (fun i => ∃ k : Nat, k ≤ s.size ∧ i = .int .i64 k ∧ (s.data.toList.take k).any badC = false) (fun i => s.size - (intOf i).toNat)
  case atStart => exact ⟨0, Nat.zero_le _, rfl, rfl⟩
  case round =>
    obtain ⟨k, hk, rfl, hn⟩ := hrel
    have HN : Hid _ := hn
    clear hn
    by_cases hlt : k < s.size
    · by_cases h1 : (s[k].toNat : Int) < 33
      · go_wp2
        go_ret
        exact ⟨ret_b (name_bad hlt (badC_no (by omega))).symm, rfl⟩
      · by_cases h2 : (126 : Int) < s[k].toNat
        · go_wp2
          go_ret
          exact ⟨ret_b (name_bad hlt (badC_no (by omega))).symm, rfl⟩
        · by_cases h3 : (s[k].toNat : Int) = 47
          · have h4 : ((s[k].toNat : Int) == 47) = true := beq_iff_eq.2 h3
            have H3 : Hid _ := h3
            clear h3
            go_wp2
            go_ret
            have h3 := H3.out
            exact ⟨ret_b (name_bad hlt (badC_no (by omega))).symm, rfl⟩
          · have h4 : ((s[k].toNat : Int) == 47) = false := beq_eq_false_iff_ne.2 h3
            have H3 : Hid _ := h3
            clear h3
            go_wp2
            go_round
            case rel =>
              have h3 := H3.out
              exact ⟨k + 1, by omega, by go_num, any_snoc hlt HN.out (badC_ok (by omega) (by omega) h3)⟩
            case measure => simp [intOf]; omega
    · have hkk : k = s.size := by omega
      have hall : s.data.toList.any badC = false := by
        have := HN.out
        rwa [hkk, List.take_of_length_le (by simp)] at this
      have HA : Hid _ := hall
      clear hall HN hkk
      go_wp2
      all_goals
        go_ret
        refine ⟨ret_b ?_, rfl⟩
        have hall := HA.out
        rw [Lib.toList_data] at *
        have hsz : s.data.toList.length = s.size := by simp
        unfold nameB
        rw [hall]
        by_cases h64 : s.size ≤ 64 <;> first | (exfalso; omega) | (simp_all [Bool.and_assoc]; done) | (simp_all; omega)

theorem name_any (l : B8) (w : World) (hs : l.length ≤ 140737488355328) :
    Calls Tryz.prog 51 #[S8 l] w fun e w' => e = .returned (.bool (nameB l)) ∧ w' = w := name_s ⟨l.toArray⟩ w hs

theorem path_all (s : ByteArray) : pathB s.data.toList = (decide (s.size ≤ 200) && ((cut 47 s.data.toList).all nameB && decide ((cut 47 s.data.toList).length ≤ 8))) := by simp [pathB]

theorem getD_mem {l : List B8} {k : Nat} (h : k < l.length) : l.getD k [] ∈ l := by
  simp [h]

theorem all_snoc {l : List B8} {k : Nat} (h : k < l.length) (h0 : (l.take k).all nameB = true) (h1 : nameB (l.getD k []) = true) : (l.take (k + 1)).all nameB = true := by
  rw [List.take_succ_eq_append_getElem h]
  simp only [List.getD_eq_getElem?_getD, h, List.getElem?_eq_getElem, Option.getD_some] at h1
  simp only [List.all_append, h0, List.all_cons, h1, List.all_nil, Bool.and_true]

theorem all_no {l : List B8} {k : Nat} (h : k < l.length) (h1 : nameB (l.getD k []) = false) : l.all nameB = false := by
  rw [List.all_eq_false]
  exact ⟨_, getD_mem h, by rw [h1]; simp⟩

def PathPost (l : B8) (w : World) (e : Ending) (w' : World) : Prop := e = .returned (.bool (pathB l)) ∧ Ext w w'

set_option maxHeartbeats 400000 in
theorem path_any (s : ByteArray) (w : World) (hE : Env w) (hs : s.size < 4294967281) :
    Calls Tryz.prog 19 #[.string s] w (PathPost s.data.toList w) := by
  have hcl := (cut_length 47 s.data.toList).2
  have hsz : s.data.toList.length = s.size := by simp
  have hpc := fun x => @cut_piece 47 s.data.toList x
  rw [hsz] at hcl hpc
  by_cases h2 : (200 : Int) < (s.size : Int)
  · go_enter Tryz.func19, Tryz.ntmps19
    clear hcl hpc hsz
    go_wp2
    go_ret
    exact ⟨ret_b (by rw [path_all]; simp; omega), Ext.refl _⟩
  have H := path_all s
  have Hp : Hid _ := hpc
  have HH : Hid _ := H
  clear H hsz hpc
  go_enter Tryz.func19, Tryz.ntmps19
  go_wp2_with fail
  refine (split_any s 47 _ hE hs).mono ?_
  rintro e w1 ⟨v, rfl, hv, -, hx⟩
  obtain ⟨a, cap, rfl, h3, h4, h5, h6⟩ := hv.get
  generalize hL : cut 47 s.data.toList = L at *
  clear hv hL
  have H6 : Hid _ := h6
  have HE : Hid (Env w1) := hE.ext hx
  clear h6
  go_wp2_with fail
  go_loop [13] (fun i => ∃ k : Nat, k ≤ L.length ∧ i = .int .i64 k ∧ (L.take k).all nameB = true) (fun i => L.length - (intOf i).toNat)
  case atStart => exact ⟨0, Nat.zero_le _, rfl, rfl⟩
  case round =>
    obtain ⟨k, hk, rfl, hn⟩ := hrel
    have HN : Hid _ := hn
    clear hn
    by_cases hlt : k < L.length
    · obtain ⟨b, o, rfl, hc⟩ := H6.out k hlt
      have hck := hc k hlt
      clear hc
      have hm := Hp.out _ (getD_mem hlt)
      obtain ⟨x, hxx⟩ : ∃ x, x = L.getD k [] := ⟨_, rfl⟩
      rw [← hxx] at hm hck
      have HX : Hid _ := hxx
      clear hxx
      cases hB : nameB x with
      | true =>
        have HB : Hid _ := hB
        go_wp2_with (go_at_call 51; go_must (refine (name_any _ _ ?_).mono ?_; omega; rintro e w' ⟨rfl, rfl⟩))
        go_round
        case rel => exact ⟨k + 1, by omega, by go_num, all_snoc hlt HN.out (by rw [← HX.out]; exact HB.out)⟩
        case measure => simp [intOf]; omega
      | false =>
        have HB : Hid _ := hB
        go_wp2_with (go_at_call 51; go_must (refine (name_any _ _ ?_).mono ?_; omega; rintro e w' ⟨rfl, rfl⟩))
        go_ret
        exact ⟨ret_b (by rw [HH.out, all_no hlt (by rw [← HX.out]; exact HB.out)]; simp), hx⟩
    · go_wp2_with fail
      go_ret
      refine ⟨ret_b ?_, hx⟩
      have := HN.out
      rw [List.take_of_length_le (by omega)] at this
      rw [HH.out, this]
      have h9 : decide (s.size ≤ 200) = true := by rw [decide_eq_true_eq]; omega
      rw [h9, Bool.true_and, Bool.true_and, decide_eq_decide]
      omega

theorem path_l (l : B8) (w : World) (hE : Env w) (hs : l.length < 4294967281) :
    Calls Tryz.prog 19 #[S8 l] w fun e w' => e = .returned (.bool (pathB l)) ∧ Ext w w' := path_any ⟨l.toArray⟩ w hE hs

end Go.Proofs.YtalpfoomkhhgnaaGreatDoor

/-! Appends to slices that the call itself made, by element type; a new block's cells. Conditions: as each theorem states. -/
namespace Go.Proofs.YtalpfoomkhhgnaaGreatDoor
open Go Go.RowKit

theorem news_of_block {w : World} {g : Nat} {cs : Array Value} {t : TypeId} {fr : Nat × Nat} (h : w.heap[g]? = some (.cells cs t fr)) : ∀ j u, cs.toList[j]? = some u → w.cell? ((⟨g, 0, none⟩ : Addr).add j) = some u := by
  intro j u hu
  have hu' : cs[j]? = some u := by simpa using hu
  by_cases hj : j = 0
  · subst hj; simp [World.cell?, h, Addr.add, hu']
  · simp [World.cell?, h, Addr.add, hj, hu']

theorem owns_ext_app {w wr w3 : World} {e : TypeId} {size : Nat} {v : Value} {n : Nat} {xs : List Value} (hx : Ext w wr) (hown : wr.ownsRow w.heap.size e size v n xs) (hg : wr.grownBy w3 v.ownBlock) : Ext w w3 :=
  Below.grown hx hg hx.size (fun k hk => (hown.lt k hk).1)

section
variable {ops : Array Oper} {rest : List Oper} {o : Oper} {a : Act} {Q : Exit → Act → World → Prop} {w : World}

theorem app_any (t e : TypeId) (z : Value) (size bytes : Nat) (ht : Tryz.prog.underlying t = some (.slice e)) (hinfo : (Tryz.prog.info? e).map (fun i => (i.zero, i.size, i.bytes)) = some (some z, size, bytes)) (hzs : z.cells.size = size) (hsz : 0 < size)
    (hgd : o.guard = none) (s x : Operand) (ho : o.op = .call { callee := .builtin .append, args := #[s, x], argTypes := #[t, t] })
    (base : Nat) (v : Value) (n : Nat) (xs : List Value) (hs : a.eval s = v) (hown : w.ownsRow base e size v n xs)
    (ad : Addr) (m c : Nat) (news : List Value) (hx : a.eval x = .slice (some ad) m c) (hl : news.length = m * size) (hnews : ∀ j u, news[j]? = some u → w.cell? (ad.add j) = some u) (h1 : ∀ u ∈ news, u.oneCell' = true)
    (hb : (n + m) * bytes ≤ 140737488355328) (hb2 : n + m ≤ 140737488355328) (hbase : base ≤ w.heap.size)
    (h : ∀ v' w', w'.ownsRow base e size v' (n + m) (xs ++ news) → w.grownBy w' v.ownBlock → (v' = .slice none 0 0 ↔ v = .slice none 0 0 ∧ m = 0) → wpList Tryz.prog ops Q rest (a.put o.dst v') w') : wpList Tryz.prog ops Q (o :: rest) a w := by
  obtain ⟨i0, hi, hz0, hz1, hz2⟩ := info_parts hinfo
  exact wpList_append_own w hgd s x t ho base e i0 z size bytes ht hi hz0 hz1 hz2 hzs hsz v n xs hs hown ad m c news hx hl hnews h1 (by unfold maxLen; omega) hb hbase h
end

theorem info_u8 : (Tryz.prog.info? 5).map (fun i => (i.zero, i.size, i.bytes)) = some (some (.int .u8 0), 1, 1) := by kernel_rfl
theorem info_str : (Tryz.prog.info? 9).map (fun i => (i.zero, i.size, i.bytes)) = some (some (S8 []), 1, 16) := by kernel_rfl
section
variable {ops : Array Oper} {rest : List Oper} {o : Oper} {a : Act} {Q : Exit → Act → World → Prop} {w : World}
/-- append of bytes that lie in a block known whole. -/
theorem app_u8 (hgd : o.guard = none) (s x : Operand) (ho : o.op = .call { callee := .builtin .append, args := #[s, x], argTypes := #[45, 45] })
    (base : Nat) (v : Value) (n : Nat) (l : B8) (hs : a.eval s = v) (hown : w.ownsRow base 5 1 v n (l.map fun x => .int .u8 x.toNat))
    (g m c : Nat) (news : B8) (hx : a.eval x = .slice (some ⟨g, 0, none⟩) m c) (hl : news.length = m) {fr : Nat × Nat} (hg : w.heap[g]? = some (.cells (news.map fun x => Value.int .u8 x.toNat).toArray 5 fr))
    (hb : n + m ≤ 140737488355328) (hbase : base ≤ w.heap.size)
    (h : ∀ v' w', w'.ownsRow base 5 1 v' (n + m) ((l ++ news).map fun x => .int .u8 x.toNat) → w.grownBy w' v.ownBlock → wpList Tryz.prog ops Q rest (a.put o.dst v') w') : wpList Tryz.prog ops Q (o :: rest) a w :=
  app_any _ _ _ 1 1 Tryz.underlying45 info_u8 rfl (by omega) hgd s x ho base v n _ hs hown ⟨g, 0, none⟩ m c _ hx (by simpa using hl) (news_of_block hg) (by intro u hu; obtain ⟨_, _, rfl⟩ := List.mem_map.1 hu; rfl) (by omega) hb hbase
    (fun v' w' h1 h2 _ => h v' w' (by rw [List.map_append]; exact h1) h2)
/-- append of texts. -/
theorem app_str (hgd : o.guard = none) (s x : Operand) (ho : o.op = .call { callee := .builtin .append, args := #[s, x], argTypes := #[33, 33] })
    (base : Nat) (v : Value) (n : Nat) (l : List B8) (hs : a.eval s = v) (hown : w.ownsRow base 9 1 v n (l.map S8))
    (g m c : Nat) (news : List B8) (hx : a.eval x = .slice (some ⟨g, 0, none⟩) m c) (hl : news.length = m) {fr : Nat × Nat} (hg : w.heap[g]? = some (.cells (news.map S8).toArray 9 fr))
    (hb : n + m ≤ 1000000000) (hbase : base ≤ w.heap.size)
    (h : ∀ v' w', w'.ownsRow base 9 1 v' (n + m) ((l ++ news).map S8) → w.grownBy w' v.ownBlock → wpList Tryz.prog ops Q rest (a.put o.dst v') w') : wpList Tryz.prog ops Q (o :: rest) a w :=
  app_any _ _ _ 1 16 Tryz.underlying33 info_str rfl (by omega) hgd s x ho base v n _ hs hown ⟨g, 0, none⟩ m c _ hx (by simpa using hl) (news_of_block hg) (by intro u hu; obtain ⟨_, _, rfl⟩ := List.mem_map.1 hu; rfl) (by omega) (by omega) hbase
    (fun v' w' h1 h2 _ => h v' w' (by rw [List.map_append]; exact h1) h2)
end

/-- string(b). -/
theorem conv_bytes {w : World} {v : Value} {l : B8} (h : IsBytes w v l) : (convert 45 9 v).run Tryz.prog w = .ok (S8 l) w := by
  obtain ⟨a, cap, rfl, h1, h2, h3, h4⟩ := h
  cases l with
  | nil =>
    cases a with
    | none => exact run_convert_bytes_nil w 45 5 Tryz.underlying45 Tryz.underlying5 _ _ 9 Tryz.underlying9
    | some ad =>
      rw [run_convert_bytes_string w 45 9 5 _ _ _ Tryz.underlying45 Tryz.underlying5 Tryz.underlying9, run_bytesToString w ad _ cap [] (by simpa using run_loadCells_list (P := Tryz.prog) w ad [] (by intro j v hj; simp at hj))]
      rfl
  | cons x l =>
    obtain ⟨b, o, rfl, hc⟩ := h4 (by simp)
    exact Lib.run_convert_whole w 45 5 9 Tryz.underlying45 Tryz.underlying5 Tryz.underlying9 b o ⟨(x :: l).toArray⟩ (fun i hi => hc i _ (by
      have hi' : i < (x :: l).length := hi
      rw [List.getElem?_map, List.getElem?_eq_getElem hi']
      rfl)) cap

end Go.Proofs.YtalpfoomkhhgnaaGreatDoor

/-! marref.Split, marref1.Name, marref1.Path: what they answer. Conditions: a text of at most 10000000 signs. -/
namespace Go.Proofs.YtalpfoomkhhgnaaGreatDoor
open Go Go.RowKit

theorem cut_none {c : UInt8} : ∀ {l : B8}, (∀ x ∈ l, x ≠ c) → cut c l = [l]
  | [], _ => rfl
  | x :: l, h => by
    have hx : (x == c) = false := by simpa using h x (by simp)
    unfold cut
    rw [if_neg (by simp [hx]), cut_none (fun y hy => h y (by simp [hy]))]

theorem cut_at {c : UInt8} : ∀ {p q : B8}, (∀ x ∈ p, x ≠ c) → cut c (p ++ c :: q) = p :: cut c q
  | [], q, _ => by simp [cut]
  | x :: p, q, h => by
    have hx : (x == c) = false := by simpa using h x (by simp)
    have ih := cut_at (p := p) (q := q) (fun y hy => h y (by simp [hy]))
    show cut c (x :: (p ++ c :: q)) = _
    rw [cut, if_neg (by simp [hx]), ih]

/-- How far a text is cut: pieces in L, the next one begins at j. -/
def Cutting (c : UInt8) (l : B8) (k j : Nat) (L : List B8) : Prop := j ≤ k ∧ cut c l = L ++ cut c (l.drop j) ∧ ∀ x ∈ (l.drop j).take (k - j), x ≠ c

theorem Cutting.start (c : UInt8) (l : B8) : Cutting c l 0 0 [] := ⟨Nat.le_refl _, rfl, by simp⟩
theorem Cutting.step {c : UInt8} {l : B8} {k j : Nat} {L : List B8} (h : Cutting c l k j L) (hk : k < l.length) (hc : l[k] ≠ c) : Cutting c l (k + 1) j L := by
  obtain ⟨h1, h2, h3⟩ := h
  refine ⟨by omega, h2, fun x hx => ?_⟩
  rw [show k + 1 - j = (k - j) + 1 by omega, List.take_add_one] at hx
  rcases List.mem_append.1 hx with hx | hx
  · exact h3 x hx
  · rw [List.getElem?_drop, show j + (k - j) = k by omega, List.getElem?_eq_getElem hk] at hx
    have : x = l[k] := by simpa using hx
    rw [this]; exact hc
theorem Cutting.piece {c : UInt8} {l : B8} {k j : Nat} {L : List B8} (h : Cutting c l k j L) (hk : k < l.length) (hc : l[k] = c) : Cutting c l (k + 1) (k + 1) (L ++ [(l.drop j).take (k - j)]) := by
  obtain ⟨h1, h2, h3⟩ := h
  refine ⟨Nat.le_refl _, ?_, by simp⟩
  have hs : l.drop j = (l.drop j).take (k - j) ++ c :: l.drop (k + 1) := by
    have e := (List.take_append_drop (k - j) (l.drop j)).symm
    rw [List.drop_drop, show j + (k - j) = k by omega, List.drop_eq_getElem_cons hk, hc] at e
    exact e
  rw [h2, List.append_assoc]
  congr 1
  rw [List.singleton_append, ← cut_at h3]
  exact congrArg (cut c) hs
theorem Cutting.last {c : UInt8} {l : B8} {j : Nat} {L : List B8} (h : Cutting c l l.length j L) : cut c l = L ++ [(l.drop j).take (l.length - j)] := by
  obtain ⟨h1, h2, h3⟩ := h
  have hl : (l.drop j).take (l.length - j) = l.drop j := List.take_of_length_le (by simp)
  rw [hl] at h3 ⊢
  rw [h2, cut_none h3]

theorem extract_list (s : ByteArray) (i j : Nat) (h : i ≤ j) (hj : j ≤ s.size) : s.extract i j = ⟨((s.data.toList.drop i).take (j - i)).toArray⟩ := by
  apply ByteArray.ext
  apply Array.toList_inj.1
  simp [ByteArray.data_extract]

def SplitRel (c : UInt8) (l : B8) (k j : Nat) (L : List B8) : Prop := (k ≤ l.length ∧ Cutting c l k j L) ∨ (k = l.length + 1 ∧ L = cut c l)

end Go.Proofs.YtalpfoomkhhgnaaGreatDoor

/-! Rows stored, loaded, handed back; a store of one cell. Conditions: as each theorem states. -/
namespace Go.Proofs.YtalpfoomkhhgnaaGreatDoor
open Go Go.RowKit

theorem setRow_grown (w : World) (g : Nat) (cs : Array Value) : w.grownBy (w.setRow g cs) (some g) := by
  refine ⟨rfl, rfl, rfl, by simp [World.setRow], fun k hk hn => ?_⟩
  have hne : g ≠ k := fun e => hn (by rw [e])
  simp [World.setRow, Array.getElem?_modify, hne]

theorem setCell_grown (w : World) (g i : Nat) (v : Value) : w.grownBy (w.setCell ⟨g, i, none⟩ v) (some g) := by
  refine ⟨rfl, rfl, rfl, by simp [World.setCell], fun k hk hn => ?_⟩
  exact Below.heap_setCell _ _ _ _ (by rintro rfl; exact hn rfl)

theorem Ext.but {w w1 w2 : World} {g : Nat} (h : Ext w w1) (hg : w1.grownBy w2 (some g)) (hb : w.heap.size ≤ g) : Ext w w2 :=
  Below.grown h hg h.size (fun k hk => by simp at hk; omega)

theorem Ext.setRow {w w1 : World} (h : Ext w w1) (g : Nat) (cs : Array Value) (hb : w.heap.size ≤ g) : Ext w (w1.setRow g cs) := h.but (setRow_grown _ _ _) hb

theorem Ext.row {w w' : World} (h : Ext w w') {g : Nat} {o : Obj} (hg : w.heap[g]? = some o) : w'.heap[g]? = some o :=
  (h.block g (Array.getElem?_eq_some_iff.1 hg).1).trans hg

theorem but_row {w w' : World} {g k : Nat} {o : Obj} (h : w.grownBy w' (some g)) (hk : w.heap[k]? = some o) (hne : k ≠ g) : w'.heap[k]? = some o :=
  (h.block k (Array.getElem?_eq_some_iff.1 hk).1 (by simpa using hne)).trans hk

section
variable {ops : Array Oper} {rest : List Oper} {o : Oper} {a : Act} {Q : Exit → Act → World → Prop} {w : World}
/-- A store of one cell into a block known whole. -/
theorem store_field (hgd : o.guard = none) (ty : TypeId) (x y : Operand) (ho : o.op = .store ty x y) (g j : Nat) (hx : a.eval x = .pointer (some ⟨g, j, none⟩)) (v : Value) (hy : a.eval y = v) (h1 : v.oneCell' = true)
    (t : TypeId) (cur : Array Value) (hg : w.heap[g]? = some (.cells cur t (0, 0))) (hj : j + 1 ≤ cur.size) (hi : (Tryz.prog.info? ty).map (·.size) = some 1) (new : Array Value) (hnew : new = (cur.toList.take j ++ [v] ++ cur.toList.drop (j + 1)).toArray)
    (h : ∀ w', w'.heap[g]? = some (.cells new t (0, 0)) → w.grownBy w' (some g) → wpList Tryz.prog ops Q rest (a.put o.dst undef) w') : wpList Tryz.prog ops Q (o :: rest) a w :=
  wpList_plain hgd fun _ hK => by
    have hs := run_storeCells_at (P := Tryz.prog) g j t [v] 0 cur w hg (by simpa using hj) (fun u hu => by simp at hu; subst hu; exact h1)
    have hc : v.cells = #[v] := by cases v <;> first | rfl | cases h1
    have hr : (storeVar ty ⟨g, j, none⟩ v).run Tryz.prog w = .ok () (w.setRow g new) := by
      cases hq : Tryz.prog.info? ty with
      | none => simp [hq] at hi
      | some i =>
        have hs1 : i.size = 1 := by simpa [hq] using hi
        simp only [Nat.add_zero, List.length_cons, List.length_nil, Nat.zero_add] at hs
        rw [hnew]
        simp [storeVar, sizeOf, typeInfo, hq, hc, hs1, hs]
    unfold Oper.wp execOp
    simp only [ho, hx, hy, Instr.storeAt, Instr.sureAddr, Sem.run_bind, Sem.run_pure, Result.andThen_ok, hr]
    exact hK _ _ (h _ (setRow_heap _ _ _ _ _ _ hg) (setRow_grown _ _ _))
end

end Go.Proofs.YtalpfoomkhhgnaaGreatDoor

/-! A file system that falls, in plain Lean: files by rising paths, changes, events, what each call does. No program in sight. No conditions. -/
namespace Go.Proofs.YtalpfoomkhhgnaaGreatDoor
open Go Go.RowKit

def I64 (n : Int) : Prop := -9223372036854775808 ≤ n ∧ n ≤ 9223372036854775807

structure Ev where
  (t kind mode keep torn : Int)
  (path data : B8)
structure Fi where
  (mode : Int)
  (data : B8)
  (time : Int)
inductive Ch where
  | put (p : B8) (f : Fi)
  | mv (s d : B8)
  | del (p : B8)
abbrev Files := List (B8 × Fi)

def ltB (a b : B8) : Bool := decide (a < b)
def look (l : Files) (p : B8) : Option Fi := (l.find? fun e => e.1 == p).map (·.2)
def delF (l : Files) (p : B8) : Files := l.filter fun e => !(e.1 == p)
def insF (x : B8 × Fi) : Files → Files
  | [] => [x]
  | y :: r => if ltB x.1 y.1 then x :: y :: r else y :: insF x r
def putF (l : Files) (p : B8) (f : Fi) : Files := insF (p, f) (delF l p)
def ap (l : Files) : Ch → Files
  | .put p f => putF l p f
  | .mv s d => match look l s with
    | some x => putF (delF l s) d x
    | none => l
  | .del p => delF l p

/-- Does a path lie under another one, by its signs? -/
def isUnder (d s : B8) : Bool := (d ++ [47]).isPrefixOf s
def mayF (l : Files) (path but : B8) : Bool := !(l.any fun e => !(e.1 == but) && (isUnder e.1 path || isUnder path e.1))
def usedF (l : Files) : Nat := (l.map fun e => e.2.data.length).sum

structure Fs where
  (room : Int)
  (now sure : Files)
  (pend : List Ch)
  (plan : List Ev)
  (calls : Nat)
  (users : List Ev)
  (time : Nat)
  (down : Bool)

def Ch.at (c : Ch) (t : Nat) : Ch := match c with
  | .put p f => .put p { f with time := t }
  | c => c
def does (m : Fs) (c : Ch) : Fs := { m with time := m.time + 1, now := ap m.now (c.at (m.time + 1)), pend := m.pend ++ [c.at (m.time + 1)] }
def wrongE (path : B8) (mode : Int) (data : B8) : Int :=
  if pathB path = false then 6 else if mode < 1 ∨ 3 < mode then 1 else if 20000 < data.length then 3 else 0
def putsM (m : Fs) (path : B8) (mode : Int) (data : B8) (fits : Bool) : Fs × Int :=
  if (look m.now path).isNone ∧ mayF m.now path [] = false then (m, 9) else if fits = false then (m, 10) else (does m (.put path ⟨mode, data, 0⟩), 0)
def oldLen (l : Files) (path : B8) : Nat := match look l path with
  | some f => f.data.length
  | none => 0
def fitsM (m : Fs) (path : B8) (n : Nat) : Bool := decide ((n : Int) ≤ m.room - usedF m.now + oldLen m.now path)
def removesM (m : Fs) (path : B8) : Fs × Int :=
  if pathB path = false then (m, 6) else if (look m.now path).isNone then (m, 7) else (does m (.del path), 0)
def rebootM (m : Fs) : Fs := { m with down := false }
def planM (m : Fs) (l : List Ev) : Fs := { m with plan := l.filter fun e => decide ((m.calls : Int) < e.t) }
def settle (m : Fs) : Fs := { m with sure := m.now, pend := [] }
def userWrite (m : Fs) (path : B8) (mode : Int) (data : B8) : Fs × Int :=
  if m.down then (m, 12) else if wrongE path mode data ≠ 0 then (m, wrongE path mode data)
  else if (putsM m path mode data true).2 ≠ 0 then putsM m path mode data true
  else ({ settle (putsM m path mode data true).1 with users := m.users ++ [⟨m.calls, 4, mode, 0, 0, path, data⟩] }, 0)
def userRemove (m : Fs) (path : B8) : Fs × Int :=
  if m.down then (m, 12) else if (removesM m path).2 ≠ 0 then removesM m path
  else ({ settle (removesM m path).1 with users := m.users ++ [⟨m.calls, 5, 0, 0, 0, path, []⟩] }, 0)

def torn1 (l : Files) (torn : Int) : Option Ch → Files
  | some (.put p f) => if 0 ≤ torn ∧ torn < f.data.length then ap l (.put p { f with data := f.data.take torn.toNat }) else l
  | _ => l
def keepN (m : Fs) (keep : Int) : Nat := min keep.toNat m.pend.length
def fallen (m : Fs) (keep torn : Int) : Files := torn1 ((m.pend.take (keepN m keep)).foldl ap m.sure) torn m.pend[keepN m keep]?
def crash (m : Fs) (keep torn : Int) : Fs :=
  if m.down then m else { m with now := fallen m keep torn, sure := fallen m keep torn, pend := [], down := true }

/-- An event happens: what became of the files; is there no room? is all broken? -/
def happen (n : Nat) (x : Fs × Bool × Bool) (e : Ev) : Fs × Bool × Bool :=
  if e.t ≠ n then x
  else if e.kind = 1 then (crash x.1 e.keep e.torn, x.2)
  else if e.kind = 2 then (x.1, true, x.2.2)
  else if e.kind = 3 then (x.1, x.2.1, true)
  else if e.kind = 4 then ((userWrite x.1 e.path e.mode e.data).1, x.2)
  else if e.kind = 5 then ((userRemove x.1 e.path).1, x.2)
  else x
def callM (m : Fs) : Fs × Bool × Int :=
  let r := m.plan.foldl (happen (m.calls + 1)) ({ m with calls := m.calls + 1 }, false, false)
  (r.1, r.2.1, if r.1.down then 12 else if r.2.2 then 11 else 0)

/-! ### Orders and finds -/
theorem mem_insF {x e : B8 × Fi} : ∀ {l : Files}, e ∈ insF x l ↔ e = x ∨ e ∈ l
  | [] => by simp [insF]
  | y :: r => by
    unfold insF
    split
    · simp
    · simp only [List.mem_cons, mem_insF (l := r)]
      constructor
      · rintro (h | h | h) <;> simp [h]
      · rintro (h | h | h) <;> simp [h]

theorem insF_length (x : B8 × Fi) : ∀ l : Files, (insF x l).length = l.length + 1
  | [] => rfl
  | y :: r => by
    unfold insF
    split
    · rfl
    · simp [insF_length x r]

theorem delF_length (l : Files) (p : B8) : (delF l p).length ≤ l.length := List.length_filter_le _ _
theorem putF_length (l : Files) (p : B8) (f : Fi) : (putF l p f).length ≤ l.length + 1 := by
  unfold putF; rw [insF_length]; have := delF_length l p; omega
theorem ap_length (l : Files) (c : Ch) : (ap l c).length ≤ l.length + 1 := by
  cases c with
  | put p f => exact putF_length l p f
  | mv s d =>
    unfold ap
    simp only
    split
    · rename_i x _
      have h1 := putF_length (delF l s) d x
      have h2 := delF_length l s
      omega
    · omega
  | del p => have := delF_length l p; show (delF l p).length ≤ _; omega

end Go.Proofs.YtalpfoomkhhgnaaGreatDoor

/-! How the program's file system lies in memory: maps of files, changes, events; what an operation leaves as it was. No conditions of its own. -/
namespace Go.Proofs.YtalpfoomkhhgnaaGreatDoor
open Go Go.RowKit

/-! ### What is as it was -/
/-- Blocks outside O, and all bytes, are as they were. -/
structure Fr (O : Nat → Prop) (w w' : World) : Prop where
  os : w'.os = w.os
  tape : w'.tape = w.tape
  output : w'.output = w.output
  size : w.heap.size ≤ w'.heap.size
  block : ∀ k, k < w.heap.size → (¬ O k ∨ IsU8 w k) → w'.heap[k]? = w.heap[k]?
/-- O, and all that is new. -/
def Nw (O : Nat → Prop) (w w' : World) (k : Nat) : Prop := O k ∨ (w.heap.size ≤ k ∧ k < w'.heap.size)

theorem Fr.refl (O : Nat → Prop) (w : World) : Fr O w w := ⟨rfl, rfl, rfl, Nat.le_refl _, fun _ _ _ => rfl⟩
theorem IsU8.fr {O : Nat → Prop} {w w' : World} (h : Fr O w w') {k : Nat} (hk : IsU8 w k) : IsU8 w' k := hk.same (h.block k hk.lt (.inr hk))
theorem Fr.trans {O : Nat → Prop} {a b c : World} (h : Fr O a b) (k : Fr (Nw O a b) b c) : Fr O a c :=
  ⟨k.os.trans h.os, k.tape.trans h.tape, k.output.trans h.output, Nat.le_trans h.size k.size, fun i hi hn => by
    have h1 := h.block i hi hn
    rw [← h1]
    refine k.block i (Nat.lt_of_lt_of_le hi h.size) ?_
    rcases hn with hn | hu
    · exact .inl (fun hw => by rcases hw with hw | hw; exact hn hw; omega)
    · exact .inr (hu.fr h)⟩
theorem Fr.mono {O O' : Nat → Prop} {w w' : World} (h : Fr O w w') (ho : ∀ k, O k → O' k) : Fr O' w w' :=
  ⟨h.os, h.tape, h.output, h.size, fun k hk hn => h.block k hk (hn.imp (fun h1 h2 => h1 (ho k h2)) id)⟩
theorem Fr.of_ext {O : Nat → Prop} {w w' : World} (h : Ext w w') : Fr O w w' := ⟨h.os, h.tape, h.output, h.size, fun k hk _ => h.block k hk⟩
theorem Fr.of_grown {O : Nat → Prop} {w w' : World} {g : Nat} (h : w.grownBy w' (some g)) (hg : O g) (hu : ¬ IsU8 w g) : Fr O w w' :=
  ⟨h.os, h.tape, h.output, h.size, fun k hk hn => h.block k hk (by
    rintro heq
    simp only [Option.some.injEq] at heq
    subst heq
    rcases hn with hn | hn
    · exact hn hg
    · exact hu hn)⟩
theorem Fr.keep {O : Nat → Prop} {w w' : World} (h : Fr O w w') : KeepB w w' := ⟨h.size, fun k hk => h.block k hk.lt (.inr hk)⟩
theorem Fr.row {O : Nat → Prop} {w w' : World} (h : Fr O w w') {k : Nat} {o : Obj} (hk : w.heap[k]? = some o) (ho : ¬ O k) : w'.heap[k]? = some o :=
  (h.block k (Array.getElem?_eq_some_iff.1 hk).1 (.inl ho)).trans hk
theorem Nw.mono {O O' : Nat → Prop} {w w' : World} (h : ∀ k, O k → O' k) {k : Nat} (hk : Nw O w w' k) : Nw O' w w' k := hk.imp (h k) id
theorem Nw.old {O : Nat → Prop} {w w' : World} {k : Nat} (h : O k) : Nw O w w' k := .inl h
theorem Nw.fst {O : Nat → Prop} {a b c : World} (h2 : b.heap.size ≤ c.heap.size) {k : Nat} (hk : Nw O a b k) : Nw O a c k := by
  rcases hk with hk | hk
  · exact .inl hk
  · exact .inr ⟨hk.1, by omega⟩

theorem Ext.of_fr {O : Nat → Prop} {w0 w w' : World} (h0 : Ext w0 w) (h : Fr O w w') (ho : ∀ k, O k → w0.heap.size ≤ k) : Ext w0 w' :=
  ⟨h.os.trans h0.os, h.tape.trans h0.tape, h.output.trans h0.output, Nat.le_trans h0.size h.size, fun k hk => (h.block k (Nat.lt_of_lt_of_le hk h0.size) (.inl (fun hh => by have := ho k hh; omega))).trans (h0.block k hk)⟩

/-! ### Data that is read alone -/
def Inn (R : Nat → Prop) (v : Value) : Prop := ∀ k, v.ownBlock = some k → R k
theorem Inn.mono {R R' : Nat → Prop} {v : Value} (h : Inn R v) (hr : ∀ k, R k → R' k) : Inn R' v := fun k hk => hr k (h k hk)
theorem Inn.nil (R : Nat → Prop) (n c : Nat) : Inn R (.slice none n c) := fun k hk => by simp [Value.ownBlock] at hk

structure IsData (R : Nat → Prop) (w : World) (v : Value) (l : B8) : Prop where
  bytes : IsBytes w v l
  typed : TypB w v
  inn : Inn R v
theorem IsData.mono {R R' : Nat → Prop} {w : World} {v : Value} {l : B8} (h : IsData R w v l) (hr : ∀ k, R k → R' k) : IsData R' w v l := ⟨h.bytes, h.typed, h.inn.mono hr⟩
theorem IsData.keep {R : Nat → Prop} {w w' : World} {v : Value} {l : B8} (h : IsData R w v l) (k : KeepB w w') : IsData R w' v l := ⟨Row.keepB h.bytes h.typed k, h.typed.keep k, h.inn⟩
theorem IsData.nil (R : Nat → Prop) (w : World) : IsData R w (.slice none 0 0) [] := ⟨Row.nil _, TypB.nil _ _ _, Inn.nil _ _ _⟩
/-- What a world leaves as it was where data lies. -/
def KeepR (R : Nat → Prop) (w w' : World) : Prop := w.heap.size ≤ w'.heap.size ∧ ∀ k, R k → IsU8 w k → w'.heap[k]? = w.heap[k]?
theorem KeepR.of_keep {R : Nat → Prop} {w w' : World} (h : KeepB w w') : KeepR R w w' := ⟨h.1, fun k _ hk => h.2 k hk⟩
theorem KeepR.trans {R : Nat → Prop} {a b c : World} (h : KeepR R a b) (k : KeepR R b c) : KeepR R a c := ⟨Nat.le_trans h.1 k.1, fun i hr hi => (k.2 i hr (hi.same (h.2 i hr hi))).trans (h.2 i hr hi)⟩
theorem IsData.keepR {R : Nat → Prop} {w w' : World} {v : Value} {l : B8} (h : IsData R w v l) (hk : KeepR R w w') : IsData R w' v l := by
  obtain ⟨⟨a, cap, rfl, h1, h2, h3, h4⟩, ht, hi⟩ := h
  refine ⟨⟨a, cap, rfl, h1, h2, h3, fun hn => ?_⟩, fun a' n c he => ?_, hi⟩
  · obtain ⟨b, o, rfl, hc⟩ := h4 hn
    refine ⟨b, o, rfl, fun i u hu => ?_⟩
    have hcu := hc i u hu
    rw [World.cell?_of_block (w := w) (w' := w') (a := ⟨b, o + i, none⟩) (hk.2 _ (hi b rfl) (ht ⟨b, o, none⟩ _ _ rfl))]
    exact hcu
  · have hb := ht a' n c he
    simp only [Value.slice.injEq] at he
    obtain ⟨rfl, -⟩ := he
    exact hb.same (hk.2 _ (hi _ rfl) hb)

/-! ### Files -/
/-- How a map's element reads: as the value that it is. -/
def elemV (v : Value) : Option (DataW Value × List MemPlace) := some (.held v, [])
abbrev fiV (f : Fi) (v : Value) : Value := .agg #[.int .i64 f.mode, v, .int .i64 f.time]
def dat (sl : B8 → Value) (l : Files) : DataW Value := .map (l.map fun e => (.string e.1, .held (fiV e.2 (sl e.1))))
def Rising : Files → Prop := List.Pairwise fun a b => ltB a.1 b.1 = true
structure IsFiles (R : Nat → Prop) (w : World) (b : Nat) (l : Files) : Prop where
  rise : Rising l
  short : ∀ e ∈ l, e.1.length ≤ 10000000
  map : ∃ sl : B8 → Value, w.ownsMap Tryz.prog 9 elemV b l.length (dat sl l) ∧ ∀ e ∈ l, IsData R w (sl e.1) e.2.data

theorem IsFiles.mono {R R' : Nat → Prop} {w : World} {b : Nat} {l : Files} (h : IsFiles R w b l) (hr : ∀ k, R k → R' k) : IsFiles R' w b l := by
  obtain ⟨h1, h0, sl, h2, h3⟩ := h
  exact ⟨h1, h0, sl, h2, fun e he => (h3 e he).mono hr⟩
theorem IsFiles.stay {R : Nat → Prop} {w w' : World} {b : Nat} {l : Files} (h : IsFiles R w b l) (hb : w'.heap[b]? = w.heap[b]?) (hk : KeepR R w w') : IsFiles R w' b l := by
  obtain ⟨h1, h0, sl, ⟨es, clock, he, F, hs, hD⟩, h3⟩ := h
  exact ⟨h1, h0, sl, ⟨es, clock, hb.trans he, F, hs, hD⟩, fun e he => (h3 e he).keepR hk⟩
theorem IsFiles.lt {R : Nat → Prop} {w : World} {b : Nat} {l : Files} (h : IsFiles R w b l) : b < w.heap.size := by
  obtain ⟨_, _, sl, h2, _⟩ := h
  exact h2.lt
/-! ### Changes and events -/
def IsCh (R : Nat → Prop) (w : World) (cs : List Value) : Ch → Prop
  | .put p f => p.length ≤ 10000000 ∧ ∃ v, cs = [S8 p, S8 [], .bool true, .int .i64 f.mode, v, .int .i64 f.time] ∧ IsData R w v f.data
  | .mv s d => s.length ≤ 10000000 ∧ d.length ≤ 10000000 ∧ s ≠ [] ∧ cs = [S8 d, S8 s, .bool false, .int .i64 0, .slice none 0 0, .int .i64 0]
  | .del p => p.length ≤ 10000000 ∧ cs = [S8 p, S8 [], .bool false, .int .i64 0, .slice none 0 0, .int .i64 0]
theorem IsCh.mono {R R' : Nat → Prop} {w : World} {cs : List Value} {c : Ch} (h : IsCh R w cs c) (hr : ∀ k, R k → R' k) : IsCh R' w cs c := by
  cases c with
  | put p f =>
    obtain ⟨h1, v, h2, h3⟩ := h
    exact ⟨h1, v, h2, h3.mono hr⟩
  | mv s d => exact h
  | del p => exact h
theorem IsCh.keepR {R : Nat → Prop} {w w' : World} {cs : List Value} {c : Ch} (h : IsCh R w cs c) (hk : KeepR R w w') : IsCh R w' cs c := by
  cases c with
  | put p f =>
    obtain ⟨h1, v, h2, h3⟩ := h
    exact ⟨h1, v, h2, h3.keepR hk⟩
  | mv s d => exact h
  | del p => exact h
theorem IsCh.length {R : Nat → Prop} {w : World} {cs : List Value} {c : Ch} (h : IsCh R w cs c) : cs.length = 6 ∧ cs.all (·.oneCell') = true := by
  cases c with
  | put p f =>
    obtain ⟨_, v, rfl, h3⟩ := h
    obtain ⟨_, _, rfl, _⟩ := h3.bytes
    exact ⟨rfl, by simp [Value.oneCell']⟩
  | mv s d => obtain ⟨_, _, _, rfl⟩ := h; exact ⟨rfl, by simp [Value.oneCell']⟩
  | del p => obtain ⟨_, rfl⟩ := h; exact ⟨rfl, by simp [Value.oneCell']⟩

def IsEvR (R : Nat → Prop) (w : World) (cs : List Value) (e : Ev) : Prop := ∃ vd, cs = [.int .i64 e.t, .int .i64 e.kind, .int .i64 e.mode, .int .i64 e.keep, .int .i64 e.torn, S8 e.path, vd] ∧ IsData R w vd e.data ∧ e.path.length ≤ 10000000
theorem IsEvR.mono {R R' : Nat → Prop} {w : World} {cs : List Value} {e : Ev} (h : IsEvR R w cs e) (hr : ∀ k, R k → R' k) : IsEvR R' w cs e := by
  obtain ⟨v, h1, h2, h3⟩ := h
  exact ⟨v, h1, h2.mono hr, h3⟩
theorem IsEvR.keepR {R : Nat → Prop} {w w' : World} {cs : List Value} {e : Ev} (h : IsEvR R w cs e) (hk : KeepR R w w') : IsEvR R w' cs e := by
  obtain ⟨v, h1, h2, h3⟩ := h
  exact ⟨v, h1, h2.keepR hk, h3⟩
theorem IsEvR.length {R : Nat → Prop} {w : World} {cs : List Value} {e : Ev} (h : IsEvR R w cs e) : cs.length = 7 ∧ cs.all (·.oneCell') = true := by
  obtain ⟨v, rfl, h2, _⟩ := h
  obtain ⟨_, _, rfl, _⟩ := h2.bytes
  exact ⟨rfl, by simp [Value.oneCell']⟩

/-- Each of a list of rows is what it says. -/
def Each {α : Type} (p : List Value → α → Prop) (css : List (List Value)) (xs : List α) : Prop := css.length = xs.length ∧ ∀ (i : Nat) c x, css[i]? = some c → xs[i]? = some x → p c x
theorem Each.nil {α : Type} (p : List Value → α → Prop) : Each p [] [] := ⟨rfl, fun i c x hc => by simp at hc⟩
theorem Each.imp {α : Type} {p q : List Value → α → Prop} {css : List (List Value)} {xs : List α} (h : Each p css xs) (hpq : ∀ c x, p c x → q c x) : Each q css xs := ⟨h.1, fun i c x hc hx => hpq c x (h.2 i c x hc hx)⟩
/-- A slice of the call's own that holds a list of structs. -/
def OwnL {α : Type} (w : World) (t : TypeId) (size : Nat) (p : List Value → α → Prop) (v : Value) (xs : List α) : Prop := ∃ css : List (List Value), w.ownsRow 0 t size v xs.length css.flatten ∧ Each p css xs
/-- A slice that is read alone. -/
def ReadL {α : Type} (w : World) (t : TypeId) (p : List Value → α → Prop) (v : Value) (xs : List α) : Prop := ∃ css : List (List Value), Row w v xs.length css.flatten ∧ Typed t w v ∧ Each p css xs

abbrev fsCells (room : Int) (gm gd : Nat) (vp vl : Value) (calls : Nat) (vu : Value) (time : Nat) (down : Bool) : Array Value := #[.int .i64 room, .map (some gm), .map (some gd), vp, vl, .int .i64 calls, vu, .int .i64 time, .bool down]
theorem ReadL.mono {α : Type} {w : World} {t : TypeId} {p q : List Value → α → Prop} {v : Value} {xs : List α} (h : ReadL w t p v xs) (hpq : ∀ c x, p c x → q c x) : ReadL w t q v xs := by
  obtain ⟨css, h1, h2, h3⟩ := h
  exact ⟨css, h1, h2, h3.imp hpq⟩
theorem OwnL.mono {α : Type} {w : World} {t : TypeId} {size : Nat} {p q : List Value → α → Prop} {v : Value} {xs : List α} (h : OwnL w t size p v xs) (hpq : ∀ c x, p c x → q c x) : OwnL w t size q v xs := by
  obtain ⟨css, h1, h3⟩ := h
  exact ⟨css, h1, h3.imp hpq⟩
theorem OwnL.stay {α : Type} {w w' : World} {t : TypeId} {size : Nat} {p : List Value → α → Prop} {v : Value} {xs : List α} (h : OwnL w t size p v xs) (hb : ∀ k, v.ownBlock = some k → w'.heap[k]? = w.heap[k]?) : OwnL w' t size p v xs := by
  obtain ⟨css, ⟨hl, h1⟩, h3⟩ := h
  refine ⟨css, ⟨hl, h1.imp id ?_⟩, h3⟩
  rintro ⟨g, cap, cur, rfl, h4, h5, h6⟩
  exact ⟨g, cap, cur, rfl, h4, (hb g rfl).trans h5, h6⟩
theorem Row.stay {w w' : World} {v : Value} {n : Nat} {cs : List Value} (h : Row w v n cs) (hb : ∀ k, v.ownBlock = some k → w'.heap[k]? = w.heap[k]?) : Row w' v n cs := by
  obtain ⟨a, cap, rfl, h1, h2, h3, h4⟩ := h
  refine ⟨a, cap, rfl, h1, h2, h3, fun hn => ?_⟩
  obtain ⟨b, o, rfl, hc⟩ := h4 hn
  refine ⟨b, o, rfl, fun i u hu => ?_⟩
  rw [World.cell?_of_block (w := w) (w' := w') (a := ⟨b, o + i, none⟩) (hb b rfl)]
  exact hc i u hu
theorem Typed.stay {e : TypeId} {w w' : World} {v : Value} (h : Typed e w v) (hb : ∀ k, v.ownBlock = some k → w'.heap[k]? = w.heap[k]?) : Typed e w' v := fun a n c he => by
  obtain ⟨cs, fr, hk⟩ := h a n c he
  subst he
  exact ⟨cs, fr, (hb a.block rfl).trans hk⟩
theorem ReadL.stay {α : Type} {w w' : World} {t : TypeId} {p : List Value → α → Prop} {v : Value} {xs : List α} (h : ReadL w t p v xs) (hb : ∀ k, v.ownBlock = some k → w'.heap[k]? = w.heap[k]?) : ReadL w' t p v xs := by
  obtain ⟨css, h1, h2, h3⟩ := h
  exact ⟨css, h1.stay hb, h2.stay hb, h3⟩

theorem Inn.of {O O' : Nat → Prop} {v : Value} (h : Inn O v) (ho : ∀ k, v.ownBlock = some k → O k → O' k) : Inn O' v := fun k hk => ho k hk (h k hk)

theorem OwnL.lt {α : Type} {w : World} {t : TypeId} {size : Nat} {q : List Value → α → Prop} {v : Value} {xs : List α} (h : OwnL w t size q v xs) : ∀ k, v.ownBlock = some k → k < w.heap.size := by
  obtain ⟨css, hw, _⟩ := h
  exact fun k hv => (hw.lt k hv).2
theorem OwnL.typed {α : Type} {w : World} {t : TypeId} {size : Nat} {q : List Value → α → Prop} {v : Value} {xs : List α} (h : OwnL w t size q v xs) : ∀ k, v.ownBlock = some k → ∃ cs fr, w.heap[k]? = some (.cells cs t fr) := by
  obtain ⟨css, ⟨_, h1⟩, _⟩ := h
  intro k hv
  rcases h1 with ⟨rfl, _⟩ | ⟨g, cap, cur, rfl, _, hg, _⟩
  · simp [Value.ownBlock] at hv
  · have : g = k := by simpa [Value.ownBlock] using hv
    subst this
    exact ⟨cur, (0, 0), hg⟩
theorem ReadL.typed {α : Type} {w : World} {t : TypeId} {p : List Value → α → Prop} {v : Value} {xs : List α} (h : ReadL w t p v xs) : ∀ k, v.ownBlock = some k → ∃ cs fr, w.heap[k]? = some (.cells cs t fr) := by
  obtain ⟨css, _, ht, _⟩ := h
  intro k hv
  cases v with
  | slice a n c =>
    cases a with
    | none => simp [Value.ownBlock] at hv
    | some a =>
      have : a.block = k := by simpa [Value.ownBlock] using hv
      subst this
      exact ht a n c rfl
  | _ => simp [Value.ownBlock] at hv
theorem IsFiles.kind {R : Nat → Prop} {w : World} {b : Nat} {l : Files} (h : IsFiles R w b l) : ∃ es clock, w.heap[b]? = some (.map es clock) := by
  obtain ⟨_, _, sl, ⟨es, clock, he, _⟩, _⟩ := h
  exact ⟨es, clock, he⟩

theorem cells_u8 {w : World} {k : Nat} {cs : Array Value} {t : TypeId} {fr : Nat × Nat} (h : w.heap[k]? = some (.cells cs t fr)) (ht : holdsT Tryz.prog 5 Tryz.prog.depth t = false) : ¬ IsU8 w k := by
  rintro ⟨cs', t', fr', h', hb⟩
  rw [h] at h'
  simp only [Option.some.injEq, Obj.cells.injEq] at h'
  rw [h'.2.1, hb] at ht
  cases ht

/-! ### The whole -/
def On (O : Nat → Prop) (n : Nat) (k : Nat) : Prop := O k ∨ n ≤ k
theorem Fr.step {O : Nat → Prop} {w w1 w2 : World} {row : Option Nat} (h : Fr O w w1) (hg : w1.grownBy w2 row) (ho : ∀ k, row = some k → O k ∨ w.heap.size ≤ k) (hu : ∀ k, row = some k → ¬ IsU8 w1 k) : Fr O w w2 :=
  h.trans ⟨hg.os, hg.tape, hg.output, hg.size, fun k hk hn => hg.block k hk (fun heq => by
    rcases hn with hn | hn
    · exact hn ((ho k heq.symm).imp id (fun h => ⟨h, hk⟩))
    · exact hu k heq.symm hn)⟩
theorem Fr.ext {O : Nat → Prop} {w w1 w2 : World} (h : Fr O w w1) (hx : Ext w1 w2) : Fr O w w2 := h.trans (Fr.of_ext hx)

end Go.Proofs.YtalpfoomkhhgnaaGreatDoor

/-! Maps of files: looked up, set, deleted. Conditions: paths of at most 10000000 signs. -/
namespace Go.Proofs.YtalpfoomkhhgnaaGreatDoor
open Go Go.RowKit

theorem before_ltB : ∀ a b : B8, bytesBefore a b = ltB a b
  | [], [] => by simp [bytesBefore, ltB]
  | [], _ :: _ => by simp [bytesBefore, ltB]
  | _ :: _, [] => by simp [bytesBefore, ltB]
  | a :: r, b :: s => by
    rw [bytesBefore, before_ltB r s]
    unfold ltB
    rw [Bool.eq_iff_iff]
    simp [List.cons_lt_cons_iff]

theorem K_str : Maps.Keyed Tryz.prog 9 := Maps.string_keyed Tryz.underlying9
theorem key_str (p : B8) (h : p.length ≤ 10000000) : keyOf Tryz.prog 9 (S8 p) = some (.string p) := by
  have h2 : p.length ≤ maxLen := by unfold maxLen; omega
  simp [keyOf, mapKey, Tryz.underlying9, ByteArray.size, h2]
def en (sl : B8 → Value) (e : B8 × Fi) : Lit × DataW Value := (.string e.1, .held (fiV e.2 (sl e.1)))
def updS (sl : B8 → Value) (p : B8) (v : Value) : B8 → Value := fun q => if q = p then v else sl q

theorem delF_ne (l : Files) (p : B8) : ∀ e ∈ delF l p, e.1 ≠ p := by
  intro e he
  have := (List.mem_filter.1 he).2
  simpa using this

theorem look_mem {l : Files} {p : B8} {f : Fi} (h : look l p = some f) : (p, f) ∈ l := by
  unfold look at h
  obtain ⟨e, he, rfl⟩ := Option.map_eq_some_iff.1 h
  have h1 := List.mem_of_find?_eq_some he
  have h2 : e.1 = p := by simpa using List.find?_some he
  rw [← h2]; exact h1

theorem ltB_trans {a b c : B8} (h : ltB a b = true) (k : ltB b c = true) : ltB a c = true := by
  unfold ltB at *
  simp only [decide_eq_true_eq] at *
  exact List.lt_trans h k
theorem ltB_total {a b : B8} (h : ltB a b = false) (hne : a ≠ b) : ltB b a = true := by
  unfold ltB at *
  simp only [decide_eq_true_eq, decide_eq_false_iff_not] at *
  exact Std.lt_of_le_of_ne (List.not_lt.1 h) (Ne.symm hne)
theorem ltB_ne {a b : B8} (h : ltB a b = true) : a ≠ b := by
  rintro rfl
  unfold ltB at h
  simp at h
  exact absurd h (List.lt_irrefl a)

theorem Rising.del {l : Files} (h : Rising l) (p : B8) : Rising (delF l p) := List.Pairwise.filter _ h
theorem Rising.ins {x : B8 × Fi} : ∀ {l : Files}, Rising l → (∀ e ∈ l, e.1 ≠ x.1) → Rising (insF x l)
  | [], _, _ => by simp [insF, Rising]
  | y :: l, h, hn => by
    obtain ⟨h1, h2⟩ := List.pairwise_cons.1 h
    unfold insF
    split
    · rename_i hb
      exact List.pairwise_cons.2 ⟨fun e he => by
        rcases List.mem_cons.1 he with rfl | he
        · exact hb
        · exact ltB_trans hb (h1 e he), h⟩
    · rename_i hb
      have hb' := ltB_total (by simpa using hb) (fun e => hn y (by simp) e.symm)
      refine List.pairwise_cons.2 ⟨fun e he => ?_, Rising.ins h2 (fun e he => hn e (by simp [he]))⟩
      rcases mem_insF.1 he with rfl | he
      · exact hb'
      · exact h1 e he
theorem Rising.put {l : Files} (h : Rising l) (p : B8) (f : Fi) : Rising (putF l p f) := Rising.ins (h.del p) (delF_ne l p)
theorem Rising.ap {l : Files} (h : Rising l) (c : Ch) : Rising (ap l c) := by
  cases c with
  | put p f => exact h.put p f
  | mv s d =>
    show Rising (match look l s with | some x => putF (delF l s) d x | none => l)
    split
    · exact (h.del s).put d _
    · exact h
  | del p => exact h.del p

theorem mem_putF {l : Files} {p : B8} {f : Fi} {e : B8 × Fi} (h : e ∈ putF l p f) : e = (p, f) ∨ (e ∈ l ∧ e.1 ≠ p) := by
  rcases mem_insF.1 h with h | h
  · exact .inl h
  · exact .inr ⟨(List.mem_filter.1 h).1, delF_ne l p e h⟩

section
variable {ops : Array Oper} {rest : List Oper} {o : Oper} {a : Act} {Q : Exit → Act → World → Prop} {w : World}
end

end Go.Proofs.YtalpfoomkhhgnaaGreatDoor

/-! bytes.Clone; fsim.files: make. Conditions: as each theorem states. -/
namespace Go.Proofs.YtalpfoomkhhgnaaGreatDoor
open Go Go.RowKit

def Nu (w w' : World) (k : Nat) : Prop := w.heap.size ≤ k ∧ k < w'.heap.size
theorem cellsAt3 {w : World} {g : Nat} {v0 v1 v2 : Value} {t : TypeId} {fr : Nat × Nat} (h : w.heap[g]? = some (.cells #[v0, v1, v2] t fr)) :
    w.cell? ⟨g, 0, none⟩ = some v0 ∧ w.cell? ⟨g, 1, none⟩ = some v1 ∧ w.cell? ⟨g, 2, none⟩ = some v2 := by
  simp [World.cell?, h]
theorem alloc_at1 (w : World) (p q : Obj) : ((w.alloc p).alloc q).heap[w.heap.size + 1]? = some q := by
  have := alloc_at (w.alloc p) q
  rwa [show (w.alloc p).heap.size = w.heap.size + 1 by simp] at this
theorem IsFiles.ext {R : Nat → Prop} {w w' : World} {b : Nat} {l : Files} (h : IsFiles R w b l) (hx : Ext w w') : IsFiles R w' b l := h.stay (hx.block b h.lt) (KeepR.of_keep (KeepB.of_ext hx))
theorem IsData.ext {R : Nat → Prop} {w w' : World} {v : Value} {l : B8} (h : IsData R w v l) (hx : Ext w w') : IsData R w' v l := h.keep (KeepB.of_ext hx)

def MakePost (R : Nat → Prop) (w : World) (gm : Nat) (l : Files) (e : Ending) (w' : World) : Prop := e = .returned (.tuple #[]) ∧ IsFiles R w' gm l ∧ w.grownBy w' (some gm)

end Go.Proofs.YtalpfoomkhhgnaaGreatDoor

/-! Maps of files gone through: copied, dir, Used. Conditions: as each theorem states. -/
namespace Go.Proofs.YtalpfoomkhhgnaaGreatDoor
open Go Go.RowKit

theorem key_inv {key : Value} {kl : Lit} (h : keyOf Tryz.prog 9 key = some kl) : ∃ x : ByteArray, key = .string x := by
  cases key <;> simp [keyOf, mapKey, Tryz.underlying9] at h
  exact ⟨_, rfl⟩
theorem key_lit {x : ByteArray} {kl : Lit} (h : keyOf Tryz.prog 9 (.string x) = some kl) : kl = .string x.data.toList := by
  simp [keyOf, mapKey, Tryz.underlying9] at h
  exact h.2.symm

/-- Each file's data lies in a slice. -/
def Sliced (sl : B8 → Value) (l : Files) : Prop := ∀ p f, look l p = some f → ∃ a c, sl p = .slice a f.data.length c

section
variable {ops : Array Oper} {rest : List Oper} {o : Oper} {a : Act} {Q : Exit → Act → World → Prop} {w : World}
end

end Go.Proofs.YtalpfoomkhhgnaaGreatDoor
