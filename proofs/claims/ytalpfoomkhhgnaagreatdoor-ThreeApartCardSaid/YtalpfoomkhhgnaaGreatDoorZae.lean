/- sha.schedule: a block's words, spread over the rounds. Conditions: a block of 64 bytes. -/
import Derived.Test.YtalpfoomkhhgnaaGreatDoorZad
import Derived.Lib.EndianBits
import Derived.Deep.DeepCutAuto
import Derived.Test.YtalpfoomkhhgnaaGreatDoorZaa
import Derived.Test.YtalpfoomkhhgnaaGreatDoorZab
import Derived.Deep.Upon
import Derived.Deep.QuietTactic
import Derived.BigQuiet

set_option linter.unusedVariables false
set_option linter.unusedSimpArgs false
set_option linter.unusedSectionVars false

/-! wire: Get; slices.Equal of bytes. Conditions: as each theorem states. -/
namespace Go.Proofs.YtalpfoomkhhgnaaGreatDoor
open Go Go.RowKit
set_option linter.unusedVariables false
set_option linter.unusedSimpArgs false
set_option linter.unusedSectionVars false

theorem IsBytes.take {w : World} {a : Option Addr} {c : Nat} {b : B8} (h : IsBytes w (.slice a b.length c) b) {j : Nat} (hj : j ≤ b.length) : IsBytes w (.slice a j c) (b.take j) := by
  obtain ⟨a2, c2, he, h1, h2, h3, h4⟩ := h
  cases he
  have hl : (b.take j).length = j := by rw [List.length_take]; omega
  unfold IsBytes
  rw [hl]
  refine ⟨a, c, rfl, by omega, h2, by omega, fun hne => ?_⟩
  obtain ⟨bb, o, rfl, hc⟩ := h4 (by
    intro e
    rw [List.map_eq_nil_iff] at e
    subst e
    simp at hne)
  refine ⟨bb, o, rfl, fun i u hu => ?_⟩
  have hi := (List.getElem?_eq_some_iff.1 hu).1
  rw [List.length_map, hl] at hi
  refine hc i u ?_
  rw [List.getElem?_map] at hu ⊢
  rwa [List.getElem?_take_of_lt hi] at hu
end Go.Proofs.YtalpfoomkhhgnaaGreatDoor

/-! A region that draws its order and whose calls make blocks of their own: that the blocks of two of them differ is known behind it. Conditions: each operation of the head leaves what was there as it was. -/
namespace Go.Proofs.YtalpfoomkhhgnaaGreatDoor
open Go Go.RowKit

/-- The block that a map or a slice lies in. -/
def blkOf : Value → Option Nat
  | .map (some g) => some g
  | .slice (some a) _ _ => some a.block
  | .pointer (some a) => some a.block
  | _ => none
/-- What an operation hands back lies in a block that it made. -/
def FreshIn (u : Value) (w w' : World) : Prop := ∀ b, blkOf u = some b → w.heap.size ≤ b ∧ b < w'.heap.size
def Dis (F : List Nat) (xs : Nat → Value) (i j : Nat) : Prop := i ∈ F → j ∈ F → i ≠ j → ∀ b, blkOf (xs i) = some b → blkOf (xs j) = some b → False

section
variable {P : Program} {C : World → Prop} {le : World → World → Prop}
def stepDis (P : Program) (C : World → Prop) (le : World → World → Prop) (F : List Nat) (ops : Array Oper) (V : List (Value → World → Prop)) (head : List Oper) (a0 : Act) (k : Nat) (d : List Nat) (o : Oper) : Prop :=
  ∀ (xs : Nat → Value) (w : World), C w → knows V xs w d → ∀ R : Value → World → Prop, (∀ u w', le w w' → getV V k u w' → (k ∈ F → FreshIn u w w') → R u w') →
    if Region.wanted o (yielded ops (fillFrom xs head 0 a0).tmps) then relUpon P R ((execOp (fillFrom xs head 0 a0).eval o).run P w) else R undef w
def oblDis (P : Program) (C : World → Prop) (le : World → World → Prop) (F : List Nat) (ops : Array Oper) (V : List (Value → World → Prop)) (D : List (List Nat)) (head : List Oper) (a0 : Act) : List Oper → Nat → Prop
  | [], _ => True
  | o :: l, k => stepDis P C le F ops V head a0 k (D.getD k []) o ∧ oblDis P C le F ops V D head a0 l (k + 1)
structure RDis (C : World → Prop) (F : List Nat) (ops : Array Oper) (n : Nat) (V : List (Value → World → Prop)) (a0 : Act) (listed : Array Bool) (a : Act) (w : World) : Prop where
  head : HeadInv .any ops n listed
  ext : C w
  fill : ∃ xs : Nat → Value, a = fillFrom xs (ops.toList.take n) 0 a0 ∧ (∀ j, j < n → listed.getD j false = true → getV V j (xs j) w) ∧ (∀ i j, i < n → j < n → listed.getD i false = true → listed.getD j false = true → Dis F xs i j) ∧ (∀ j, j < n → listed.getD j false = true → j ∈ F → ∀ b, blkOf (xs j) = some b → b < w.heap.size)

end

end Go.Proofs.YtalpfoomkhhgnaaGreatDoor

/-! fsim.FS: Copy. Conditions: what holds of a file system at all times. -/
namespace Go.Proofs.YtalpfoomkhhgnaaGreatDoor
open Go Go.RowKit

end Go.Proofs.YtalpfoomkhhgnaaGreatDoor

/-! How the document's file system lies in memory: rows, changes, events, all in slices; what an operation leaves as it was. No conditions of its own. -/
namespace Go.Proofs.YtalpfoomkhhgnaaGreatDoor
open Go Go.RowKit

/-! ### Rows and changes -/
def IsRowR (R : Nat → Prop) (w : World) (cs : List Value) (e : B8 × Fi) : Prop := e.1.length ≤ 10000000 ∧ ∃ v, cs = [S8 e.1, .int .i64 e.2.mode, v, .int .i64 e.2.time] ∧ IsData R w v e.2.data
theorem IsRowR.mono {R R' : Nat → Prop} {w : World} {cs : List Value} {e : B8 × Fi} (h : IsRowR R w cs e) (hr : ∀ k, R k → R' k) : IsRowR R' w cs e := by
  obtain ⟨h1, v, h2, h3⟩ := h
  exact ⟨h1, v, h2, h3.mono hr⟩
theorem IsRowR.keepR {R : Nat → Prop} {w w' : World} {cs : List Value} {e : B8 × Fi} (h : IsRowR R w cs e) (hk : KeepR R w w') : IsRowR R w' cs e := by
  obtain ⟨h1, v, h2, h3⟩ := h
  exact ⟨h1, v, h2, h3.keepR hk⟩
theorem IsRowR.length {R : Nat → Prop} {w : World} {cs : List Value} {e : B8 × Fi} (h : IsRowR R w cs e) : cs.length = 4 ∧ cs.all (·.oneCell') = true := by
  obtain ⟨_, v, rfl, h3⟩ := h
  obtain ⟨_, _, rfl, _⟩ := h3.bytes
  exact ⟨rfl, by simp [Value.oneCell']⟩
def IsOp (R : Nat → Prop) (w : World) (cs : List Value) : Ch → Prop
  | .put p f => p.length ≤ 10000000 ∧ ∃ v, cs = [.int .i64 1, S8 [], S8 p, .int .i64 f.mode, v, .int .i64 f.time] ∧ IsData R w v f.data
  | .mv s d => s.length ≤ 10000000 ∧ d.length ≤ 10000000 ∧ cs = [.int .i64 2, S8 s, S8 d, .int .i64 0, .slice none 0 0, .int .i64 0]
  | .del p => p.length ≤ 10000000 ∧ cs = [.int .i64 3, S8 p, S8 [], .int .i64 0, .slice none 0 0, .int .i64 0]
theorem IsOp.mono {R R' : Nat → Prop} {w : World} {cs : List Value} {c : Ch} (h : IsOp R w cs c) (hr : ∀ k, R k → R' k) : IsOp R' w cs c := by
  cases c with
  | put p f =>
    obtain ⟨h1, v, h2, h3⟩ := h
    exact ⟨h1, v, h2, h3.mono hr⟩
  | mv s d => exact h
  | del p => exact h
theorem IsOp.keepR {R : Nat → Prop} {w w' : World} {cs : List Value} {c : Ch} (h : IsOp R w cs c) (hk : KeepR R w w') : IsOp R w' cs c := by
  cases c with
  | put p f =>
    obtain ⟨h1, v, h2, h3⟩ := h
    exact ⟨h1, v, h2, h3.keepR hk⟩
  | mv s d => exact h
  | del p => exact h
theorem IsOp.length {R : Nat → Prop} {w : World} {cs : List Value} {c : Ch} (h : IsOp R w cs c) : cs.length = 6 ∧ cs.all (·.oneCell') = true := by
  cases c with
  | put p f =>
    obtain ⟨_, v, rfl, h3⟩ := h
    obtain ⟨_, _, rfl, _⟩ := h3.bytes
    exact ⟨rfl, by simp [Value.oneCell']⟩
  | mv s d => obtain ⟨_, _, rfl⟩ := h; exact ⟨rfl, by simp [Value.oneCell']⟩
  | del p => obtain ⟨_, rfl⟩ := h; exact ⟨rfl, by simp [Value.oneCell']⟩
theorem ReadL.lt {α : Type} {w : World} {t : TypeId} {p : List Value → α → Prop} {v : Value} {xs : List α} (h : ReadL w t p v xs) : ∀ k, v.ownBlock = some k → k < w.heap.size := fun k hv => by
  obtain ⟨cs, fr, hb⟩ := h.typed k hv
  exact (Array.getElem?_eq_some_iff.1 hb).1
theorem ReadL.nil {α : Type} (w : World) (t : TypeId) (p : List Value → α → Prop) : ReadL w t p (.slice none 0 0) [] := ⟨[], Row.nil _, Typed.nil _ _ _ _, Each.nil _⟩
theorem OwnL.nil {α : Type} (w : World) (t : TypeId) (size : Nat) (p : List Value → α → Prop) : OwnL w t size p (.slice none 0 0) [] := ⟨[], World.ownsRow_nil _ _ _ _, Each.nil _⟩

/-! ### A base world: what was there when the law's function was called -/
structure BaseW where
  w : World
def baseW [Inhabited BaseW] : World := (default : BaseW).w
variable [Inhabited BaseW]
/-- Bytes that were there. -/
structure OldB (v : Value) (l : B8) : Prop where
  bytes : IsBytes baseW v l
  low : ∀ a n c, v = .slice (some a) n c → n ≠ 0 → a.block < baseW.heap.size
def IsEvD (cs : List Value) (e : Ev) : Prop := ∃ vd, cs = [.int .i64 e.t, .int .i64 e.kind, .int .i64 e.mode, .int .i64 e.keep, .int .i64 e.torn, S8 e.path, vd] ∧ OldB vd e.data ∧ e.path.length ≤ 10000000
/-- .. as it comes in: its path may be of any length. -/
def IsEvI (cs : List Value) (e : Ev) : Prop := ∃ vd, cs = [.int .i64 e.t, .int .i64 e.kind, .int .i64 e.mode, .int .i64 e.keep, .int .i64 e.torn, S8 e.path, vd] ∧ OldB vd e.data
theorem IsEvI.length {cs : List Value} {e : Ev} (h : IsEvI cs e) : cs.length = 7 ∧ cs.all (·.oneCell') = true := by
  obtain ⟨v, rfl, h2⟩ := h
  obtain ⟨_, _, rfl, _⟩ := h2.bytes
  exact ⟨rfl, by simp [Value.oneCell']⟩
theorem IsEvI.up {cs : List Value} {e : Ev} (h : IsEvI cs e) (hp : e.path.length ≤ 400) : IsEvD cs e := by
  obtain ⟨v, h1, h2⟩ := h
  exact ⟨v, h1, h2, by omega⟩
theorem IsEvD.length {cs : List Value} {e : Ev} (h : IsEvD cs e) : cs.length = 7 ∧ cs.all (·.oneCell') = true := by
  obtain ⟨v, rfl, h2, _⟩ := h
  obtain ⟨_, _, rfl, _⟩ := h2.bytes
  exact ⟨rfl, by simp [Value.oneCell']⟩
theorem OldB.at {v : Value} {l : B8} {w : World} (h : OldB v l) (hx : Ext baseW w) : IsBytes w v l := h.bytes.ext hx
theorem OldB.out {v : Value} {l : B8} {w : World} {O : Nat → Prop} (h : OldB v l) (hO : ∀ k, O k → baseW.heap.size ≤ k) : Out O w v := fun a n c he hn => .inl fun ho => by have := h.low a n c he hn; have := hO _ ho; omega
theorem IsEvD.read {cs : List Value} {e : Ev} {w : World} (h : IsEvD cs e) (hx : Ext baseW w) : IsEvB w cs e := by
  obtain ⟨v, h1, h2, h3⟩ := h
  exact ⟨v, h1, h2.at hx, h3⟩

/-! ### The parts of the document's file system, but for its own block -/
abbrev refCells (room : Int) (vn vs vp vl : Value) (calls time : Nat) (down : Bool) (vu : Value) : Array Value := #[.int .i64 room, vn, vs, vp, vl, .int .i64 calls, .int .i64 time, .bool down, vu]
section
variable {O R : Nat → Prop} {w w' : World} {vn vs vp vl vu : Value} {now sure : Files} {pend : List Ch} {L users : List Ev}
end

/-! ### The whole -/
section
variable {O O' R R' : Nat → Prop} {w w' : World} {p : Value} {m : Fs}
end

section
variable {O R : Nat → Prop} {w wx w1 w' : World} {p : Value} {m m1 : Fs}
end

end Go.Proofs.YtalpfoomkhhgnaaGreatDoor

/-! What the document's lists of files are, in plain Lean: places, files put in their places, what may be. No conditions. -/
namespace Go.Proofs.YtalpfoomkhhgnaaGreatDoor
open Go Go.RowKit

/-- The place of a path. -/
def PlaceOf (l : Files) (p : B8) (i : Int) : Prop := (look l p = none ∧ i = -1) ∨ ∃ (k : Nat) (f : Fi), i = k ∧ l[k]? = some (p, f) ∧ look l p = some f
theorem ltB_asymm {a b : B8} (h : ltB a b = true) : ltB b a = false := by
  cases hb : ltB b a with
  | false => rfl
  | true => exact absurd rfl (ltB_ne (ltB_trans h hb))
def mayR (l : Files) (path : B8) : Bool := !(l.any fun e => isUnder path e.1 || isUnder e.1 path)
end Go.Proofs.YtalpfoomkhhgnaaGreatDoor

/-! marref5: find, used: what is read of a list of files. Conditions: at most 100000000 files; short paths. -/
namespace Go.Proofs.YtalpfoomkhhgnaaGreatDoor
open Go Go.RowKit

theorem Row.stayN {w w' : World} {v : Value} {n : Nat} {cs : List Value} (h : Row w v n cs) (hb : cs ≠ [] → ∀ k, v.ownBlock = some k → w'.heap[k]? = w.heap[k]?) : Row w' v n cs := by
  obtain ⟨a, cap, rfl, h1, h2, h3, h4⟩ := h
  refine ⟨a, cap, rfl, h1, h2, h3, fun hn => ?_⟩
  obtain ⟨b, o, rfl, hc⟩ := h4 hn
  refine ⟨b, o, rfl, fun i u hu => ?_⟩
  rw [World.cell?_of_block (w := w) (w' := w') (a := ⟨b, o + i, none⟩) (hb hn b rfl)]
  exact hc i u hu
/-- A slice of another's, that is read alone: its block's type is not told. -/
def ReadO {α : Type} (w : World) (p : List Value → α → Prop) (v : Value) (xs : List α) : Prop := ∃ css : List (List Value), Row w v xs.length css.flatten ∧ (xs ≠ [] → ∀ k, v.ownBlock = some k → k < w.heap.size) ∧ Each p css xs
theorem ReadO.mono {α : Type} {w : World} {p q : List Value → α → Prop} {v : Value} {xs : List α} (h : ReadO w p v xs) (hpq : ∀ c x, p c x → q c x) : ReadO w q v xs := by
  obtain ⟨css, h1, h2, h3⟩ := h
  exact ⟨css, h1, h2, h3.imp hpq⟩
theorem ReadO.lt {α : Type} {w : World} {p : List Value → α → Prop} {v : Value} {xs : List α} (h : ReadO w p v xs) (hn : xs ≠ []) : ∀ k, v.ownBlock = some k → k < w.heap.size := by
  obtain ⟨css, h1, h2, h3⟩ := h
  exact h2 hn
theorem ReadO.stay {α : Type} {w w' : World} {p : List Value → α → Prop} {v : Value} {xs : List α} (h : ReadO w p v xs) (hs : w.heap.size ≤ w'.heap.size) (hb : xs ≠ [] → ∀ k, v.ownBlock = some k → w'.heap[k]? = w.heap[k]?) : ReadO w' p v xs := by
  obtain ⟨css, h1, h2, h3⟩ := h
  refine ⟨css, h1.stayN (fun hn => hb fun hx => hn ?_), fun hn k hk => Nat.lt_of_lt_of_le (h2 hn k hk) hs, h3⟩
  have : css = [] := List.eq_nil_of_length_eq_zero (by rw [h3.1, hx]; rfl)
  rw [this]; rfl
end Go.Proofs.YtalpfoomkhhgnaaGreatDoor

/-! A region that draws its order and whose operations write: what holds of the world is said of each set of those operations that have been done. Conditions: each operation of the head goes on from each such set. -/
namespace Go.Proofs.YtalpfoomkhhgnaaGreatDoor
open Go Go.RowKit

def getP (V : List (Value → Prop)) (k : Nat) : Value → Prop := V.getD k (fun _ => True)
/-- What the marked operations have handed back so far. -/
def zOf (K : List Bool) (listed : Array Bool) (xs : Nat → Value) : Nat → Option Value := fun j => if K.getD j false && listed.getD j false then some (xs j) else none
def zAll (K : List Bool) (xs : Nat → Value) : Nat → Option Value := fun j => if K.getD j false then some (xs j) else none
def zSet (z : Nat → Option Value) (k : Nat) (u : Value) : Nat → Option Value := fun j => if j = k then some u else z j
def knowsI (K : List Bool) (V : List (Value → Prop)) (z : Nat → Option Value) (xs : Nat → Value) : List Nat → Prop
  | [] => True
  | j :: l => (if K.getD j false then z j = some (xs j) else getP V j (xs j)) ∧ knowsI K V z xs l
theorem knowsI_of {K : List Bool} {V : List (Value → Prop)} {z : Nat → Option Value} {xs : Nat → Value} : ∀ {l : List Nat}, (∀ j ∈ l, if K.getD j false then z j = some (xs j) else getP V j (xs j)) → knowsI K V z xs l
  | [], _ => trivial
  | j :: l, h => ⟨h j (by simp), knowsI_of fun i hi => h i (by simp [hi])⟩

section
variable {P : Program} {J : (Nat → Option Value) → World → Prop}
def stepI (P : Program) (J : (Nat → Option Value) → World → Prop) (ops : Array Oper) (K : List Bool) (V : List (Value → Prop)) (head : List Oper) (a0 : Act) (k : Nat) (d : List Nat) (o : Oper) : Bool → Prop
  | true => ∀ (xs : Nat → Value) (z : Nat → Option Value) (w : World), J z w → z k = none → knowsI K V z xs d → ∀ R : Value → World → Prop, (∀ u w', J (zSet z k u) w' → R u w') →
    if Region.wanted o (yielded ops (fillFrom xs head 0 a0).tmps) then relUpon P R ((execOp (fillFrom xs head 0 a0).eval o).run P w) else R undef w
  | false => ∀ (xs : Nat → Value) (z : Nat → Option Value) (w : World), J z w → knowsI K V z xs d → ∀ R : Value → World → Prop, (∀ u w', J z w' → getP V k u → R u w') →
    if Region.wanted o (yielded ops (fillFrom xs head 0 a0).tmps) then relUpon P R ((execOp (fillFrom xs head 0 a0).eval o).run P w) else R undef w
def oblI (P : Program) (J : (Nat → Option Value) → World → Prop) (ops : Array Oper) (K : List Bool) (V : List (Value → Prop)) (D : List (List Nat)) (head : List Oper) (a0 : Act) : List Oper → List Bool → Nat → Prop
  | [], _, _ => True
  | _ :: _, [], _ => False
  | o :: l, b :: ks, k => stepI P J ops K V head a0 k (D.getD k []) o b ∧ oblI P J ops K V D head a0 l ks (k + 1)
theorem oblI_get {ops : Array Oper} {K : List Bool} {V : List (Value → Prop)} {D : List (List Nat)} {head : List Oper} {a0 : Act} :
    ∀ {l : List Oper} {ks : List Bool} {k : Nat}, oblI P J ops K V D head a0 l ks k → ∀ i o, l[i]? = some o → stepI P J ops K V head a0 (k + i) (D.getD (k + i) []) o (ks.getD i false)
  | [], _, _, _, i, o, h => by simp at h
  | _ :: _, [], _, h, _, _, _ => h.elim
  | p :: l, b :: ks, k, h, 0, o, ho => by
    have : p = o := by simpa using ho
    subst this
    simpa using h.1
  | p :: l, b :: ks, k, h, i + 1, o, ho => by
    have := oblI_get h.2 i o (by simpa using ho)
    rw [show k + 1 + i = k + (i + 1) by omega] at this
    simpa using this

structure IInv (J : (Nat → Option Value) → World → Prop) (ops : Array Oper) (n : Nat) (K : List Bool) (V : List (Value → Prop)) (a0 : Act) (listed : Array Bool) (a : Act) (w : World) : Prop where
  head : HeadInv .any ops n listed
  fill : ∃ xs : Nat → Value, a = fillFrom xs (ops.toList.take n) 0 a0 ∧ J (zOf K listed xs) w ∧ ∀ j, j < n → listed.getD j false = true → K.getD j false = false → getP V j (xs j)

theorem wpAny_inv {ops : Array Oper} {n : Nat} {K : List Bool} {V : List (Value → Prop)} {D : List (List Nat)} {a0 : Act} {Q : Exit → Act → World → Prop} (hK : K.length = n)
    (hB : relB ops n D = true) (hs : oblI P J ops K V D (ops.toList.take n) a0 (ops.toList.take n) K 0)
    (hQ : ∀ xs w, J (zAll K xs) w → (∀ j, j < n → K.getD j false = false → getP V j (xs j)) → wpList P ops Q (ops.toList.drop n) (fillFrom xs (ops.toList.take n) 0 a0) w) :
    ∀ (f : Nat) (listed : Array Bool) (a : Act) (w : World), left n listed = f → IInv J ops n K V a0 listed a w → wpAny P .any ops Q (f + (ops.size - n)) listed a w := by
  simp only [relB, Bool.and_eq_true, Bool.or_eq_true, decide_eq_true_eq] at hB
  obtain ⟨⟨⟨⟨⟨hn, hback⟩, hdeps⟩, hnd⟩, htail⟩, hseq⟩ := hB
  intro f
  induction f with
  | zero =>
    intro listed a w hl inv
    have hall := left_zero hl
    have hall2 : ∀ j, j < n → listed.getD j false = true := fun j hj => by
      have := hall j hj
      rwa [getD_of_size (by rw [inv.head.size]; omega) true false] at this
    have harr : listed = headArr ops.size n := by
      apply Array.ext_getElem?
      intro i
      have hsz := inv.head.size
      unfold headArr
      by_cases h1 : i < n
      · have := hall i h1
        have hi : i < listed.size := by omega
        simp only [hi, Array.getD_eq_getD_getElem?, Array.getElem?_eq_getElem, Option.getD_some] at this
        rw [Array.getElem?_append_left (by simpa using h1)]
        simp [hi, h1, this]
      · by_cases h2 : i < ops.size
        · have := inv.head.tail i (by omega) h2
          have hi : i < listed.size := by omega
          simp only [hi, Array.getD_eq_getD_getElem?, Array.getElem?_eq_getElem, Option.getD_some] at this
          rw [Array.getElem?_append_right (by simpa using h1)]
          simp only [hi, Array.getElem?_eq_getElem, this]
          rw [Array.getElem?_replicate, if_pos (by simp; omega)]
        · rw [Array.getElem?_eq_none (by omega), Array.getElem?_eq_none (by simp; omega)]
    obtain ⟨xs, ha, hj, hx⟩ := inv.fill
    have hz : zOf K listed xs = zAll K xs := by
      funext j
      unfold zOf zAll
      by_cases hjn : j < n
      · rw [hall2 j hjn, Bool.and_true]
      · have : K.getD j false = false := by
          rw [List.getD_eq_getElem?_getD, List.getElem?_eq_none (by omega)]; rfl
        rw [this, Bool.false_and]
    rw [hz] at hj
    have := hQ xs w hj (fun j hjn hkj => hx j hjn (hall2 j hjn) hkj)
    rw [← ha] at this
    rw [Nat.zero_add]
    have h2 := wpAny_of_seq (md := .any) (Q' := Q) (ops.toList.drop n) n listed a w (fun j => by simp [List.getElem?_drop]) (by rw [harr]; simpa using hseq) this
    simpa using h2
  | succ f ih =>
    intro listed a w hl inv
    rw [show f + 1 + (ops.size - n) = (f + (ops.size - n)) + 1 by omega]
    -- one of the head is yet to come
    have hex : ∃ i, i < n ∧ listed.getD i true = false := by
      have h1 : 0 < ((List.range n).filter fun i => !listed.getD i true).length := by unfold left at hl; omega
      obtain ⟨i, hi⟩ := List.exists_mem_of_length_pos h1
      simp only [List.mem_filter, List.mem_range] at hi
      exact ⟨i, hi.1, by simpa using hi.2⟩
    have hready : ∃ i, i < n ∧ i ∈ Region.ready .any ops listed := by
      obtain ⟨i, hi, hu⟩ := hex
      revert hi hu
      induction i using Nat.strongRecOn with
      | _ i ihh =>
        intro hi hu
        have hlt : i < ops.size := by omega
        by_cases hr : i ∈ Region.ready .any ops listed
        · exact ⟨i, hi, hr⟩
        · have ho : ops[i]? = some ops[i] := Array.getElem?_eq_getElem hlt
          have hb := List.all_eq_true.1 hback i (List.mem_range.2 hlt)
          rw [ho] at hb
          simp only [Option.map_some, Option.getD_some] at hb
          have : ∃ e ∈ ops[i].after, Region.binds .any e = true ∧ listed.getD e.on false = false := by
            apply Classical.byContradiction
            intro hno
            apply hr
            rw [mem_ready]
            refine ⟨hu, ops[i], ho, fun e he hbd => ?_⟩
            cases hq : listed.getD e.on false with
            | true => rfl
            | false => exact absurd ⟨e, he, hbd, hq⟩ hno
          obtain ⟨e, he, hbd, hq⟩ := this
          have hlt2 := Array.all_eq_true'.1 hb e he
          simp only [hbd, Bool.not_true, Bool.false_or, decide_eq_true_eq] at hlt2
          exact ihh e.on hlt2 (by omega) (getD_in (by rw [inv.head.size]; omega) hq)
    refine ⟨fun h0 => ?_, fun i hi => ?_⟩
    · obtain ⟨i, _, hr⟩ := hready
      rw [h0] at hr; cases hr
    · have hin : i < n := by
        rcases Nat.lt_or_ge i n with h | h
        · exact h
        · exfalso
          rcases htail with h2 | ⟨⟨hlt, hsk⟩, hch⟩
          · obtain ⟨_, o, ho, _⟩ := mem_ready.1 hi
            have := (Array.getElem?_eq_some_iff.1 ho).1
            omega
          · obtain ⟨j, hj, hu⟩ := hex
            exact tail_waits hsk hch hlt inv.head _ j rfl hj hu i h hi
      obtain ⟨hu, o, ho, hw⟩ := mem_ready.1 hi
      obtain ⟨xs, ha, hj, hx⟩ := inv.fill
      have hoi : (ops.toList.take n)[i]? = some o := by simp [hin, ho]
      have hst := oblI_get hs i o hoi
      rw [Nat.zero_add] at hst
      have hui : listed.getD i false = false := getD_both hu
      have hkn : knowsI K V (zOf K listed xs) xs (D.getD i []) := knowsI_of fun j hj => by
        have h1 := List.all_eq_true.1 hdeps i (List.mem_range.2 (by omega))
        have h2 := List.all_eq_true.1 h1 j hj
        obtain ⟨o', ho', e, he, hb, hon⟩ := Region.waitsFor_spec h2
        have : o' = o := Option.some.inj (ho'.symm.trans ho)
        subst this
        have h3 := hw e he hb
        rw [hon] at h3
        have hjn : j < n := by
          have hb1 := List.all_eq_true.1 hback i (List.mem_range.2 (by omega))
          rw [ho] at hb1
          simp only [Option.map_some, Option.getD_some] at hb1
          have h4 := Array.all_eq_true'.1 hb1 e he
          simp only [hb, Bool.not_true, Bool.false_or, decide_eq_true_eq] at h4
          omega
        cases hkj : K.getD j false with
        | true => simp only [if_true, zOf, hkj, h3, Bool.and_self]
        | false => simpa using hx j hjn h3 hkj
      have hnext : ∀ u w', J (zOf K (listed.setIfInBounds i true) (upd xs i u)) w' → (K.getD i false = false → getP V i u) → wpAny P .any ops Q (f + (ops.size - n)) (listed.setIfInBounds i true) (a.put o.dst u) w' := fun u w' h1 h2 => by
        refine ih (listed.setIfInBounds i true) (a.put o.dst u) w' ?_ ⟨inv.head.set hi hin, upd xs i u, ?_, h1, ?_⟩
        · have := left_set hin hu
          omega
        · rw [ha, fill_put xs u (ops.toList.take n) 0 i a0 o hnd hoi, Nat.zero_add]
        · intro j hjn hlj hkj
          by_cases hji : j = i
          · subst hji; simpa [upd] using h2 hkj
          · rw [getD_set_ne false (Ne.symm hji)] at hlj
            simp only [upd, hji, if_false]
            exact hx j hjn hlj hkj
      have hisz : i < listed.size := by
        obtain ⟨hi2, _⟩ := Array.getElem?_eq_some_iff.1 ho
        rw [inv.head.size]; exact hi2
      have hself : (listed.setIfInBounds i true).getD i false = true := by simp [hisz]
      cases hki : K.getD i false with
      | true =>
        rw [hki] at hst
        have hz0 : zOf K listed xs i = none := by simp only [zOf, hui, Bool.and_false, Bool.false_eq_true, if_false]
        have hzz : ∀ u, zOf K (listed.setIfInBounds i true) (upd xs i u) = zSet (zOf K listed xs) i u := fun u => by
          funext j
          by_cases hji : j = i
          · subst hji; simp only [zOf, zSet, hki, hself, Bool.and_self, if_true, upd]
          · simp only [zOf, zSet, hji, if_false, upd, getD_set_ne false (Ne.symm hji)]
        have hstep := hst xs _ w hj hz0 hkn (fun u w' => J (zSet (zOf K listed xs) i u) w') (fun u w' h => h)
        rw [← ha] at hstep
        have hres := wp_of_rel (P := P) (ops := ops) (Q := Q) (K := wpAny P .any ops Q (f + (ops.size - n)) (listed.setIfInBounds i true)) (fun u w' h => hnext u w' (by rw [hzz]; exact h) (fun h => by rw [hki] at h; cases h)) hstep
        unfold wpOp
        simp only [ho]
        exact hres
      | false =>
        rw [hki] at hst
        have hzz : ∀ u, zOf K (listed.setIfInBounds i true) (upd xs i u) = zOf K listed xs := fun u => by
          funext j
          by_cases hji : j = i
          · subst hji; simp only [zOf, hki, Bool.false_and, Bool.false_eq_true, if_false]
          · simp only [zOf, hji, if_false, upd, getD_set_ne false (Ne.symm hji)]
        have hstep := hst xs _ w hj hkn (fun u w' => J (zOf K listed xs) w' ∧ getP V i u) (fun u w' h h2 => ⟨h, h2⟩)
        rw [← ha] at hstep
        have hres := wp_of_rel (P := P) (ops := ops) (Q := Q) (K := wpAny P .any ops Q (f + (ops.size - n)) (listed.setIfInBounds i true)) (fun u w' h => hnext u w' (by rw [hzz]; exact h.1) (fun _ => h.2)) hstep
        unfold wpOp
        simp only [ho]
        exact hres

/-- Of each operation that is not marked: a value ('none': the one of the list), or what is known of it. -/
def mixP : List Value → List (Option (Value → Prop)) → List (Value → Prop)
  | c :: cs, none :: l => (fun u => u = c) :: mixP cs l
  | _ :: cs, some V :: l => V :: mixP cs l
  | _, _ => []
def heldI : List Bool → List Value → List (Option (Value → Prop)) → Nat → (Nat → Value) → Prop
  | true :: ks, _ :: cs, _ :: l, k, xs => heldI ks cs l (k + 1) xs
  | false :: ks, c :: cs, none :: l, k, xs => xs k = c ∧ heldI ks cs l (k + 1) xs
  | false :: ks, _ :: cs, some V :: l, k, xs => V (xs k) ∧ heldI ks cs l (k + 1) xs
  | _, _, _, _, _ => True
theorem heldI_of (xs : Nat → Value) : ∀ (ks : List Bool) (cs : List Value) (l : List (Option (Value → Prop))) (k : Nat), (∀ j, j < ks.length → ks.getD j false = false → getP (mixP cs l) j (xs (k + j))) → heldI ks cs l k xs := by
  intro ks
  induction ks with
  | nil => intro cs l k _; simp [heldI]
  | cons b ks ih =>
    intro cs l k h
    cases cs with
    | nil => cases b <;> simp [heldI]
    | cons c cs =>
      cases l with
      | nil => cases b <;> simp [heldI]
      | cons o l =>
        have hr : heldI ks cs l (k + 1) xs := ih cs l (k + 1) fun j hj hk => by
          have := h (j + 1) (by simp; omega) (by simpa using hk)
          rw [show k + (j + 1) = k + 1 + j by omega] at this
          cases o <;> simpa [getP, mixP] using this
        cases b with
        | true => simpa [heldI] using hr
        | false =>
          have h0 := h 0 (by simp) (by simp)
          cases o with
          | none => exact ⟨by simpa [getP, mixP] using h0, hr⟩
          | some V => exact ⟨by simpa [getP, mixP] using h0, hr⟩

/-- A region that draws its order: its head by each operation alone, its tail in the text's order. -/
theorem wp_region_inv {id : Nat} {Q : Exit → Act → World → Prop} {a : Act} {w : World} {l : List Oper} (n : Nat) (J : (Nat → Option Value) → World → Prop) (K : List Bool) (cs : List Value) (W : List (Option (Value → Prop))) (D : List (List Nat))
    (hm : P.follows .mixedOrders = true) (hB : relB l.toArray n D = true) (hK : K.length = n) (hJ : J (fun _ => none) { w with drawn := w.drawn + 1 })
    (hs : oblI P J l.toArray K (mixP cs W) D (l.take n) a (l.take n) K 0)
    (hQ : ∀ xs w', J (zAll K xs) w' → heldI K cs W 0 xs → wpList P l.toArray Q (l.drop n) (fillFrom xs (l.take n) 0 a) w') :
    (Code.region id l.toArray true).wp P Q a w := by
  refine wp_region_any hm ?_
  have hn : n ≤ l.toArray.size := by
    simp only [relB, Bool.and_eq_true, decide_eq_true_eq] at hB
    exact hB.1.1.1.1.1
  obtain ⟨xs0, h0⟩ := fill_self (l.take n) 0 a
  have hl : left n (Array.replicate l.toArray.size false) = n := by
    unfold left
    rw [List.filter_eq_self.2]
    · simp
    · intro i hi
      have : i < l.toArray.size := by have := List.mem_range.1 hi; omega
      simp at this
      simp [this]
  have hz0 : zOf K (Array.replicate l.toArray.size false) xs0 = fun _ => none := by
    funext j
    unfold zOf
    rw [getD_replicate_false, Bool.and_false]
    rfl
  have H := wpAny_inv (P := P) (J := J) (Q := Q) (a0 := a) hK hB (by simpa using hs) (by
      intro xs w' h1 h2
      have := hQ xs w' h1 (heldI_of xs K cs W 0 fun j hj hk => by rw [Nat.zero_add]; exact h2 j (by omega) hk)
      simpa using this) n (Array.replicate l.toArray.size false) a { w with drawn := w.drawn + 1 } hl
    ⟨⟨by simp, fun j oj _ hl => (by rw [getD_replicate_false] at hl; cases hl), fun t _ ht => getD_in (by simpa using ht) (getD_replicate_false _ _)⟩,
      xs0, by simpa using (h0 xs0 (fun _ _ => rfl)).symm, by rw [hz0]; exact hJ, fun j _ hl => (by rw [getD_replicate_false] at hl; cases hl)⟩
  rw [show n + (l.toArray.size - n) = l.toArray.size by omega] at H
  exact H
end

end Go.Proofs.YtalpfoomkhhgnaaGreatDoor

/-! marref5: without, with: lists of files in new blocks. Conditions: at most 10000000 files; short paths. -/
namespace Go.Proofs.YtalpfoomkhhgnaaGreatDoor
open Go Go.RowKit

theorem Each.len {α : Type} {p : List Value → α → Prop} {css : List (List Value)} {xs : List α} (h : Each p css xs) {n : Nat} (hp : ∀ c x, p c x → c.length = n) : ∀ c ∈ css, c.length = n := fun c hc => by
  obtain ⟨i, hi, rfl⟩ := List.mem_iff_getElem.1 hc
  have hi2 : i < xs.length := by rw [← h.1]; exact hi
  exact hp _ _ (h.2 i css[i] xs[i] (List.getElem?_eq_getElem hi) (List.getElem?_eq_getElem hi2))
theorem Each.one {α : Type} {p : List Value → α → Prop} {css : List (List Value)} {xs : List α} (h : Each p css xs) (hp : ∀ c x, p c x → c.all (·.oneCell') = true) : ∀ u ∈ css.flatten, u.oneCell' = true := fun u hu => by
  obtain ⟨c, hc, hu⟩ := List.mem_flatten.1 hu
  obtain ⟨i, hi, rfl⟩ := List.mem_iff_getElem.1 hc
  have hi2 : i < xs.length := by rw [← h.1]; exact hi
  exact List.all_eq_true.1 (hp _ _ (h.2 i css[i] xs[i] (List.getElem?_eq_getElem hi) (List.getElem?_eq_getElem hi2))) u hu
theorem Each.take {α : Type} {p : List Value → α → Prop} {css : List (List Value)} {xs : List α} (h : Each p css xs) (k : Nat) : Each p (css.take k) (xs.take k) := by
  refine ⟨by simp [h.1], fun i c x hc hx => ?_⟩
  rw [List.getElem?_take] at hc hx
  split at hc
  · rename_i hi
    rw [if_pos hi] at hx
    exact h.2 i c x hc hx
  · cases hc
theorem Each.drop {α : Type} {p : List Value → α → Prop} {css : List (List Value)} {xs : List α} (h : Each p css xs) (k : Nat) : Each p (css.drop k) (xs.drop k) := by
  refine ⟨by simp [h.1], fun i c x hc hx => ?_⟩
  rw [List.getElem?_drop] at hc hx
  exact h.2 _ c x hc hx
theorem Each.append {α : Type} {p : List Value → α → Prop} {css ds : List (List Value)} {xs ys : List α} (h : Each p css xs) (k : Each p ds ys) : Each p (css ++ ds) (xs ++ ys) := by
  refine ⟨by simp [h.1, k.1], fun i c x hc hx => ?_⟩
  rw [List.getElem?_append] at hc hx
  by_cases hi : i < css.length
  · rw [if_pos hi] at hc
    rw [if_pos (by rw [← h.1]; exact hi)] at hx
    exact h.2 i c x hc hx
  · rw [if_neg hi] at hc
    rw [if_neg (by rw [← h.1]; exact hi)] at hx
    rw [← h.1] at hx
    exact k.2 _ c x hc hx
section
variable {ops : Array Oper} {rest : List Oper} {o : Oper} {a : Act} {Q : Exit → Act → World → Prop} {w : World}
end
end Go.Proofs.YtalpfoomkhhgnaaGreatDoor

/-! marref5: with: a file put in its place, in a new list. Conditions: at most 10000000 files; short paths. -/
namespace Go.Proofs.YtalpfoomkhhgnaaGreatDoor
open Go Go.RowKit

section
variable {w0 : World} {nA nC : Nat} {A rowc C : List Value} {z0 z4 z8 z9 z13 : Option Value} {w w' : World} {u : Value}
end

theorem less_ltB : ∀ a b : B8, Op.bytesLess a b = ltB a b
  | [], [] => by simp [Op.bytesLess, ltB]
  | _ :: _, [] => by simp [Op.bytesLess, ltB]
  | [], _ :: _ => by simp [Op.bytesLess, ltB]
  | a :: r, b :: s => by
    rw [Op.bytesLess, less_ltB r s]
    unfold ltB
    rw [Bool.eq_iff_iff]
    simp [List.cons_lt_cons_iff]
end Go.Proofs.YtalpfoomkhhgnaaGreatDoor

/-! sha: words turned; the schedule of a block. Conditions: as each theorem states. -/
namespace Go.Proofs.YtalpfoomkhhgnaaGreatDoor
open Go Go.RowKit

theorem sub_of (s : Nat) (hs : s < 32) : (32 : UInt32) - UInt32.ofNat s = UInt32.ofNat (32 - s) := by
  apply UInt32.toNat_inj.1
  have h1 : (UInt32.ofNat s).toNat = s := by simp; omega
  have h2 : (UInt32.ofNat (32 - s)).toNat = 32 - s := by simp; omega
  rw [UInt32.toNat_sub_of_le _ _ (by rw [UInt32.le_iff_toNat_le, h1]; show s ≤ 32; omega), h1, h2]
  rfl
end Go.Proofs.YtalpfoomkhhgnaaGreatDoor

/-! sha.schedule: a block's words, spread over the rounds. Conditions: a block of 64 bytes. -/
namespace Go.Proofs.YtalpfoomkhhgnaaGreatDoor
open Go Go.RowKit

/-- A block of n cells that hold words. -/
def wordsC (l : List UInt32) (n : Nat) : Array Value := ((l ++ List.replicate (n - l.length) 0).map U32).toArray
theorem info_u32 : (Tryz.prog.info? 139).map (·.size) = some 1 := by kernel_rfl
theorem conv_u32 (y : UInt8) : Value.int .u32 (IntKind.u32.wrap (y.toNat : Int)) = U32 y.toUInt32 := by
  have := y.toNat_lt
  rw [wrap_u32 _ (by omega)]
  simp [U32]
theorem shl24 (x : UInt32) : Value.int .u32 (IntKind.u32.wrap ((x.toNat : Int) * 16777216)) = U32 (x <<< 24) := by
  have h := shl32 x 24 (by decide)
  have e : IntKind.u32.wrap ((x.toNat : Int) * 16777216) = ((x.toNat : Int) * 16777216) % 4294967296 := by rw [IntKind.wrap_u32]
  rw [e]
  exact congrArg _ h
theorem shl16 (x : UInt32) : Value.int .u32 (IntKind.u32.wrap ((x.toNat : Int) * 65536)) = U32 (x <<< 16) := by
  have h := shl32 x 16 (by decide)
  have e : IntKind.u32.wrap ((x.toNat : Int) * 65536) = ((x.toNat : Int) * 65536) % 4294967296 := by rw [IntKind.wrap_u32]
  rw [e]
  exact congrArg _ h
theorem shl8 (x : UInt32) : Value.int .u32 (IntKind.u32.wrap ((x.toNat : Int) * 256)) = U32 (x <<< 8) := by
  have h := shl32 x 8 (by decide)
  have e : IntKind.u32.wrap ((x.toNat : Int) * 256) = ((x.toNat : Int) * 256) % 4294967296 := by rw [IntKind.wrap_u32]
  rw [e]
  exact congrArg _ h
theorem or_u32 (x y : UInt32) : Value.int .u32 (bits .or .u32 (x.toNat : Int) (y.toNat : Int)) = U32 (x ||| y) := congrArg _ (bits_or32 x y)
theorem add_u32 (x y : UInt32) : Value.int .u32 (((x.toNat : Int) + (y.toNat : Int)) % 4294967296) = U32 (x + y) := congrArg _ (add32 x y)
section
variable {ops : Array Oper} {rest : List Oper} {o : Oper} {a : Act} {Q : Exit → Act → World → Prop} {w : World}
/-- A store of all cells of a block known whole. -/
theorem store_all (hgd : o.guard = none) (ty : TypeId) (x y : Operand) (ho : o.op = .store ty x y) (g j : Nat) (hx : a.eval x = .pointer (some ⟨g, j, none⟩)) (vs : Array Value) (hy : a.eval y = .agg vs) (h1 : ∀ v ∈ vs.toList, v.oneCell' = true)
    (t : TypeId) (cur : Array Value) (hg : w.heap[g]? = some (.cells cur t (0, 0))) (hj : j + vs.size ≤ cur.size) (hi : (Tryz.prog.info? ty).map (·.size) = some vs.size) (new : Array Value) (hnew : new = (cur.toList.take j ++ vs.toList ++ cur.toList.drop (j + vs.size)).toArray)
    (h : ∀ w', w'.heap[g]? = some (.cells new t (0, 0)) → w.grownBy w' (some g) → wpList Tryz.prog ops Q rest (a.put o.dst undef) w') : wpList Tryz.prog ops Q (o :: rest) a w :=
  wpList_plain hgd fun _ hK => by
    have hs := run_storeCells_at (P := Tryz.prog) g j t vs.toList 0 cur w hg (by simpa using hj) h1
    have hr : (storeVar ty ⟨g, j, none⟩ (.agg vs)).run Tryz.prog w = .ok () (w.setRow g new) := by
      cases hq : Tryz.prog.info? ty with
      | none => simp [hq] at hi
      | some i =>
        have hs1 : i.size = vs.size := by simpa [hq] using hi
        simp only [Nat.add_zero, Array.length_toList] at hs
        rw [hnew]
        simp [storeVar, sizeOf, typeInfo, hq, Value.cells, hs1, hs]
    unfold Oper.wp execOp
    simp only [ho, hx, hy, Instr.storeAt, Instr.sureAddr, Sem.run_bind, Sem.run_pure, Result.andThen_ok, hr]
    exact hK _ _ (h _ (setRow_heap _ _ _ _ _ _ hg) (setRow_grown _ _ _))
end
theorem size_a8 : (Tryz.prog.info? 146).map (·.size) = some 8 := by kernel_rfl
theorem addw_u32 (x y : UInt32) : Value.int .u32 (IntKind.u32.wrap ((x.toNat : Int) + (y.toNat : Int))) = U32 (x + y) := by
  rw [IntKind.wrap_u32]
  exact add_u32 x y
/-- What the loop holds. -/
structure Sch (w wr : World) (b : B8) (k : Nat) : Prop where
  ext : Ext w wr
  now : wr.heap[w.heap.size + 1]? = some (.cells (wordsC (wSched b k) 64) 159 (0, 0))
  res : wr.heap[w.heap.size]? = some (.cells (wordsC [] 64) 159 (0, 0))
theorem Sch.more {w wr w2 : World} {b : B8} {k : Nat} (h : Sch w wr b k) (hx : Ext wr w2) : Sch w w2 b k := ⟨h.ext.trans hx, Ext.row hx h.now, Ext.row hx h.res⟩
theorem Sch.put {w wr w2 : World} {b : B8} {k : Nat} (h : Sch w wr b k) (hg : w2.heap[w.heap.size + 1]? = some (.cells (wordsC (wSched b (k + 1)) 64) 159 (0, 0))) (hgr : wr.grownBy w2 (some (w.heap.size + 1))) : Sch w w2 b (k + 1) :=
  ⟨Below.grown h.ext hgr h.ext.size (fun j hj => by cases hj; omega), hg, (hgr.block _ (Array.getElem?_eq_some_iff.1 h.res).1 (by simp)).trans h.res⟩

end Go.Proofs.YtalpfoomkhhgnaaGreatDoor
