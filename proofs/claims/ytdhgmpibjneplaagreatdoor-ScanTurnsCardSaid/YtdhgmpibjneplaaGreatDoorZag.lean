/- sha.Hasher.Write: a piece is taken. Conditions: at most 10000000 bytes. -/
import Derived.Test.YtdhgmpibjneplaaGreatDoorZad
import Derived.Test.YtdhgmpibjneplaaGreatDoorZaf
import Derived.Test.YtdhgmpibjneplaaGreatDoorZaa
import Derived.Deep.Upon
import Derived.Deep.QuietTactic
import Derived.BigQuiet
import Derived.Deep.MidRow

set_option linter.unusedVariables false
set_option linter.unusedSimpArgs false
set_option linter.unusedSectionVars false

/-! fsim.FS: Copy. Conditions: what holds of a file system at all times. -/
namespace Go.Proofs.YtdhgmpibjneplaaGreatDoor
open Go Go.RowKit

theorem owns_low {w : World} {base base' : Nat} {e : TypeId} {size : Nat} {v : Value} {n : Nat} {xs : List Value} (h : w.ownsRow base e size v n xs) (hb : base' ≤ base) : w.ownsRow base' e size v n xs := by
  refine ⟨h.1, h.2.imp id ?_⟩
  rintro ⟨g, cap, cur, h1, h2, h3⟩
  exact ⟨g, cap, cur, h1, Nat.le_trans hb h2, h3⟩
theorem OwnE.ext {base : Nat} {w w' : World} {v : Value} {L : List Ev} (h : OwnE base w v L) (hx : Ext w w') : OwnE base w' v L := by
  obtain ⟨css, h1, h2⟩ := h
  exact ⟨css, owns_ext h1 hx, h2.imp (fun c x hc => (hc.keepR (KeepR.of_keep (KeepB.of_ext hx))).mono (fun k hk => ⟨hk.1, Nat.lt_of_lt_of_le hk.2 hx.size⟩))⟩
theorem OwnE.low {base base' : Nat} {w : World} {v : Value} {L : List Ev} (h : OwnE base w v L) (hb : base' ≤ base) : OwnE base' w v L := by
  obtain ⟨css, h1, h2⟩ := h
  exact ⟨css, owns_low h1 hb, h2.imp (fun c x hc => hc.mono (fun k hk => ⟨Nat.le_trans hb hk.1, hk.2⟩))⟩

end Go.Proofs.YtdhgmpibjneplaaGreatDoor

/-! How the document's file system lies in memory: rows, changes, events, all in slices; what an operation leaves as it was. No conditions of its own. -/
namespace Go.Proofs.YtdhgmpibjneplaaGreatDoor
open Go Go.RowKit

/-! ### Rows and changes -/
def IsRowR (R : Nat → Prop) (w : World) (cs : List Value) (e : B8 × Fi) : Prop := e.1.length ≤ 10000000 ∧ ∃ v, cs = [S8 e.1, .int .i64 e.2.mode, v, .int .i64 e.2.time] ∧ IsData R w v e.2.data
theorem IsRowR.mono {R R' : Nat → Prop} {w : World} {cs : List Value} {e : B8 × Fi} (h : IsRowR R w cs e) (hr : ∀ k, R k → R' k) : IsRowR R' w cs e := by
  obtain ⟨h1, v, h2, h3⟩ := h
  exact ⟨h1, v, h2, h3.mono hr⟩
theorem IsRowR.keepR {R : Nat → Prop} {w w' : World} {cs : List Value} {e : B8 × Fi} (h : IsRowR R w cs e) (hk : KeepR R w w') : IsRowR R w' cs e := by
  obtain ⟨h1, v, h2, h3⟩ := h
  exact ⟨h1, v, h2, h3.keepR hk⟩
theorem IsRowR.length {R : Nat → Prop} {w : World} {cs : List Value} {e : B8 × Fi} (h : IsRowR R w cs e) : cs.length = 4 ∧ cs.all (·.oneCell') = true := by
  obtain ⟨_, v, rfl, h3⟩ := h
  obtain ⟨_, _, rfl, _⟩ := h3.bytes
  exact ⟨rfl, by simp [Value.oneCell']⟩
theorem IsRowR.bound {R : Nat → Prop} {w : World} {cs : List Value} {e : B8 × Fi} (h : IsRowR R w cs e) : IsRowR (fun k => R k ∧ k < w.heap.size) w cs e := by
  obtain ⟨h1, v, h2, h3⟩ := h
  exact ⟨h1, v, h2, h3.bound⟩

def IsOp (R : Nat → Prop) (w : World) (cs : List Value) : Ch → Prop
  | .put p f => p.length ≤ 10000000 ∧ ∃ v, cs = [.int .i64 1, S8 [], S8 p, .int .i64 f.mode, v, .int .i64 f.time] ∧ IsData R w v f.data
  | .mv s d => s.length ≤ 10000000 ∧ d.length ≤ 10000000 ∧ cs = [.int .i64 2, S8 s, S8 d, .int .i64 0, .slice none 0 0, .int .i64 0]
  | .del p => p.length ≤ 10000000 ∧ cs = [.int .i64 3, S8 p, S8 [], .int .i64 0, .slice none 0 0, .int .i64 0]
theorem IsOp.mono {R R' : Nat → Prop} {w : World} {cs : List Value} {c : Ch} (h : IsOp R w cs c) (hr : ∀ k, R k → R' k) : IsOp R' w cs c := by
  cases c with
  | put p f =>
    obtain ⟨h1, v, h2, h3⟩ := h
    exact ⟨h1, v, h2, h3.mono hr⟩
  | mv s d => exact h
  | del p => exact h
theorem IsOp.keepR {R : Nat → Prop} {w w' : World} {cs : List Value} {c : Ch} (h : IsOp R w cs c) (hk : KeepR R w w') : IsOp R w' cs c := by
  cases c with
  | put p f =>
    obtain ⟨h1, v, h2, h3⟩ := h
    exact ⟨h1, v, h2, h3.keepR hk⟩
  | mv s d => exact h
  | del p => exact h
theorem IsOp.length {R : Nat → Prop} {w : World} {cs : List Value} {c : Ch} (h : IsOp R w cs c) : cs.length = 6 ∧ cs.all (·.oneCell') = true := by
  cases c with
  | put p f =>
    obtain ⟨_, v, rfl, h3⟩ := h
    obtain ⟨_, _, rfl, _⟩ := h3.bytes
    exact ⟨rfl, by simp [Value.oneCell']⟩
  | mv s d => obtain ⟨_, _, rfl⟩ := h; exact ⟨rfl, by simp [Value.oneCell']⟩
  | del p => obtain ⟨_, rfl⟩ := h; exact ⟨rfl, by simp [Value.oneCell']⟩
theorem IsOp.bound {R : Nat → Prop} {w : World} {cs : List Value} {c : Ch} (h : IsOp R w cs c) : IsOp (fun k => R k ∧ k < w.heap.size) w cs c := by
  cases c with
  | put p f =>
    obtain ⟨h1, v, h2, h3⟩ := h
    exact ⟨h1, v, h2, h3.bound⟩
  | mv s d => exact h
  | del p => exact h

theorem ReadL.lt {α : Type} {w : World} {t : TypeId} {p : List Value → α → Prop} {v : Value} {xs : List α} (h : ReadL w t p v xs) : ∀ k, v.ownBlock = some k → k < w.heap.size := fun k hv => by
  obtain ⟨cs, fr, hb⟩ := h.typed k hv
  exact (Array.getElem?_eq_some_iff.1 hb).1
theorem ReadL.nil {α : Type} (w : World) (t : TypeId) (p : List Value → α → Prop) : ReadL w t p (.slice none 0 0) [] := ⟨[], Row.nil _, Typed.nil _ _ _ _, Each.nil _⟩
theorem OwnL.nil {α : Type} (w : World) (t : TypeId) (size : Nat) (p : List Value → α → Prop) : OwnL w t size p (.slice none 0 0) [] := ⟨[], World.ownsRow_nil _ _ _ _, Each.nil _⟩

/-! ### A base world: what was there when the law's function was called -/
structure BaseW where
  w : World
def baseW [Inhabited BaseW] : World := (default : BaseW).w
variable [Inhabited BaseW]
/-- Bytes that were there. -/
structure OldB (v : Value) (l : B8) : Prop where
  bytes : IsBytes baseW v l
  low : ∀ a n c, v = .slice (some a) n c → n ≠ 0 → a.block < baseW.heap.size
def IsEvD (cs : List Value) (e : Ev) : Prop := ∃ vd, cs = [.int .i64 e.t, .int .i64 e.kind, .int .i64 e.mode, .int .i64 e.keep, .int .i64 e.torn, S8 e.path, vd] ∧ OldB vd e.data ∧ e.path.length ≤ 10000000
/-- .. as it comes in: its path may be of any length. -/
def IsEvI (cs : List Value) (e : Ev) : Prop := ∃ vd, cs = [.int .i64 e.t, .int .i64 e.kind, .int .i64 e.mode, .int .i64 e.keep, .int .i64 e.torn, S8 e.path, vd] ∧ OldB vd e.data
theorem IsEvI.length {cs : List Value} {e : Ev} (h : IsEvI cs e) : cs.length = 7 ∧ cs.all (·.oneCell') = true := by
  obtain ⟨v, rfl, h2⟩ := h
  obtain ⟨_, _, rfl, _⟩ := h2.bytes
  exact ⟨rfl, by simp [Value.oneCell']⟩
theorem IsEvI.up {cs : List Value} {e : Ev} (h : IsEvI cs e) (hp : e.path.length ≤ 400) : IsEvD cs e := by
  obtain ⟨v, h1, h2⟩ := h
  exact ⟨v, h1, h2, by omega⟩
theorem IsEvD.length {cs : List Value} {e : Ev} (h : IsEvD cs e) : cs.length = 7 ∧ cs.all (·.oneCell') = true := by
  obtain ⟨v, rfl, h2, _⟩ := h
  obtain ⟨_, _, rfl, _⟩ := h2.bytes
  exact ⟨rfl, by simp [Value.oneCell']⟩
theorem OldB.at {v : Value} {l : B8} {w : World} (h : OldB v l) (hx : Ext baseW w) : IsBytes w v l := h.bytes.ext hx
theorem OldB.out {v : Value} {l : B8} {w : World} {O : Nat → Prop} (h : OldB v l) (hO : ∀ k, O k → baseW.heap.size ≤ k) : Out O w v := fun a n c he hn => .inl fun ho => by have := h.low a n c he hn; have := hO _ ho; omega
theorem IsEvD.read {cs : List Value} {e : Ev} {w : World} (h : IsEvD cs e) (hx : Ext baseW w) : IsEvB w cs e := by
  obtain ⟨v, h1, h2, h3⟩ := h
  exact ⟨v, h1, h2.at hx, h3⟩

/-! ### The parts of the document's file system, but for its own block -/
abbrev refCells (room : Int) (vn vs vp vl : Value) (calls time : Nat) (down : Bool) (vu : Value) : Array Value := #[.int .i64 room, vn, vs, vp, vl, .int .i64 calls, .int .i64 time, .bool down, vu]
section
variable {O R : Nat → Prop} {w w' : World} {vn vs vp vl vu : Value} {now sure : Files} {pend : List Ch} {L users : List Ev}
end

/-! ### The whole -/
section
variable {O O' R R' : Nat → Prop} {w w' : World} {p : Value} {m : Fs}
end

section
variable {O R : Nat → Prop} {w wx w1 w' : World} {p : Value} {m m1 : Fs}
end

end Go.Proofs.YtdhgmpibjneplaaGreatDoor

/-! What the document's lists of files are, in plain Lean: places, files put in their places, what may be. No conditions. -/
namespace Go.Proofs.YtdhgmpibjneplaaGreatDoor
open Go Go.RowKit

/-- The place of a path. -/
def PlaceOf (l : Files) (p : B8) (i : Int) : Prop := (look l p = none ∧ i = -1) ∨ ∃ (k : Nat) (f : Fi), i = k ∧ l[k]? = some (p, f) ∧ look l p = some f
theorem ltB_asymm {a b : B8} (h : ltB a b = true) : ltB b a = false := by
  cases hb : ltB b a with
  | false => rfl
  | true => exact absurd rfl (ltB_ne (ltB_trans h hb))
def mayR (l : Files) (path : B8) : Bool := !(l.any fun e => isUnder path e.1 || isUnder e.1 path)
end Go.Proofs.YtdhgmpibjneplaaGreatDoor

/-! marref5: find, used: what is read of a list of files. Conditions: at most 100000000 files; short paths. -/
namespace Go.Proofs.YtdhgmpibjneplaaGreatDoor
open Go Go.RowKit

theorem Row.stayN {w w' : World} {v : Value} {n : Nat} {cs : List Value} (h : Row w v n cs) (hb : cs ≠ [] → ∀ k, v.ownBlock = some k → w'.heap[k]? = w.heap[k]?) : Row w' v n cs := by
  obtain ⟨a, cap, rfl, h1, h2, h3, h4⟩ := h
  refine ⟨a, cap, rfl, h1, h2, h3, fun hn => ?_⟩
  obtain ⟨b, o, rfl, hc⟩ := h4 hn
  refine ⟨b, o, rfl, fun i u hu => ?_⟩
  rw [World.cell?_of_block (w := w) (w' := w') (a := ⟨b, o + i, none⟩) (hb hn b rfl)]
  exact hc i u hu
/-- A slice of another's, that is read alone: its block's type is not told. -/
def ReadO {α : Type} (w : World) (p : List Value → α → Prop) (v : Value) (xs : List α) : Prop := ∃ css : List (List Value), Row w v xs.length css.flatten ∧ (xs ≠ [] → ∀ k, v.ownBlock = some k → k < w.heap.size) ∧ Each p css xs
theorem ReadO.mono {α : Type} {w : World} {p q : List Value → α → Prop} {v : Value} {xs : List α} (h : ReadO w p v xs) (hpq : ∀ c x, p c x → q c x) : ReadO w q v xs := by
  obtain ⟨css, h1, h2, h3⟩ := h
  exact ⟨css, h1, h2, h3.imp hpq⟩
theorem ReadO.lt {α : Type} {w : World} {p : List Value → α → Prop} {v : Value} {xs : List α} (h : ReadO w p v xs) (hn : xs ≠ []) : ∀ k, v.ownBlock = some k → k < w.heap.size := by
  obtain ⟨css, h1, h2, h3⟩ := h
  exact h2 hn
theorem ReadO.stay {α : Type} {w w' : World} {p : List Value → α → Prop} {v : Value} {xs : List α} (h : ReadO w p v xs) (hs : w.heap.size ≤ w'.heap.size) (hb : xs ≠ [] → ∀ k, v.ownBlock = some k → w'.heap[k]? = w.heap[k]?) : ReadO w' p v xs := by
  obtain ⟨css, h1, h2, h3⟩ := h
  refine ⟨css, h1.stayN (fun hn => hb fun hx => hn ?_), fun hn k hk => Nat.lt_of_lt_of_le (h2 hn k hk) hs, h3⟩
  have : css = [] := List.eq_nil_of_length_eq_zero (by rw [h3.1, hx]; rfl)
  rw [this]; rfl
theorem tl (l : B8) : (⟨l.toArray⟩ : ByteArray).toList = l := Lib.toList_data _

end Go.Proofs.YtdhgmpibjneplaaGreatDoor

/-! A region that draws its order and whose operations write: what holds of the world is said of each set of those operations that have been done. Conditions: each operation of the head goes on from each such set. -/
namespace Go.Proofs.YtdhgmpibjneplaaGreatDoor
open Go Go.RowKit

def getP (V : List (Value → Prop)) (k : Nat) : Value → Prop := V.getD k (fun _ => True)
/-- What the marked operations have handed back so far. -/
def zOf (K : List Bool) (listed : Array Bool) (xs : Nat → Value) : Nat → Option Value := fun j => if K.getD j false && listed.getD j false then some (xs j) else none
def zAll (K : List Bool) (xs : Nat → Value) : Nat → Option Value := fun j => if K.getD j false then some (xs j) else none
def zSet (z : Nat → Option Value) (k : Nat) (u : Value) : Nat → Option Value := fun j => if j = k then some u else z j
def knowsI (K : List Bool) (V : List (Value → Prop)) (z : Nat → Option Value) (xs : Nat → Value) : List Nat → Prop
  | [] => True
  | j :: l => (if K.getD j false then z j = some (xs j) else getP V j (xs j)) ∧ knowsI K V z xs l
theorem knowsI_of {K : List Bool} {V : List (Value → Prop)} {z : Nat → Option Value} {xs : Nat → Value} : ∀ {l : List Nat}, (∀ j ∈ l, if K.getD j false then z j = some (xs j) else getP V j (xs j)) → knowsI K V z xs l
  | [], _ => trivial
  | j :: l, h => ⟨h j (by simp), knowsI_of fun i hi => h i (by simp [hi])⟩

section
variable {P : Program} {J : (Nat → Option Value) → World → Prop}
def stepI (P : Program) (J : (Nat → Option Value) → World → Prop) (ops : Array Oper) (K : List Bool) (V : List (Value → Prop)) (head : List Oper) (a0 : Act) (k : Nat) (d : List Nat) (o : Oper) : Bool → Prop
  | true => ∀ (xs : Nat → Value) (z : Nat → Option Value) (w : World), J z w → z k = none → knowsI K V z xs d → ∀ R : Value → World → Prop, (∀ u w', J (zSet z k u) w' → R u w') →
    if Region.wanted o (yielded ops (fillFrom xs head 0 a0).tmps) then relUpon P R ((execOp (fillFrom xs head 0 a0).eval o).run P w) else R undef w
  | false => ∀ (xs : Nat → Value) (z : Nat → Option Value) (w : World), J z w → knowsI K V z xs d → ∀ R : Value → World → Prop, (∀ u w', J z w' → getP V k u → R u w') →
    if Region.wanted o (yielded ops (fillFrom xs head 0 a0).tmps) then relUpon P R ((execOp (fillFrom xs head 0 a0).eval o).run P w) else R undef w
def oblI (P : Program) (J : (Nat → Option Value) → World → Prop) (ops : Array Oper) (K : List Bool) (V : List (Value → Prop)) (D : List (List Nat)) (head : List Oper) (a0 : Act) : List Oper → List Bool → Nat → Prop
  | [], _, _ => True
  | _ :: _, [], _ => False
  | o :: l, b :: ks, k => stepI P J ops K V head a0 k (D.getD k []) o b ∧ oblI P J ops K V D head a0 l ks (k + 1)
theorem oblI_get {ops : Array Oper} {K : List Bool} {V : List (Value → Prop)} {D : List (List Nat)} {head : List Oper} {a0 : Act} :
    ∀ {l : List Oper} {ks : List Bool} {k : Nat}, oblI P J ops K V D head a0 l ks k → ∀ i o, l[i]? = some o → stepI P J ops K V head a0 (k + i) (D.getD (k + i) []) o (ks.getD i false)
  | [], _, _, _, i, o, h => by simp at h
  | _ :: _, [], _, h, _, _, _ => h.elim
  | p :: l, b :: ks, k, h, 0, o, ho => by
    have : p = o := by simpa using ho
    subst this
    simpa using h.1
  | p :: l, b :: ks, k, h, i + 1, o, ho => by
    have := oblI_get h.2 i o (by simpa using ho)
    rw [show k + 1 + i = k + (i + 1) by omega] at this
    simpa using this

structure IInv (J : (Nat → Option Value) → World → Prop) (ops : Array Oper) (n : Nat) (K : List Bool) (V : List (Value → Prop)) (a0 : Act) (listed : Array Bool) (a : Act) (w : World) : Prop where
  head : HeadInv .any ops n listed
  fill : ∃ xs : Nat → Value, a = fillFrom xs (ops.toList.take n) 0 a0 ∧ J (zOf K listed xs) w ∧ ∀ j, j < n → listed.getD j false = true → K.getD j false = false → getP V j (xs j)

theorem wpAny_inv {ops : Array Oper} {n : Nat} {K : List Bool} {V : List (Value → Prop)} {D : List (List Nat)} {a0 : Act} {Q : Exit → Act → World → Prop} (hK : K.length = n)
    (hB : relB ops n D = true) (hs : oblI P J ops K V D (ops.toList.take n) a0 (ops.toList.take n) K 0)
    (hQ : ∀ xs w, J (zAll K xs) w → (∀ j, j < n → K.getD j false = false → getP V j (xs j)) → wpList P ops Q (ops.toList.drop n) (fillFrom xs (ops.toList.take n) 0 a0) w) :
    ∀ (f : Nat) (listed : Array Bool) (a : Act) (w : World), left n listed = f → IInv J ops n K V a0 listed a w → wpAny P .any ops Q (f + (ops.size - n)) listed a w := by
  simp only [relB, Bool.and_eq_true, Bool.or_eq_true, decide_eq_true_eq] at hB
  obtain ⟨⟨⟨⟨⟨hn, hback⟩, hdeps⟩, hnd⟩, htail⟩, hseq⟩ := hB
  intro f
  induction f with
  | zero =>
    intro listed a w hl inv
    have hall := left_zero hl
    have hall2 : ∀ j, j < n → listed.getD j false = true := fun j hj => by
      have := hall j hj
      rwa [getD_of_size (by rw [inv.head.size]; omega) true false] at this
    have harr : listed = headArr ops.size n := by
      apply Array.ext_getElem?
      intro i
      have hsz := inv.head.size
      unfold headArr
      by_cases h1 : i < n
      · have := hall i h1
        have hi : i < listed.size := by omega
        simp only [hi, Array.getD_eq_getD_getElem?, Array.getElem?_eq_getElem, Option.getD_some] at this
        rw [Array.getElem?_append_left (by simpa using h1)]
        simp [hi, h1, this]
      · by_cases h2 : i < ops.size
        · have := inv.head.tail i (by omega) h2
          have hi : i < listed.size := by omega
          simp only [hi, Array.getD_eq_getD_getElem?, Array.getElem?_eq_getElem, Option.getD_some] at this
          rw [Array.getElem?_append_right (by simpa using h1)]
          simp only [hi, Array.getElem?_eq_getElem, this]
          rw [Array.getElem?_replicate, if_pos (by simp; omega)]
        · rw [Array.getElem?_eq_none (by omega), Array.getElem?_eq_none (by simp; omega)]
    obtain ⟨xs, ha, hj, hx⟩ := inv.fill
    have hz : zOf K listed xs = zAll K xs := by
      funext j
      unfold zOf zAll
      by_cases hjn : j < n
      · rw [hall2 j hjn, Bool.and_true]
      · have : K.getD j false = false := by
          rw [List.getD_eq_getElem?_getD, List.getElem?_eq_none (by omega)]; rfl
        rw [this, Bool.false_and]
    rw [hz] at hj
    have := hQ xs w hj (fun j hjn hkj => hx j hjn (hall2 j hjn) hkj)
    rw [← ha] at this
    rw [Nat.zero_add]
    have h2 := wpAny_of_seq (md := .any) (Q' := Q) (ops.toList.drop n) n listed a w (fun j => by simp [List.getElem?_drop]) (by rw [harr]; simpa using hseq) this
    simpa using h2
  | succ f ih =>
    intro listed a w hl inv
    rw [show f + 1 + (ops.size - n) = (f + (ops.size - n)) + 1 by omega]
    -- one of the head is yet to come
    have hex : ∃ i, i < n ∧ listed.getD i true = false := by
      have h1 : 0 < ((List.range n).filter fun i => !listed.getD i true).length := by unfold left at hl; omega
      obtain ⟨i, hi⟩ := List.exists_mem_of_length_pos h1
      simp only [List.mem_filter, List.mem_range] at hi
      exact ⟨i, hi.1, by simpa using hi.2⟩
    have hready : ∃ i, i < n ∧ i ∈ Region.ready .any ops listed := by
      obtain ⟨i, hi, hu⟩ := hex
      revert hi hu
      induction i using Nat.strongRecOn with
      | _ i ihh =>
        intro hi hu
        have hlt : i < ops.size := by omega
        by_cases hr : i ∈ Region.ready .any ops listed
        · exact ⟨i, hi, hr⟩
        · have ho : ops[i]? = some ops[i] := Array.getElem?_eq_getElem hlt
          have hb := List.all_eq_true.1 hback i (List.mem_range.2 hlt)
          rw [ho] at hb
          simp only [Option.map_some, Option.getD_some] at hb
          have : ∃ e ∈ ops[i].after, Region.binds .any e = true ∧ listed.getD e.on false = false := by
            apply Classical.byContradiction
            intro hno
            apply hr
            rw [mem_ready]
            refine ⟨hu, ops[i], ho, fun e he hbd => ?_⟩
            cases hq : listed.getD e.on false with
            | true => rfl
            | false => exact absurd ⟨e, he, hbd, hq⟩ hno
          obtain ⟨e, he, hbd, hq⟩ := this
          have hlt2 := Array.all_eq_true'.1 hb e he
          simp only [hbd, Bool.not_true, Bool.false_or, decide_eq_true_eq] at hlt2
          exact ihh e.on hlt2 (by omega) (getD_in (by rw [inv.head.size]; omega) hq)
    refine ⟨fun h0 => ?_, fun i hi => ?_⟩
    · obtain ⟨i, _, hr⟩ := hready
      rw [h0] at hr; cases hr
    · have hin : i < n := by
        rcases Nat.lt_or_ge i n with h | h
        · exact h
        · exfalso
          rcases htail with h2 | ⟨⟨hlt, hsk⟩, hch⟩
          · obtain ⟨_, o, ho, _⟩ := mem_ready.1 hi
            have := (Array.getElem?_eq_some_iff.1 ho).1
            omega
          · obtain ⟨j, hj, hu⟩ := hex
            exact tail_waits hsk hch hlt inv.head _ j rfl hj hu i h hi
      obtain ⟨hu, o, ho, hw⟩ := mem_ready.1 hi
      obtain ⟨xs, ha, hj, hx⟩ := inv.fill
      have hoi : (ops.toList.take n)[i]? = some o := by simp [hin, ho]
      have hst := oblI_get hs i o hoi
      rw [Nat.zero_add] at hst
      have hui : listed.getD i false = false := getD_both hu
      have hkn : knowsI K V (zOf K listed xs) xs (D.getD i []) := knowsI_of fun j hj => by
        have h1 := List.all_eq_true.1 hdeps i (List.mem_range.2 (by omega))
        have h2 := List.all_eq_true.1 h1 j hj
        obtain ⟨o', ho', e, he, hb, hon⟩ := Region.waitsFor_spec h2
        have : o' = o := Option.some.inj (ho'.symm.trans ho)
        subst this
        have h3 := hw e he hb
        rw [hon] at h3
        have hjn : j < n := by
          have hb1 := List.all_eq_true.1 hback i (List.mem_range.2 (by omega))
          rw [ho] at hb1
          simp only [Option.map_some, Option.getD_some] at hb1
          have h4 := Array.all_eq_true'.1 hb1 e he
          simp only [hb, Bool.not_true, Bool.false_or, decide_eq_true_eq] at h4
          omega
        cases hkj : K.getD j false with
        | true => simp only [if_true, zOf, hkj, h3, Bool.and_self]
        | false => simpa using hx j hjn h3 hkj
      have hnext : ∀ u w', J (zOf K (listed.setIfInBounds i true) (upd xs i u)) w' → (K.getD i false = false → getP V i u) → wpAny P .any ops Q (f + (ops.size - n)) (listed.setIfInBounds i true) (a.put o.dst u) w' := fun u w' h1 h2 => by
        refine ih (listed.setIfInBounds i true) (a.put o.dst u) w' ?_ ⟨inv.head.set hi hin, upd xs i u, ?_, h1, ?_⟩
        · have := left_set hin hu
          omega
        · rw [ha, fill_put xs u (ops.toList.take n) 0 i a0 o hnd hoi, Nat.zero_add]
        · intro j hjn hlj hkj
          by_cases hji : j = i
          · subst hji; simpa [upd] using h2 hkj
          · rw [getD_set_ne false (Ne.symm hji)] at hlj
            simp only [upd, hji, if_false]
            exact hx j hjn hlj hkj
      have hisz : i < listed.size := by
        obtain ⟨hi2, _⟩ := Array.getElem?_eq_some_iff.1 ho
        rw [inv.head.size]; exact hi2
      have hself : (listed.setIfInBounds i true).getD i false = true := by simp [hisz]
      cases hki : K.getD i false with
      | true =>
        rw [hki] at hst
        have hz0 : zOf K listed xs i = none := by simp only [zOf, hui, Bool.and_false, Bool.false_eq_true, if_false]
        have hzz : ∀ u, zOf K (listed.setIfInBounds i true) (upd xs i u) = zSet (zOf K listed xs) i u := fun u => by
          funext j
          by_cases hji : j = i
          · subst hji; simp only [zOf, zSet, hki, hself, Bool.and_self, if_true, upd]
          · simp only [zOf, zSet, hji, if_false, upd, getD_set_ne false (Ne.symm hji)]
        have hstep := hst xs _ w hj hz0 hkn (fun u w' => J (zSet (zOf K listed xs) i u) w') (fun u w' h => h)
        rw [← ha] at hstep
        have hres := wp_of_rel (P := P) (ops := ops) (Q := Q) (K := wpAny P .any ops Q (f + (ops.size - n)) (listed.setIfInBounds i true)) (fun u w' h => hnext u w' (by rw [hzz]; exact h) (fun h => by rw [hki] at h; cases h)) hstep
        unfold wpOp
        simp only [ho]
        exact hres
      | false =>
        rw [hki] at hst
        have hzz : ∀ u, zOf K (listed.setIfInBounds i true) (upd xs i u) = zOf K listed xs := fun u => by
          funext j
          by_cases hji : j = i
          · subst hji; simp only [zOf, hki, Bool.false_and, Bool.false_eq_true, if_false]
          · simp only [zOf, hji, if_false, upd, getD_set_ne false (Ne.symm hji)]
        have hstep := hst xs _ w hj hkn (fun u w' => J (zOf K listed xs) w' ∧ getP V i u) (fun u w' h h2 => ⟨h, h2⟩)
        rw [← ha] at hstep
        have hres := wp_of_rel (P := P) (ops := ops) (Q := Q) (K := wpAny P .any ops Q (f + (ops.size - n)) (listed.setIfInBounds i true)) (fun u w' h => hnext u w' (by rw [hzz]; exact h.1) (fun _ => h.2)) hstep
        unfold wpOp
        simp only [ho]
        exact hres

/-- Of each operation that is not marked: a value ('none': the one of the list), or what is known of it. -/
def mixP : List Value → List (Option (Value → Prop)) → List (Value → Prop)
  | c :: cs, none :: l => (fun u => u = c) :: mixP cs l
  | _ :: cs, some V :: l => V :: mixP cs l
  | _, _ => []
def heldI : List Bool → List Value → List (Option (Value → Prop)) → Nat → (Nat → Value) → Prop
  | true :: ks, _ :: cs, _ :: l, k, xs => heldI ks cs l (k + 1) xs
  | false :: ks, c :: cs, none :: l, k, xs => xs k = c ∧ heldI ks cs l (k + 1) xs
  | false :: ks, _ :: cs, some V :: l, k, xs => V (xs k) ∧ heldI ks cs l (k + 1) xs
  | _, _, _, _, _ => True
theorem heldI_of (xs : Nat → Value) : ∀ (ks : List Bool) (cs : List Value) (l : List (Option (Value → Prop))) (k : Nat), (∀ j, j < ks.length → ks.getD j false = false → getP (mixP cs l) j (xs (k + j))) → heldI ks cs l k xs := by
  intro ks
  induction ks with
  | nil => intro cs l k _; simp [heldI]
  | cons b ks ih =>
    intro cs l k h
    cases cs with
    | nil => cases b <;> simp [heldI]
    | cons c cs =>
      cases l with
      | nil => cases b <;> simp [heldI]
      | cons o l =>
        have hr : heldI ks cs l (k + 1) xs := ih cs l (k + 1) fun j hj hk => by
          have := h (j + 1) (by simp; omega) (by simpa using hk)
          rw [show k + (j + 1) = k + 1 + j by omega] at this
          cases o <;> simpa [getP, mixP] using this
        cases b with
        | true => simpa [heldI] using hr
        | false =>
          have h0 := h 0 (by simp) (by simp)
          cases o with
          | none => exact ⟨by simpa [getP, mixP] using h0, hr⟩
          | some V => exact ⟨by simpa [getP, mixP] using h0, hr⟩

/-- A region that draws its order: its head by each operation alone, its tail in the text's order. -/
theorem wp_region_inv {id : Nat} {Q : Exit → Act → World → Prop} {a : Act} {w : World} {l : List Oper} (n : Nat) (J : (Nat → Option Value) → World → Prop) (K : List Bool) (cs : List Value) (W : List (Option (Value → Prop))) (D : List (List Nat))
    (hm : P.follows .mixedOrders = true) (hB : relB l.toArray n D = true) (hK : K.length = n) (hJ : J (fun _ => none) { w with drawn := w.drawn + 1 })
    (hs : oblI P J l.toArray K (mixP cs W) D (l.take n) a (l.take n) K 0)
    (hQ : ∀ xs w', J (zAll K xs) w' → heldI K cs W 0 xs → wpList P l.toArray Q (l.drop n) (fillFrom xs (l.take n) 0 a) w') :
    (Code.region id l.toArray true).wp P Q a w := by
  refine wp_region_any hm ?_
  have hn : n ≤ l.toArray.size := by
    simp only [relB, Bool.and_eq_true, decide_eq_true_eq] at hB
    exact hB.1.1.1.1.1
  obtain ⟨xs0, h0⟩ := fill_self (l.take n) 0 a
  have hl : left n (Array.replicate l.toArray.size false) = n := by
    unfold left
    rw [List.filter_eq_self.2]
    · simp
    · intro i hi
      have : i < l.toArray.size := by have := List.mem_range.1 hi; omega
      simp at this
      simp [this]
  have hz0 : zOf K (Array.replicate l.toArray.size false) xs0 = fun _ => none := by
    funext j
    unfold zOf
    rw [getD_replicate_false, Bool.and_false]
    rfl
  have H := wpAny_inv (P := P) (J := J) (Q := Q) (a0 := a) hK hB (by simpa using hs) (by
      intro xs w' h1 h2
      have := hQ xs w' h1 (heldI_of xs K cs W 0 fun j hj hk => by rw [Nat.zero_add]; exact h2 j (by omega) hk)
      simpa using this) n (Array.replicate l.toArray.size false) a { w with drawn := w.drawn + 1 } hl
    ⟨⟨by simp, fun j oj _ hl => (by rw [getD_replicate_false] at hl; cases hl), fun t _ ht => getD_in (by simpa using ht) (getD_replicate_false _ _)⟩,
      xs0, by simpa using (h0 xs0 (fun _ _ => rfl)).symm, by rw [hz0]; exact hJ, fun j _ hl => (by rw [getD_replicate_false] at hl; cases hl)⟩
  rw [show n + (l.toArray.size - n) = l.toArray.size by omega] at H
  exact H
end

end Go.Proofs.YtdhgmpibjneplaaGreatDoor

/-! marref5: without, with: lists of files in new blocks. Conditions: at most 10000000 files; short paths. -/
namespace Go.Proofs.YtdhgmpibjneplaaGreatDoor
open Go Go.RowKit

theorem Each.len {α : Type} {p : List Value → α → Prop} {css : List (List Value)} {xs : List α} (h : Each p css xs) {n : Nat} (hp : ∀ c x, p c x → c.length = n) : ∀ c ∈ css, c.length = n := fun c hc => by
  obtain ⟨i, hi, rfl⟩ := List.mem_iff_getElem.1 hc
  have hi2 : i < xs.length := by rw [← h.1]; exact hi
  exact hp _ _ (h.2 i css[i] xs[i] (List.getElem?_eq_getElem hi) (List.getElem?_eq_getElem hi2))
theorem Each.one {α : Type} {p : List Value → α → Prop} {css : List (List Value)} {xs : List α} (h : Each p css xs) (hp : ∀ c x, p c x → c.all (·.oneCell') = true) : ∀ u ∈ css.flatten, u.oneCell' = true := fun u hu => by
  obtain ⟨c, hc, hu⟩ := List.mem_flatten.1 hu
  obtain ⟨i, hi, rfl⟩ := List.mem_iff_getElem.1 hc
  have hi2 : i < xs.length := by rw [← h.1]; exact hi
  exact List.all_eq_true.1 (hp _ _ (h.2 i css[i] xs[i] (List.getElem?_eq_getElem hi) (List.getElem?_eq_getElem hi2))) u hu
theorem Each.take {α : Type} {p : List Value → α → Prop} {css : List (List Value)} {xs : List α} (h : Each p css xs) (k : Nat) : Each p (css.take k) (xs.take k) := by
  refine ⟨by simp [h.1], fun i c x hc hx => ?_⟩
  rw [List.getElem?_take] at hc hx
  split at hc
  · rename_i hi
    rw [if_pos hi] at hx
    exact h.2 i c x hc hx
  · cases hc
theorem Each.drop {α : Type} {p : List Value → α → Prop} {css : List (List Value)} {xs : List α} (h : Each p css xs) (k : Nat) : Each p (css.drop k) (xs.drop k) := by
  refine ⟨by simp [h.1], fun i c x hc hx => ?_⟩
  rw [List.getElem?_drop] at hc hx
  exact h.2 _ c x hc hx
theorem Each.append {α : Type} {p : List Value → α → Prop} {css ds : List (List Value)} {xs ys : List α} (h : Each p css xs) (k : Each p ds ys) : Each p (css ++ ds) (xs ++ ys) := by
  refine ⟨by simp [h.1, k.1], fun i c x hc hx => ?_⟩
  rw [List.getElem?_append] at hc hx
  by_cases hi : i < css.length
  · rw [if_pos hi] at hc
    rw [if_pos (by rw [← h.1]; exact hi)] at hx
    exact h.2 i c x hc hx
  · rw [if_neg hi] at hc
    rw [if_neg (by rw [← h.1]; exact hi)] at hx
    rw [← h.1] at hx
    exact k.2 _ c x hc hx
section
variable {ops : Array Oper} {rest : List Oper} {o : Oper} {a : Act} {Q : Exit → Act → World → Prop} {w : World}
end
end Go.Proofs.YtdhgmpibjneplaaGreatDoor

/-! marref5: with: a file put in its place, in a new list. Conditions: at most 10000000 files; short paths. -/
namespace Go.Proofs.YtdhgmpibjneplaaGreatDoor
open Go Go.RowKit

section
variable {w0 : World} {nA nC : Nat} {A rowc C : List Value} {z0 z4 z8 z9 z13 : Option Value} {w w' : World} {u : Value}
end

theorem less_ltB : ∀ a b : B8, Op.bytesLess a b = ltB a b
  | [], [] => by simp [Op.bytesLess, ltB]
  | _ :: _, [] => by simp [Op.bytesLess, ltB]
  | [], _ :: _ => by simp [Op.bytesLess, ltB]
  | a :: r, b :: s => by
    rw [Op.bytesLess, less_ltB r s]
    unfold ltB
    rw [Bool.eq_iff_iff]
    simp [List.cons_lt_cons_iff]
theorem Row.takeN {w : World} {a : Option Addr} {n k cap : Nat} {cs : List Value} (m : Nat) (h : Row w (.slice a n cap) n cs) (hk : k ≤ n) (hl : cs.length = n * m) : Row w (.slice a k cap) k (cs.take (k * m)) := by
  obtain ⟨a', cap', he, h1, h2, h3, h4⟩ := h
  simp only [Value.slice.injEq, true_and] at he
  obtain ⟨rfl, rfl⟩ := he
  refine ⟨a, cap, rfl, by omega, h2, by omega, fun hne => ?_⟩
  obtain ⟨b, o, ha, hc⟩ := h4 (by rintro rfl; simp at hne)
  refine ⟨b, o, ha, fun i u hu => hc i u ?_⟩
  rw [List.getElem?_take] at hu
  split at hu
  · exact hu
  · cases hu
theorem Row.dropN {w : World} {b n k cap : Nat} {cs : List Value} (m : Nat) (h : Row w (.slice (some ⟨b, 0, none⟩) n cap) n cs) (hk : k ≤ n) (hl : cs.length = n * m) : Row w (.slice (some ⟨b, k * m, none⟩) (n - k) (cap - k)) (n - k) (cs.drop (k * m)) := by
  obtain ⟨a', cap', he, h1, h2, h3, h4⟩ := h
  simp only [Value.slice.injEq, true_and] at he
  obtain ⟨rfl, rfl⟩ := he
  refine ⟨_, _, rfl, by omega, by omega, by omega, fun hne => ⟨b, k * m, rfl, fun i u hu => ?_⟩⟩
  obtain ⟨b', o, ha, hc⟩ := h4 (by rintro rfl; simp at hne)
  cases ha
  rw [List.getElem?_drop] at hu
  have := hc _ u hu
  rwa [Nat.zero_add] at this

theorem Row.dropIf {w : World} {b n k cap : Nat} {cs : List Value} (m : Nat) (h : Row w (.slice (some ⟨b, 0, none⟩) n cap) n cs) (hk : k ≤ n) (hl : cs.length = n * m) : Row w (.slice (if cap = k then some ⟨b, 0, none⟩ else some ⟨b, k * m, none⟩) (n - k) (cap - k)) (n - k) (cs.drop (k * m)) := by
  have hd := h.dropN m hk hl
  split
  · rename_i hc
    obtain ⟨a', cap', he, h1, h2, h3, h4⟩ := h
    simp only [Value.slice.injEq, true_and] at he
    obtain ⟨rfl, rfl⟩ := he
    refine ⟨_, _, rfl, by omega, by omega, by omega, fun hne => ?_⟩
    exfalso
    apply hne
    rw [List.drop_eq_nil_iff, hl]
    exact Nat.mul_le_mul_right _ (by omega)
  · exact hd
/-- append, as an operation of a region. -/
theorem rel_append {c : Prop} [Decidable c] {ev : Operand → Value} {R : Value → World → Prop} {o : Oper} {w : World} (s x : Operand) (t : TypeId) {v xv v' : Value} {w' : World} (hw : c) (ho : o.op = .call { callee := .builtin .append, args := #[s, x], argTypes := #[t, t] }) 
    (hs : ev s = v) (hx : ev x = xv) (hr : (Builtin.append_ #[t, t] o.type #[v, xv]).run Tryz.prog w = .ok v' w') (h : R v' w') :
    if c then relUpon Tryz.prog R ((execOp ev o).run Tryz.prog w) else R undef w := by
  rw [if_pos hw]
  unfold execOp
  simp only [ho, resolve, invoke, builtin, Sem.run_bind, Sem.run_pure, Result.andThen_ok, List.map_toArray, List.map_cons, List.map_nil, hs, hx, hr]
  exact h

end Go.Proofs.YtdhgmpibjneplaaGreatDoor

/-! sha: words turned; the schedule of a block. Conditions: as each theorem states. -/
namespace Go.Proofs.YtdhgmpibjneplaaGreatDoor
open Go Go.RowKit

theorem sub_of (s : Nat) (hs : s < 32) : (32 : UInt32) - UInt32.ofNat s = UInt32.ofNat (32 - s) := by
  apply UInt32.toNat_inj.1
  have h1 : (UInt32.ofNat s).toNat = s := by simp; omega
  have h2 : (UInt32.ofNat (32 - s)).toNat = 32 - s := by simp; omega
  rw [UInt32.toNat_sub_of_le _ _ (by rw [UInt32.le_iff_toNat_le, h1]; show s ≤ 32; omega), h1, h2]
  rfl
set_option maxRecDepth 100000 in
theorem rotl_any (x : UInt32) (k s : Nat) (w : World) (hs0 : 0 < s) (hs : s < 32) (hb : bits BinOp.and IntKind.u64 (IntKind.u64.wrap (-(k : Int))) 31 = (s : Int)) :
    Calls Tryz.prog 215 #[U32 x, .int .i64 (-(k : Int))] w fun e w' => e = .returned (U32 (rotl x (UInt32.ofNat s))) ∧ w' = w := by
  have h1 : (0 : Int) ≤ (s : Int) := by omega
  have h2 : (s : Int) ≤ 32 := by omega
  have h3 : IntKind.u64.wrap (32 - (s : Int)) = ((32 - s : Nat) : Int) := by rw [IntWalk.u64_in _ (by omega)]; omega
  have h4 : (0 : Int) ≤ ((32 - s : Nat) : Int) := by omega
  have h5 : ((32 - s : Nat) : Int) ≤ 32 := by omega
  have HV : Hid (Value.int IntKind.u32 (bits BinOp.or IntKind.u32 (↑x.toNat * 2 ^ s % 4294967296) (↑x.toNat / 2 ^ (32 - s))) = U32 (rotl x (UInt32.ofNat s))) := by
    unfold Hid rotl
    rw [shl32 x s hs, shr32 x (32 - s) (by omega), bits_or32, sub_of s hs]
  go_enter Tryz.func215, Tryz.ntmps215
  go_wp2
  go_ret
  exact ⟨congrArg Ending.returned HV.out, rfl⟩
theorem rot6 (x : UInt32) (w : World) : Calls Tryz.prog 215 #[U32 x, .int .i64 (-6)] w fun e w' => e = .returned (U32 (rotl x 26)) ∧ w' = w := rotl_any x 6 26 w (by decide) (by decide) (by decide +kernel)
theorem rot11 (x : UInt32) (w : World) : Calls Tryz.prog 215 #[U32 x, .int .i64 (-11)] w fun e w' => e = .returned (U32 (rotl x 21)) ∧ w' = w := rotl_any x 11 21 w (by decide) (by decide) (by decide +kernel)
theorem rot25 (x : UInt32) (w : World) : Calls Tryz.prog 215 #[U32 x, .int .i64 (-25)] w fun e w' => e = .returned (U32 (rotl x 7)) ∧ w' = w := rotl_any x 25 7 w (by decide) (by decide) (by decide +kernel)
theorem rot2 (x : UInt32) (w : World) : Calls Tryz.prog 215 #[U32 x, .int .i64 (-2)] w fun e w' => e = .returned (U32 (rotl x 30)) ∧ w' = w := rotl_any x 2 30 w (by decide) (by decide) (by decide +kernel)
theorem rot13 (x : UInt32) (w : World) : Calls Tryz.prog 215 #[U32 x, .int .i64 (-13)] w fun e w' => e = .returned (U32 (rotl x 19)) ∧ w' = w := rotl_any x 13 19 w (by decide) (by decide) (by decide +kernel)
theorem rot22 (x : UInt32) (w : World) : Calls Tryz.prog 215 #[U32 x, .int .i64 (-22)] w fun e w' => e = .returned (U32 (rotl x 10)) ∧ w' = w := rotl_any x 22 10 w (by decide) (by decide) (by decide +kernel)
theorem rot7 (x : UInt32) (w : World) : Calls Tryz.prog 215 #[U32 x, .int .i64 (-7)] w fun e w' => e = .returned (U32 (rotl x 25)) ∧ w' = w := rotl_any x 7 25 w (by decide) (by decide) (by decide +kernel)
theorem rot18 (x : UInt32) (w : World) : Calls Tryz.prog 215 #[U32 x, .int .i64 (-18)] w fun e w' => e = .returned (U32 (rotl x 14)) ∧ w' = w := rotl_any x 18 14 w (by decide) (by decide) (by decide +kernel)
theorem rot17 (x : UInt32) (w : World) : Calls Tryz.prog 215 #[U32 x, .int .i64 (-17)] w fun e w' => e = .returned (U32 (rotl x 15)) ∧ w' = w := rotl_any x 17 15 w (by decide) (by decide) (by decide +kernel)
theorem rot19 (x : UInt32) (w : World) : Calls Tryz.prog 215 #[U32 x, .int .i64 (-19)] w fun e w' => e = .returned (U32 (rotl x 13)) ∧ w' = w := rotl_any x 19 13 w (by decide) (by decide) (by decide +kernel)

end Go.Proofs.YtdhgmpibjneplaaGreatDoor

/-! sha.schedule: a block's words, spread over the rounds. Conditions: a block of 64 bytes. -/
namespace Go.Proofs.YtdhgmpibjneplaaGreatDoor
open Go Go.RowKit

/-- A block of n cells that hold words. -/
def wordsC (l : List UInt32) (n : Nat) : Array Value := ((l ++ List.replicate (n - l.length) 0).map U32).toArray
theorem wordsC_size {l : List UInt32} {n : Nat} (h : l.length ≤ n) : (wordsC l n).size = n := by
  unfold wordsC
  simp
  omega
theorem wordsC_get {l : List UInt32} {n i : Nat} (h : i < l.length) : (wordsC l n)[i]? = some (U32 (l.getD i 0)) := by
  unfold wordsC
  simp [List.getElem?_append, h, List.getD_eq_getElem?_getD]
theorem wordsC_put {l : List UInt32} {n : Nat} (x : UInt32) (h : l.length < n) : wordsC (l ++ [x]) n = ((wordsC l n).toList.take l.length ++ [U32 x] ++ (wordsC l n).toList.drop (l.length + 1)).toArray := by
  unfold wordsC
  apply Array.ext'
  simp only [List.toList_toArray, List.map_append, List.map_cons, List.map_nil]
  rw [List.take_left' (by simp), show n - l.length = (n - (l ++ [x]).length) + 1 by simp; omega, List.replicate_succ, List.map_cons, List.append_assoc, List.append_assoc]
  congr 1
  rw [List.drop_append, List.length_map, show l.length + 1 - l.length = 1 by omega, List.drop_eq_nil_of_le (by simp)]
  simp
theorem wordsC_full {l : List UInt32} {n : Nat} (h : l.length = n) : wordsC l n = (l.map U32).toArray := by
  unfold wordsC
  rw [show n - l.length = 0 by omega]
  simp
theorem words_cell {w : World} {g : Nat} {l : List UInt32} {n i : Nat} {t : TypeId} {fr : Nat × Nat} (hg : w.heap[g]? = some (.cells (wordsC l n) t fr)) (h : i < l.length) : w.cell? ⟨g, i, none⟩ = some (U32 (l.getD i 0)) :=
  (cell_of_row w g i _ _ _ hg).trans (wordsC_get h)
theorem info_u32 : (Tryz.prog.info? 205).map (·.size) = some 1 := by kernel_rfl
theorem conv_u32 (y : UInt8) : Value.int .u32 (IntKind.u32.wrap (y.toNat : Int)) = U32 y.toUInt32 := by
  have := y.toNat_lt
  rw [wrap_u32 _ (by omega)]
  simp [U32]
theorem shl24 (x : UInt32) : Value.int .u32 (IntKind.u32.wrap ((x.toNat : Int) * 16777216)) = U32 (x <<< 24) := by
  have h := shl32 x 24 (by decide)
  have e : IntKind.u32.wrap ((x.toNat : Int) * 16777216) = ((x.toNat : Int) * 16777216) % 4294967296 := by rw [IntKind.wrap_u32]
  rw [e]
  exact congrArg _ h
theorem shl16 (x : UInt32) : Value.int .u32 (IntKind.u32.wrap ((x.toNat : Int) * 65536)) = U32 (x <<< 16) := by
  have h := shl32 x 16 (by decide)
  have e : IntKind.u32.wrap ((x.toNat : Int) * 65536) = ((x.toNat : Int) * 65536) % 4294967296 := by rw [IntKind.wrap_u32]
  rw [e]
  exact congrArg _ h
theorem shl8 (x : UInt32) : Value.int .u32 (IntKind.u32.wrap ((x.toNat : Int) * 256)) = U32 (x <<< 8) := by
  have h := shl32 x 8 (by decide)
  have e : IntKind.u32.wrap ((x.toNat : Int) * 256) = ((x.toNat : Int) * 256) % 4294967296 := by rw [IntKind.wrap_u32]
  rw [e]
  exact congrArg _ h
theorem or_u32 (x y : UInt32) : Value.int .u32 (bits .or .u32 (x.toNat : Int) (y.toNat : Int)) = U32 (x ||| y) := congrArg _ (bits_or32 x y)
theorem add_u32 (x y : UInt32) : Value.int .u32 (((x.toNat : Int) + (y.toNat : Int)) % 4294967296) = U32 (x + y) := congrArg _ (add32 x y)
theorem sched_snoc (b : B8) (k : Nat) : wSched b (k + 1) = wSched b k ++ [if k < 16 then be4 b k else wNext (wSched b k) k] := rfl

section
variable {ops : Array Oper} {rest : List Oper} {o : Oper} {a : Act} {Q : Exit → Act → World → Prop} {w : World}
/-- A store of all cells of a block known whole. -/
theorem store_all (hgd : o.guard = none) (ty : TypeId) (x y : Operand) (ho : o.op = .store ty x y) (g j : Nat) (hx : a.eval x = .pointer (some ⟨g, j, none⟩)) (vs : Array Value) (hy : a.eval y = .agg vs) (h1 : ∀ v ∈ vs.toList, v.oneCell' = true)
    (t : TypeId) (cur : Array Value) (hg : w.heap[g]? = some (.cells cur t (0, 0))) (hj : j + vs.size ≤ cur.size) (hi : (Tryz.prog.info? ty).map (·.size) = some vs.size) (new : Array Value) (hnew : new = (cur.toList.take j ++ vs.toList ++ cur.toList.drop (j + vs.size)).toArray)
    (h : ∀ w', w'.heap[g]? = some (.cells new t (0, 0)) → w.grownBy w' (some g) → wpList Tryz.prog ops Q rest (a.put o.dst undef) w') : wpList Tryz.prog ops Q (o :: rest) a w :=
  wpList_plain hgd fun _ hK => by
    have hs := run_storeCells_at (P := Tryz.prog) g j t vs.toList 0 cur w hg (by simpa using hj) h1
    have hr : (storeVar ty ⟨g, j, none⟩ (.agg vs)).run Tryz.prog w = .ok () (w.setRow g new) := by
      cases hq : Tryz.prog.info? ty with
      | none => simp [hq] at hi
      | some i =>
        have hs1 : i.size = vs.size := by simpa [hq] using hi
        simp only [Nat.add_zero, Array.length_toList] at hs
        rw [hnew]
        simp [storeVar, sizeOf, typeInfo, hq, Value.cells, hs1, hs]
    unfold Oper.wp execOp
    simp only [ho, hx, hy, Instr.storeAt, Instr.sureAddr, Sem.run_bind, Sem.run_pure, Result.andThen_ok, hr]
    exact hK _ _ (h _ (setRow_heap _ _ _ _ _ _ hg) (setRow_grown _ _ _))
end
theorem size_a64 : (Tryz.prog.info? 234).map (·.size) = some 64 := by kernel_rfl
theorem size_a8 : (Tryz.prog.info? 233).map (·.size) = some 8 := by kernel_rfl
theorem u32s_one (l : List UInt32) : ∀ v ∈ (l.map U32).toArray.toList, v.oneCell' = true := by
  intro v hv
  obtain ⟨x, -, rfl⟩ := List.mem_map.1 (by simpa using hv)
  rfl
theorem addw_u32 (x y : UInt32) : Value.int .u32 (IntKind.u32.wrap ((x.toNat : Int) + (y.toNat : Int))) = U32 (x + y) := by
  rw [IntKind.wrap_u32]
  exact add_u32 x y
/-- What the loop holds. -/
structure Sch (w wr : World) (b : B8) (k : Nat) : Prop where
  ext : Ext w wr
  now : wr.heap[w.heap.size + 1]? = some (.cells (wordsC (wSched b k) 64) 234 (0, 0))
  res : wr.heap[w.heap.size]? = some (.cells (wordsC [] 64) 234 (0, 0))
theorem Sch.more {w wr w2 : World} {b : B8} {k : Nat} (h : Sch w wr b k) (hx : Ext wr w2) : Sch w w2 b k := ⟨h.ext.trans hx, Ext.row hx h.now, Ext.row hx h.res⟩
theorem Sch.put {w wr w2 : World} {b : B8} {k : Nat} (h : Sch w wr b k) (hg : w2.heap[w.heap.size + 1]? = some (.cells (wordsC (wSched b (k + 1)) 64) 234 (0, 0))) (hgr : wr.grownBy w2 (some (w.heap.size + 1))) : Sch w w2 b (k + 1) :=
  ⟨Below.grown h.ext hgr h.ext.size (fun j hj => by cases hj; omega), hg, (hgr.block _ (Array.getElem?_eq_some_iff.1 h.res).1 (by simp)).trans h.res⟩

set_option maxRecDepth 100000 in
set_option maxHeartbeats 4000000 in
theorem schedule_any (v : Value) (b : B8) (w : World) (hv : IsBytes w v b) (hb : b.length = 64) :
    Calls Tryz.prog 214 #[v] w fun e w' => e = .returned (.agg ((wSched b 64).map U32).toArray) ∧ Ext w w' := by
  obtain ⟨a, cap, rfl, h1, h2, h3, h4⟩ := hv.get
  have H4 : Hid _ := h4
  have H64 : Hid _ := hb
  clear h4 hv hb
  go_enter Tryz.func214, Tryz.ntmps214
  go_wp2_with fail
  go_loopw [9] (fun i wr => ∃ k : Nat, k ≤ 64 ∧ i = .int .i64 k ∧ Sch w wr b k) (fun i _ => 64 - (intOf i).toNat)
  case atStart => exact ⟨0, by omega, rfl, ((Ext.refl _).alloc _).alloc _, by have h9 := alloc_at1 w (.cells (wordsC [] 64) 234) (.cells (wordsC [] 64) 234); exact h9, by have h9 := Ext.row ((Ext.refl _).alloc (.cells (wordsC [] 64) 234)) (alloc_at w (.cells (wordsC [] 64) 234)); exact h9⟩
  case round =>
    obtain ⟨k, hk, rfl, hS⟩ := hrel
    have HS : Hid _ := hS
    have hsl := sched_len b k
    clear hS
    by_cases hlt : k < 16
    · obtain ⟨bb, oo, rfl, hc⟩ := H4.out (4 * k) (by have := H64.out; omega)
      have hx := HS.out.ext
      have d0 := hx.cell (hc (4 * k) (by have := H64.out; omega))
      have d1 := hx.cell (hc (4 * k + 1) (by have := H64.out; omega))
      have d2 := hx.cell (hc (4 * k + 2) (by have := H64.out; omega))
      have d3 := hx.cell (hc (4 * k + 3) (by have := H64.out; omega))
      obtain ⟨y0, hy0⟩ : ∃ y, b.getD (4 * k) 0 = y := ⟨_, rfl⟩
      obtain ⟨y1, hy1⟩ : ∃ y, b.getD (4 * k + 1) 0 = y := ⟨_, rfl⟩
      obtain ⟨y2, hy2⟩ : ∃ y, b.getD (4 * k + 2) 0 = y := ⟨_, rfl⟩
      obtain ⟨y3, hy3⟩ : ∃ y, b.getD (4 * k + 3) 0 = y := ⟨_, rfl⟩
      rw [hy0] at d0
      rw [hy1] at d1
      rw [hy2] at d2
      rw [hy3] at d3
      have HSN : Hid (wSched b (k + 1) = wSched b k ++ [(((y0.toUInt32 <<< 24) ||| (y1.toUInt32 <<< 16)) ||| (y2.toUInt32 <<< 8)) ||| y3.toUInt32]) := by
        unfold Hid
        rw [sched_snoc, if_pos hlt]
        unfold be4
        rw [hy0, hy1, hy2, hy3]
      clear hy0 hy1 hy2 hy3 hc hx
      obtain ⟨x0, hx0⟩ : ∃ x, y0.toUInt32 = x := ⟨_, rfl⟩
      obtain ⟨x1, hx1⟩ : ∃ x, y1.toUInt32 = x := ⟨_, rfl⟩
      obtain ⟨x2, hx2⟩ : ∃ x, y2.toUInt32 = x := ⟨_, rfl⟩
      obtain ⟨x3, hx3⟩ : ∃ x, y3.toUInt32 = x := ⟨_, rfl⟩
      rw [hx0, hx1, hx2, hx3] at HSN
      have HX0 : Hid _ := hx0
      have HX1 : Hid _ := hx1
      have HX2 : Hid _ := hx2
      have HX3 : Hid _ := hx3
      clear hx0 hx1 hx2 hx3
      have n0 : 4 * (k : Int) < (b.length : Int) := by have := H64.out; omega
      have n1 : 4 * (k : Int) + 1 < (b.length : Int) := by have := H64.out; omega
      have n2 : 4 * (k : Int) + 2 < (b.length : Int) := by have := H64.out; omega
      have n3 : 4 * (k : Int) + 3 < (b.length : Int) := by have := H64.out; omega
      have W0 : Hid (IntKind.i64.wrap (4 * (k : Int)) = 4 * (k : Int) ∧ (4 * (k : Int)).toNat = 4 * k) := ⟨IntWalk.i64_in _ (by omega), by omega⟩
      have W1 : Hid (IntKind.i64.wrap (4 * (k : Int) + 1) = 4 * (k : Int) + 1 ∧ (4 * (k : Int) + 1).toNat = 4 * k + 1) := ⟨IntWalk.i64_in _ (by omega), by omega⟩
      have W2 : Hid (IntKind.i64.wrap (4 * (k : Int) + 2) = 4 * (k : Int) + 2 ∧ (4 * (k : Int) + 2).toNat = 4 * k + 2) := ⟨IntWalk.i64_in _ (by omega), by omega⟩
      have W3 : Hid (IntKind.i64.wrap (4 * (k : Int) + 3) = 4 * (k : Int) + 3 ∧ (4 * (k : Int) + 3).toNat = 4 * k + 3) := ⟨IntWalk.i64_in _ (by omega), by omega⟩
      go_wp2_with fail
      apply wp_region_mix 35 [_, _, _, _, .pointer (some ⟨bb, oo + 4 * k, none⟩), .int .u8 y0.toNat, U32 x0, U32 (x0 <<< 24), _, _, _, _, .pointer (some ⟨bb, oo + (4 * k + 1), none⟩), .int .u8 y1.toNat, U32 x1, U32 (x1 <<< 16), U32 ((x0 <<< 24) ||| (x1 <<< 16)), _, _, _, _, .pointer (some ⟨bb, oo + (4 * k + 2), none⟩), .int .u8 y2.toNat, U32 x2, U32 (x2 <<< 8), U32 (((x0 <<< 24) ||| (x1 <<< 16)) ||| (x2 <<< 8)), _, _, _, _, .pointer (some ⟨bb, oo + (4 * k + 3), none⟩), .int .u8 y3.toNat, U32 x3, U32 ((((x0 <<< 24) ||| (x1 <<< 16)) ||| (x2 <<< 8)) ||| x3), .pointer (some ⟨w.heap.size + 1, k, none⟩)] [none, none, none, none, none, none, none, none, none, none, none, none, none, none, none, none, none, none, none, none, none, none, none, none, none, none, none, none, none, none, none, none, none, none, none] [[], [], [], [2], [1, 3], [4], [5], [6], [], [], [9], [10], [8, 11], [12], [13], [14], [7, 15], [], [], [18], [19], [17, 20], [21], [22], [23], [16, 24], [], [], [27], [28], [26, 29], [30], [31], [25, 32], [0]] (by kernel_rfl) (by kernel_rfl) (by simp [mixV])
      · trivial
      · simp (maxSteps := 1000000) only [List.take_succ_cons, List.take_zero, oblFrom, stepObl, fillFrom, Act.put, List.setIfInBounds_toArray, List.set_cons_zero, List.set_cons_succ, knows, getV, mixV, List.getD_cons_zero, List.getD_cons_succ, and_true, true_and, forall_const]
        refine ⟨?_, ?_, ?_, ?_, ?_, ?_, ?_, ?_, ?_, ?_, ?_, ?_, ?_, ?_, ?_, ?_, ?_, ?_, ?_, ?_, ?_, ?_, ?_, ?_, ?_, ?_, ?_, ?_, ?_, ?_, ?_, ?_, ?_, ?_, ?_⟩
        · intro xs wq hq R hR
          go_simp
          exact hR _ _ (Ext.refl _) rfl
        · intro xs wq hq R hR
          go_simp
          exact hR _ _ (Ext.refl _) rfl
        · intro xs wq hq R hR
          go_simp
          exact hR _ _ (Ext.refl _) rfl
        · intro xs wq hq hk R hR
          go_simp
          exact hR _ _ (Ext.refl _) rfl
        · intro xs wq hq hk R hR
          obtain ⟨hk0, hk1⟩ := hk
          go_simp
          simp only [W0.out.1]
          rw [if_pos ⟨by omega, by omega⟩, W0.out.2]
          exact hR _ _ (Ext.refl _) rfl
        · intro xs wq hq hk R hR
          have f0 := hq.cell d0
          go_simp
          exact hR _ _ (Ext.refl _) rfl
        · intro xs wq hq hk R hR
          go_simp
          exact hR _ _ (Ext.refl _) (by rw [← HX0.out]; exact conv_u32 y0)
        · intro xs wq hq hk R hR
          go_simp
          exact hR _ _ (Ext.refl _) (shl24 x0)
        · intro xs wq hq R hR
          go_simp
          exact hR _ _ (Ext.refl _) rfl
        · intro xs wq hq R hR
          go_simp
          exact hR _ _ (Ext.refl _) rfl
        · intro xs wq hq hk R hR
          go_simp
          exact hR _ _ (Ext.refl _) rfl
        · intro xs wq hq hk R hR
          go_simp
          exact hR _ _ (Ext.refl _) rfl
        · intro xs wq hq hk R hR
          obtain ⟨hk0, hk1⟩ := hk
          go_simp
          simp only [W0.out.1, W1.out.1]
          rw [if_pos ⟨by omega, by omega⟩, W1.out.2]
          exact hR _ _ (Ext.refl _) rfl
        · intro xs wq hq hk R hR
          have f1 := hq.cell d1
          go_simp
          exact hR _ _ (Ext.refl _) rfl
        · intro xs wq hq hk R hR
          go_simp
          exact hR _ _ (Ext.refl _) (by rw [← HX1.out]; exact conv_u32 y1)
        · intro xs wq hq hk R hR
          go_simp
          exact hR _ _ (Ext.refl _) (shl16 x1)
        · intro xs wq hq hk R hR
          obtain ⟨hk0, hk1⟩ := hk
          go_simp
          exact hR _ _ (Ext.refl _) (or_u32 (x0 <<< 24) (x1 <<< 16))
        · intro xs wq hq R hR
          go_simp
          exact hR _ _ (Ext.refl _) rfl
        · intro xs wq hq R hR
          go_simp
          exact hR _ _ (Ext.refl _) rfl
        · intro xs wq hq hk R hR
          go_simp
          exact hR _ _ (Ext.refl _) rfl
        · intro xs wq hq hk R hR
          go_simp
          exact hR _ _ (Ext.refl _) rfl
        · intro xs wq hq hk R hR
          obtain ⟨hk0, hk1⟩ := hk
          go_simp
          simp only [W0.out.1, W2.out.1]
          rw [if_pos ⟨by omega, by omega⟩, W2.out.2]
          exact hR _ _ (Ext.refl _) rfl
        · intro xs wq hq hk R hR
          have f2 := hq.cell d2
          go_simp
          exact hR _ _ (Ext.refl _) rfl
        · intro xs wq hq hk R hR
          go_simp
          exact hR _ _ (Ext.refl _) (by rw [← HX2.out]; exact conv_u32 y2)
        · intro xs wq hq hk R hR
          go_simp
          exact hR _ _ (Ext.refl _) (shl8 x2)
        · intro xs wq hq hk R hR
          obtain ⟨hk0, hk1⟩ := hk
          go_simp
          exact hR _ _ (Ext.refl _) (or_u32 ((x0 <<< 24) ||| (x1 <<< 16)) (x2 <<< 8))
        · intro xs wq hq R hR
          go_simp
          exact hR _ _ (Ext.refl _) rfl
        · intro xs wq hq R hR
          go_simp
          exact hR _ _ (Ext.refl _) rfl
        · intro xs wq hq hk R hR
          go_simp
          exact hR _ _ (Ext.refl _) rfl
        · intro xs wq hq hk R hR
          go_simp
          exact hR _ _ (Ext.refl _) rfl
        · intro xs wq hq hk R hR
          obtain ⟨hk0, hk1⟩ := hk
          go_simp
          simp only [W0.out.1, W3.out.1]
          rw [if_pos ⟨by omega, by omega⟩, W3.out.2]
          exact hR _ _ (Ext.refl _) rfl
        · intro xs wq hq hk R hR
          have f3 := hq.cell d3
          go_simp
          exact hR _ _ (Ext.refl _) rfl
        · intro xs wq hq hk R hR
          go_simp
          exact hR _ _ (Ext.refl _) (by rw [← HX3.out]; exact conv_u32 y3)
        · intro xs wq hq hk R hR
          obtain ⟨hk0, hk1⟩ := hk
          go_simp
          exact hR _ _ (Ext.refl _) (or_u32 (((x0 <<< 24) ||| (x1 <<< 16)) ||| (x2 <<< 8)) x3)
        · intro xs wq hq hk R hR
          go_simp
          exact hR _ _ (Ext.refl _) rfl
      intro xs w2 hx2 hk
      simp only [heldV, Nat.zero_add, Nat.reduceAdd, and_true] at hk
      have q0 := hk.1
      replace hk := hk.2
      have q1 := hk.1
      replace hk := hk.2
      have q2 := hk.1
      replace hk := hk.2
      have q3 := hk.1
      replace hk := hk.2
      have q4 := hk.1
      replace hk := hk.2
      have q5 := hk.1
      replace hk := hk.2
      have q6 := hk.1
      replace hk := hk.2
      have q7 := hk.1
      replace hk := hk.2
      have q8 := hk.1
      replace hk := hk.2
      have q9 := hk.1
      replace hk := hk.2
      have q10 := hk.1
      replace hk := hk.2
      have q11 := hk.1
      replace hk := hk.2
      have q12 := hk.1
      replace hk := hk.2
      have q13 := hk.1
      replace hk := hk.2
      have q14 := hk.1
      replace hk := hk.2
      have q15 := hk.1
      replace hk := hk.2
      have q16 := hk.1
      replace hk := hk.2
      have q17 := hk.1
      replace hk := hk.2
      have q18 := hk.1
      replace hk := hk.2
      have q19 := hk.1
      replace hk := hk.2
      have q20 := hk.1
      replace hk := hk.2
      have q21 := hk.1
      replace hk := hk.2
      have q22 := hk.1
      replace hk := hk.2
      have q23 := hk.1
      replace hk := hk.2
      have q24 := hk.1
      replace hk := hk.2
      have q25 := hk.1
      replace hk := hk.2
      have q26 := hk.1
      replace hk := hk.2
      have q27 := hk.1
      replace hk := hk.2
      have q28 := hk.1
      replace hk := hk.2
      have q29 := hk.1
      replace hk := hk.2
      have q30 := hk.1
      replace hk := hk.2
      have q31 := hk.1
      replace hk := hk.2
      have q32 := hk.1
      replace hk := hk.2
      have q33 := hk.1
      replace hk := hk.2
      have q34 := hk
      clear hk
      simp (maxSteps := 1000000) only [List.take_succ_cons, List.take_zero, List.drop_succ_cons, List.drop_zero, fillFrom, Act.put, List.setIfInBounds_toArray, List.set_cons_zero, List.set_cons_succ, Nat.zero_add, Nat.reduceAdd, q0, q1, q2, q3, q4, q5, q6, q7, q8, q9, q10, q11, q12, q13, q14, q15, q16, q17, q18, q19, q20, q21, q22, q23, q24, q25, q26, q27, q28, q29, q30, q31, q32, q33, q34]
      clear q0 q1 q2 q3 q4 q5 q6 q7 q8 q9 q10 q11 q12 q13 q14 q15 q16 q17 q18 q19 q20 q21 q22 q23 q24 q25 q26 q27 q28 q29 q30 q31 q32 q33 q34
      have HS2 : Hid _ := Sch.more HS.out hx2
      have hnow := HS2.out.now
      have hsz := wordsC_size (l := wSched b k) (n := 64) (by omega)
      have hpt := wordsC_put (l := wSched b k) (n := 64) ((((x0 <<< 24) ||| (x1 <<< 16)) ||| (x2 <<< 8)) ||| x3) (by omega)
      rw [← HSN.out, hsl] at hpt
      go_wp2_with (refine store_field rfl 205 (.tmp 48) (.tmp 47) rfl (w.heap.size + 1) k rfl (U32 ((((x0 <<< 24) ||| (x1 <<< 16)) ||| (x2 <<< 8)) ||| x3)) rfl rfl _ (wordsC (wSched b k) 64) hnow (by omega) info_u32 (wordsC (wSched b (k + 1)) 64) hpt ?_; intro w3 hg3 hgr3)
      have HS3 : Hid _ := Sch.put HS2.out hg3 hgr3
      clear hg3 hgr3 hnow hsz hpt
      go_roundw
      case rel => exact ⟨k + 1, by omega, by go_num, HS3.out⟩
      case measure => simp [intOf]; omega
    · by_cases hlt2 : k < 64
      · have hnow := HS.out.now
        obtain ⟨X, hX⟩ : ∃ x, (wSched b k).getD (k - 15) 0 = x := ⟨_, rfl⟩
        obtain ⟨Y, hY⟩ : ∃ x, (wSched b k).getD (k - 2) 0 = x := ⟨_, rfl⟩
        obtain ⟨A0, hA⟩ : ∃ x, (wSched b k).getD (k - 16) 0 = x := ⟨_, rfl⟩
        obtain ⟨B0, hB⟩ : ∃ x, (wSched b k).getD (k - 7) 0 = x := ⟨_, rfl⟩
        have e15 := words_cell hnow (i := k - 15) (by omega)
        have e2 := words_cell hnow (i := k - 2) (by omega)
        have e16 := words_cell hnow (i := k - 16) (by omega)
        have e7 := words_cell hnow (i := k - 7) (by omega)
        rw [hX] at e15
        rw [hY] at e2
        rw [hA] at e16
        rw [hB] at e7
        obtain ⟨p1, hp1⟩ : ∃ x, rotl X 25 = x := ⟨_, rfl⟩
        obtain ⟨q1, hq1⟩ : ∃ x, rotl X 14 = x := ⟨_, rfl⟩
        obtain ⟨p2, hp2⟩ : ∃ x, p1 ^^^ q1 = x := ⟨_, rfl⟩
        obtain ⟨r1, hr1⟩ : ∃ x, X >>> 3 = x := ⟨_, rfl⟩
        obtain ⟨s1, hs1⟩ : ∃ x, p2 ^^^ r1 = x := ⟨_, rfl⟩
        obtain ⟨p3, hp3⟩ : ∃ x, rotl Y 15 = x := ⟨_, rfl⟩
        obtain ⟨q3, hq3⟩ : ∃ x, rotl Y 13 = x := ⟨_, rfl⟩
        obtain ⟨p4, hp4⟩ : ∃ x, p3 ^^^ q3 = x := ⟨_, rfl⟩
        obtain ⟨r2, hr2⟩ : ∃ x, Y >>> 10 = x := ⟨_, rfl⟩
        obtain ⟨s2, hs2⟩ : ∃ x, p4 ^^^ r2 = x := ⟨_, rfl⟩
        obtain ⟨z1, hz1⟩ : ∃ x, A0 + s1 = x := ⟨_, rfl⟩
        obtain ⟨z2, hz2⟩ : ∃ x, z1 + B0 = x := ⟨_, rfl⟩
        obtain ⟨z3, hz3⟩ : ∃ x, z2 + s2 = x := ⟨_, rfl⟩
        have HZ1 : Hid _ := hz1
        have HZ2 : Hid _ := hz2
        have HZ3 : Hid _ := hz3
        have HSN : Hid (wSched b (k + 1) = wSched b k ++ [z3]) := by
          unfold Hid
          rw [sched_snoc, if_neg hlt]
          unfold wNext
          rw [hX, hY, hA, hB, hp1, hq1, hp2, hr1, hs1, hp3, hq3, hp4, hr2, hs2, hz1, hz2, hz3]
        have f1 : bits BinOp.xor IntKind.u32 (p1.toNat : Int) (q1.toNat : Int) = (p2.toNat : Int) := by rw [← hp2]; exact bits_xor32 _ _
        have f2 : (X.toNat : Int) / 8 = (r1.toNat : Int) := by rw [← hr1]; exact shr32 X 3 (by decide)
        have f3 : bits BinOp.xor IntKind.u32 (p2.toNat : Int) (r1.toNat : Int) = (s1.toNat : Int) := by rw [← hs1]; exact bits_xor32 _ _
        have f4 : bits BinOp.xor IntKind.u32 (p3.toNat : Int) (q3.toNat : Int) = (p4.toNat : Int) := by rw [← hp4]; exact bits_xor32 _ _
        have f5 : (Y.toNat : Int) / 1024 = (r2.toNat : Int) := by rw [← hr2]; exact shr32 Y 10 (by decide)
        have f6 : bits BinOp.xor IntKind.u32 (p4.toNat : Int) (r2.toNat : Int) = (s2.toNat : Int) := by rw [← hs2]; exact bits_xor32 _ _
        have HP1 : Hid _ := hp1
        have HQ1 : Hid _ := hq1
        have HP3 : Hid _ := hp3
        have HQ3 : Hid _ := hq3
        have W15 : Hid (IntKind.i64.wrap ((k : Int) - 15) = ((k - 15 : Nat) : Int)) := by unfold Hid; rw [IntWalk.i64_in _ (by omega)]; omega
        have W2 : Hid (IntKind.i64.wrap ((k : Int) - 2) = ((k - 2 : Nat) : Int)) := by unfold Hid; rw [IntWalk.i64_in _ (by omega)]; omega
        have W16 : Hid (IntKind.i64.wrap ((k : Int) - 16) = ((k - 16 : Nat) : Int)) := by unfold Hid; rw [IntWalk.i64_in _ (by omega)]; omega
        have W7 : Hid (IntKind.i64.wrap ((k : Int) - 7) = ((k - 7 : Nat) : Int)) := by unfold Hid; rw [IntWalk.i64_in _ (by omega)]; omega
        clear hX hY hA hB hp1 hq1 hp2 hr1 hs1 hp3 hq3 hp4 hr2 hs2 hz1 hz2 hz3 hnow
        have w15 := W15.out
        have w2 := W2.out
        have n15 : ((k - 15 : Nat) : Int) < 64 := by omega
        have n2 : ((k - 2 : Nat) : Int) < 64 := by omega
        go_upto_region 7 with fail
        go_quiet (fail)
        have hx2 : Ext wr (wr.drewN nq) := Ext.drawn _ _
        have HS2 : Hid _ := Sch.more HS.out hx2
        clear w15 w2 n15 n2
        have g16 := hx2.cell e16
        have g7 := hx2.cell e7
        clear e15 e2 e16 e7 hx2
        go_wp2_with fail
        go_at_call 215
        refine (rot7 X _).mono ?_
        rw [HP1.out]
        rintro e w3 ⟨rfl, rfl⟩
        go_wp2_with fail
        go_at_call 215
        refine (rot18 X _).mono ?_
        rw [HQ1.out]
        rintro e w3 ⟨rfl, rfl⟩
        go_wp2_with fail
        go_at_call 215
        refine (rot17 Y _).mono ?_
        rw [HP3.out]
        rintro e w3 ⟨rfl, rfl⟩
        go_wp2_with fail
        go_at_call 215
        refine (rot19 Y _).mono ?_
        rw [HQ3.out]
        rintro e w3 ⟨rfl, rfl⟩
        go_wp2_with fail
        apply wp_region_mix 15 [_, _, _, .pointer (some ⟨w.heap.size + 1, k - 16, none⟩), U32 A0, _, U32 z1, _, _, .pointer (some ⟨w.heap.size + 1, k - 7, none⟩), U32 B0, U32 z2, _, U32 z3, .pointer (some ⟨w.heap.size + 1, k, none⟩)] [none, none, none, none, none, none, none, none, none, none, none, none, none, none, none] [[], [], [1], [2], [3], [], [4, 5], [], [7], [8], [9], [6, 10], [], [11, 12], [0]] (by kernel_rfl) (by kernel_rfl) (by simp [mixV])
        · trivial
        · simp (maxSteps := 1000000) only [List.take_succ_cons, List.take_zero, oblFrom, stepObl, fillFrom, Act.put, List.setIfInBounds_toArray, List.set_cons_zero, List.set_cons_succ, knows, getV, mixV, List.getD_cons_zero, List.getD_cons_succ, and_true, true_and, forall_const]
          refine ⟨?_, ?_, ?_, ?_, ?_, ?_, ?_, ?_, ?_, ?_, ?_, ?_, ?_, ?_, ?_⟩
          · intro xs wq hq R hR
            go_simp
            exact hR _ _ (Ext.refl _) rfl
          · intro xs wq hq R hR
            go_simp
            exact hR _ _ (Ext.refl _) rfl
          · intro xs wq hq hk R hR
            go_simp
            exact hR _ _ (Ext.refl _) rfl
          · intro xs wq hq hk R hR
            go_simp
            simp only [W16.out]
            rw [if_pos ⟨by omega, by omega⟩]
            exact hR _ _ (Ext.refl _) rfl
          · intro xs wq hq hk R hR
            have f0 := hq.cell g16
            go_simp
            exact hR _ _ (Ext.refl _) rfl
          · intro xs wq hq R hR
            go_simp
            exact hR _ _ (Ext.refl _) rfl
          · intro xs wq hq hk R hR
            obtain ⟨hk0, hk1⟩ := hk
            go_simp
            exact hR _ _ (Ext.refl _) (by rw [← HZ1.out]; exact addw_u32 A0 s1)
          · intro xs wq hq R hR
            go_simp
            exact hR _ _ (Ext.refl _) rfl
          · intro xs wq hq hk R hR
            go_simp
            exact hR _ _ (Ext.refl _) rfl
          · intro xs wq hq hk R hR
            go_simp
            simp only [W7.out]
            rw [if_pos ⟨by omega, by omega⟩]
            exact hR _ _ (Ext.refl _) rfl
          · intro xs wq hq hk R hR
            have f0 := hq.cell g7
            go_simp
            exact hR _ _ (Ext.refl _) rfl
          · intro xs wq hq hk R hR
            obtain ⟨hk0, hk1⟩ := hk
            go_simp
            exact hR _ _ (Ext.refl _) (by rw [← HZ2.out]; exact addw_u32 z1 B0)
          · intro xs wq hq R hR
            go_simp
            exact hR _ _ (Ext.refl _) rfl
          · intro xs wq hq hk R hR
            obtain ⟨hk0, hk1⟩ := hk
            go_simp
            exact hR _ _ (Ext.refl _) (by rw [← HZ3.out]; exact addw_u32 z2 s2)
          · intro xs wq hq hk R hR
            go_simp
            exact hR _ _ (Ext.refl _) rfl
        intro xs w4 hx4 hk
        simp only [heldV, Nat.zero_add, Nat.reduceAdd, and_true] at hk
        obtain ⟨q0, q1, q2, q3, q4, q5, q6, q7, q8, q9, q10, q11, q12, q13, q14⟩ := hk
        simp (maxSteps := 1000000) only [List.take_succ_cons, List.take_zero, List.drop_succ_cons, List.drop_zero, fillFrom, Act.put, List.setIfInBounds_toArray, List.set_cons_zero, List.set_cons_succ, Nat.zero_add, Nat.reduceAdd, q0, q1, q2, q3, q4, q5, q6, q7, q8, q9, q10, q11, q12, q13, q14]
        clear q0 q1 q2 q3 q4 q5 q6 q7 q8 q9 q10 q11 q12 q13 q14
        have HS4 : Hid _ := Sch.more HS2.out hx4
        have hnow := HS4.out.now
        have hsz := wordsC_size (l := wSched b k) (n := 64) (by omega)
        have hpt := wordsC_put (l := wSched b k) (n := 64) z3 (by omega)
        rw [← HSN.out, hsl] at hpt
        clear f1 f2 f3 f4 f5 f6 g16 g7 hx4
        go_wp2_with (refine store_field rfl 205 (.tmp 87) (.tmp 86) rfl (w.heap.size + 1) k rfl (U32 z3) rfl rfl _ (wordsC (wSched b k) 64) hnow (by omega) info_u32 (wordsC (wSched b (k + 1)) 64) hpt ?_; intro w5 hg5 hgr5)
        have HS5 : Hid _ := Sch.put HS4.out hg5 hgr5
        clear hg5 hgr5 hnow hsz hpt
        go_roundw
        case rel => exact ⟨k + 1, by omega, by go_num, HS5.out⟩
        case measure => simp [intOf]; omega
      · have hkk : k = 64 := by omega
        subst hkk
        have hnow := HS.out.now
        have hres := HS.out.res
        have hext := HS.out.ext
        have hful := wordsC_full (n := 64) hsl
        rw [hful] at hnow
        have hs64 : ((wSched b 64).map U32).toArray.size = 64 := by simp [hsl]
        obtain ⟨V, hV⟩ : ∃ V, ((wSched b 64).map U32).toArray = V := ⟨_, rfl⟩
        have hone := u32s_one (wSched b 64)
        rw [hV] at hnow hs64 hone
        have HV : Hid _ := hV
        have hr0 : (wordsC [] 64).size = 64 := wordsC_size (Nat.zero_le _)
        have hr1 : (wordsC [] 64).toList.drop (0 + V.size) = [] := by rw [hs64]; exact List.drop_eq_nil_of_le (by rw [Array.length_toList, hr0]; omega)
        have HEXT : Hid _ := hext
        clear hsl hful hV hext
        go_wp2_with (first
          | (refine wpList_load_row rfl 234 (.tmp 3) rfl (w.heap.size + 1) rfl 234 V (0, 0) _ hnow Tryz.underlying234 rfl (by rw [hs64]; exact size_a64) ?_)
          | (refine store_all rfl 234 (.tmp 2) (.tmp 89) rfl w.heap.size 0 rfl V rfl hone _ (wordsC [] 64) hres (by rw [hs64, hr0]; omega) (by rw [hs64]; exact size_a64) V (by rw [hr1]; simp) ?_; intro w5 hg5 hgr5))
        refine bodyPost_ret (results_cell_row rfl _ _ w.heap.size 234 V (0, 0) _ rfl hg5 Tryz.underlying234 rfl (by rw [hs64]; exact size_a64)) rfl ?_
        rw [HV.out]
        exact ⟨rfl, Below.grown HEXT.out hgr5 (HEXT.out).size (fun j hj => by cases hj; omega)⟩

end Go.Proofs.YtdhgmpibjneplaaGreatDoor

/-! sha.Hasher.mix: a block is taken. Conditions: as each theorem states. -/
namespace Go.Proofs.YtdhgmpibjneplaaGreatDoor
open Go Go.RowKit

/-- A hasher's cells; the constants' cells. -/
def hCells (cb : Nat) (st : List UInt32) (rest : Value) (n : Int) : Array Value := ((.pointer (some ⟨cb, 0, none⟩)) :: (st.map U32 ++ [rest, .int .i64 n])).toArray
def kCells (o : List Value) : Array Value := (o ++ (shaH.map U32 ++ shaK.map U32)).toArray
theorem hCells_st {cb : Nat} {st : List UInt32} {rest : Value} {n : Int} {j : Nat} (h : j < st.length) : (hCells cb st rest n)[1 + j]? = some (U32 (st.getD j 0)) := by
  unfold hCells
  simp [show 1 + j = j + 1 by omega, List.getElem?_append, h, List.getD_eq_getElem?_getD]
theorem kCells_each {o : List Value} {j : Nat} (ho : o.length = 3) (h : j < 64) : (kCells o)[11 + j]? = some (U32 (shaK.getD j 0)) := by
  unfold kCells
  rw [List.getElem?_toArray, List.getElem?_append_right (by omega), List.getElem?_append_right (by rw [ho, List.length_map]; show 8 ≤ _; omega), List.length_map, ho]
  rw [show 11 + j - 3 - shaH.length = j by show 11 + j - 3 - 8 = j; omega, List.getElem?_map, List.getElem?_eq_getElem (show j < shaK.length from h)]
  simp [List.getD_eq_getElem?_getD, show j < shaK.length from h]
theorem list8 {l : List UInt32} (h : l.length = 8) : ∃ a0 a1 a2 a3 a4 a5 a6 a7, l = [a0, a1, a2, a3, a4, a5, a6, a7] := by
  match l, h with
  | [a0, a1, a2, a3, a4, a5, a6, a7], _ => exact ⟨a0, a1, a2, a3, a4, a5, a6, a7, rfl⟩

/-- What the rounds hold. -/
structure MixR (w wr : World) (gw gs : Nat) (V : Array Value) (st W : List UInt32) (k : Nat) (c : List UInt32) : Prop where
  ext : Ext w wr
  now : wr.heap[gw]? = some (.cells V 234 (0, 0))
  cur : wr.heap[gs]? = some (.cells (c.map U32).toArray 233 (0, 0))
  eq : rnds st W k = c
  low : w.heap.size ≤ gw ∧ gw < gs
theorem MixR.more {w wr w2 : World} {gw gs : Nat} {V : Array Value} {st W : List UInt32} {k : Nat} {c : List UInt32} (h : MixR w wr gw gs V st W k c) (hx : Ext wr w2) : MixR w w2 gw gs V st W k c :=
  ⟨h.ext.trans hx, Ext.row hx h.now, Ext.row hx h.cur, h.eq, h.low⟩
theorem MixR.put {w wr w2 : World} {gw gs : Nat} {V : Array Value} {st W : List UInt32} {k : Nat} {c new : List UInt32} (h : MixR w wr gw gs V st W k c) (hg : w2.heap[gs]? = some (.cells (new.map U32).toArray 233 (0, 0))) (hgr : wr.grownBy w2 (some gs)) (he : rnd c (shaK.getD k 0) (W.getD k 0) = new) : MixR w w2 gw gs V st W (k + 1) new :=
  ⟨Below.grown h.ext hgr h.ext.size (fun j hj => by cases hj; have := h.low; omega), (hgr.block _ (Array.getElem?_eq_some_iff.1 h.now).1 (by have := h.low; simp; omega)).trans h.now, hg, by show rnd (rnds st W k) _ _ = _; rw [h.eq]; exact he, h.low⟩

def partM (st fin : List UInt32) (k : Nat) : List UInt32 := (List.zipWith (· + ·) st fin).take k ++ st.drop k
theorem partM_len {st fin : List UInt32} {k : Nat} (hs : st.length = 8) (hf : fin.length = 8) (hk : k ≤ 8) : (partM st fin k).length = 8 := by
  unfold partM
  simp [hs, hf]
  omega
theorem partM_get {st fin : List UInt32} {k : Nat} (hs : st.length = 8) (hf : fin.length = 8) (hk : k < 8) : (partM st fin k).getD k 0 = st.getD k 0 := by
  unfold partM
  rw [List.getD_eq_getElem?_getD, List.getElem?_append_right (by simp [hs, hf]; omega), List.getD_eq_getElem?_getD]
  simp [hs, hf, show min k 8 = k by omega]
theorem partM_set {st fin : List UInt32} {k : Nat} (hs : st.length = 8) (hf : fin.length = 8) (hk : k < 8) : partM st fin (k + 1) = (partM st fin k).set k (st.getD k 0 + fin.getD k 0) := by
  obtain ⟨i0, i1, i2, i3, i4, i5, i6, i7, rfl⟩ := list8 hs
  obtain ⟨j0, j1, j2, j3, j4, j5, j6, j7, rfl⟩ := list8 hf
  match k, hk with
  | 0, _ => rfl
  | 1, _ => rfl
  | 2, _ => rfl
  | 3, _ => rfl
  | 4, _ => rfl
  | 5, _ => rfl
  | 6, _ => rfl
  | 7, _ => rfl
theorem hCells_put {cb : Nat} {st : List UInt32} {rest : Value} {n : Int} {j : Nat} (x : UInt32) (h : j < st.length) : hCells cb (st.set j x) rest n = ((hCells cb st rest n).toList.take (1 + j) ++ [U32 x] ++ (hCells cb st rest n).toList.drop (1 + j + 1)).toArray := by
  unfold hCells
  apply Array.ext'
  simp only [List.toList_toArray, show 1 + j = j + 1 by omega, List.take_succ_cons, List.drop_succ_cons, List.cons_append]
  congr 1
  rw [List.map_set, List.take_append_of_le_length (by simp; omega), List.drop_append_of_le_length (by simp; omega), List.set_eq_take_append_cons_drop, if_pos (by simpa using h)]
  simp
theorem hCells_size {cb : Nat} {st : List UInt32} {rest : Value} {n : Int} : (hCells cb st rest n).size = st.length + 3 := by
  unfold hCells
  simp
theorem index_words {F : Array Value} {k : Nat} {v : Value} (w : World) (h : F[k]? = some v) (hk : k < 8) : (Instr.index 233 (.agg F) (.int .i64 (k : Int))).run Tryz.prog w = .ok v w := by
  simp [Instr.index, run_underlying Tryz.underlying233, asIntOf]
  rw [if_pos hk]
  simp [part, isAgg, run_underlying Tryz.underlying205, h]
structure Mix2 (w wr : World) (hb cb : Nat) (st fin : List UInt32) (rest : Value) (n : Int) (k : Nat) : Prop where
  fr : Fr (fun j => j = hb) w wr
  cells : wr.heap[hb]? = some (.cells (hCells cb (partM st fin k) rest n) 238 (0, 0))
theorem not_u8h {w : World} {hb : Nat} {cs : Array Value} {fr : Nat × Nat} (hg : w.heap[hb]? = some (.cells cs 238 fr)) : ¬ IsU8 w hb := cells_u8 hg (by kernel_rfl)

set_option maxRecDepth 100000 in
set_option maxHeartbeats 2000000 in
theorem mix_any (hb cb : Nat) (st : List UInt32) (rest v : Value) (n : Int) (b : B8) (o : List Value) (w : World) (hst : st.length = 8) (ho : o.length = 3)
    (hg : w.heap[hb]? = some (.cells (hCells cb st rest n) 238 (0, 0))) (hc : w.heap[cb]? = some (.cells (kCells o) 236 (0, 0))) (hv : IsBytes w v b) (hl : b.length = 64) :
    Calls Tryz.prog 180 #[.pointer (some ⟨hb, 0, none⟩), v] w fun e w' => e = .returned (.tuple #[]) ∧ w'.heap[hb]? = some (.cells (hCells cb (mixM st b) rest n) 238 (0, 0)) ∧ Fr (fun k => k = hb) w w' := by
  have HG : Hid _ := hg
  have HC : Hid _ := hc
  have HV : Hid _ := hv
  have HL : Hid _ := hl
  have hbl := (Array.getElem?_eq_some_iff.1 hg).1
  obtain ⟨a, cap, rfl, h1, h2, h3, -⟩ := hv.get
  obtain ⟨i0, i1, i2, i3, i4, i5, i6, i7, hse⟩ := list8 hst
  have HSE : Hid _ := hse
  have hrange : w.rangeAt hb 1 [U32 i0, U32 i1, U32 i2, U32 i3, U32 i4, U32 i5, U32 i6, U32 i7] := fun j u hu => by
    have hj := (List.getElem?_eq_some_iff.1 hu).1
    have hj8 : j < 8 := by simpa using hj
    rw [cell_of_row w hb (1 + j) _ _ _ hg, hCells_st (by omega), hse]
    have : ([U32 i0, U32 i1, U32 i2, U32 i3, U32 i4, U32 i5, U32 i6, U32 i7] : List Value) = [i0, i1, i2, i3, i4, i5, i6, i7].map U32 := rfl
    rw [this, List.getElem?_map] at hu
    rw [← hu, List.getD_eq_getElem?_getD]
    cases hx : ([i0, i1, i2, i3, i4, i5, i6, i7] : List UInt32)[j]? with
    | none => rw [List.getElem?_eq_none_iff] at hx; simp at hx; omega
    | some x => rfl
  have HRG : Hid _ := hrange
  have HST : Hid _ := hst
  have HO : Hid _ := ho
  clear hg hc hv hl hst ho hse hrange
  go_enter Tryz.func180, Tryz.ntmps180
  go_wp2_with fail
  go_at_call 214
  refine (schedule_any _ b w HV.out HL.out).mono ?_
  rintro e w1 ⟨rfl, hx1⟩
  have hsl := sched_len b 64
  have hs64 : ((wSched b 64).map U32).toArray.size = 64 := by simp [hsl]
  obtain ⟨V, hV⟩ : ∃ V, ((wSched b 64).map U32).toArray = V := ⟨_, rfl⟩
  have hone := u32s_one (wSched b 64)
  rw [hV] at hs64 hone ⊢
  have HVV : Hid _ := hV
  have hr0 : (wordsC [] 64).size = 64 := wordsC_size (Nat.zero_le _)
  have hr1 : (wordsC [] 64).toList.drop (0 + V.size) = [] := by rw [hs64]; exact List.drop_eq_nil_of_le (by rw [Array.length_toList, hr0]; omega)
  have hal : (w1.alloc (.cells (wordsC [] 64) 234)).heap[w1.heap.size]? = some (.cells (wordsC [] 64) 234 (0, 0)) := alloc_at _ _
  go_upto_region 1 with (refine store_all rfl 234 (.tmp 4) (.tmp 16) rfl w1.heap.size 0 rfl V rfl hone _ (wordsC [] 64) hal (by rw [hs64, hr0]; omega) (by rw [hs64]; exact size_a64) V (by rw [hr1]; simp) ?_; intro w2 hg2 hgr2)
  have hx2 : Ext w w2 := Below.grown (hx1.alloc _) hgr2 (by have := hx1.size; simp; omega) (fun j hj => by cases hj; exact hx1.size)
  have hrg2 : w2.rangeAt hb 1 [U32 i0, U32 i1, U32 i2, U32 i3, U32 i4, U32 i5, U32 i6, U32 i7] := fun j u hu => hx2.cell (HRG.out j u hu)
  have HG2 : Hid _ := hg2
  have HX2 : Hid _ := hx2
  have HX1 : Hid _ := hx1
  obtain ⟨gw, hgw⟩ : ∃ k, w1.heap.size = k := ⟨_, rfl⟩
  rw [hgw] at HG2 ⊢
  have hgwl : w.heap.size ≤ gw := by rw [← hgw]; exact hx1.size
  have hgw2 : gw < w2.heap.size := (Array.getElem?_eq_some_iff.1 HG2.out).1
  clear hone hr0 hr1 hal hg2 hgr2 hx1 hx2 hV hgw hsl
  go_upto_region 2 with (refine wpList_load_mid rfl 233 (.tmp 19) rfl hb 1 rfl [U32 i0, U32 i1, U32 i2, U32 i3, U32 i4, U32 i5, U32 i6, U32 i7] _ hrg2 Tryz.underlying233 rfl size_a8 ?_)
  obtain ⟨w3, hw3⟩ : ∃ wq, wq = w2.alloc (.cells #[U32 i0, U32 i1, U32 i2, U32 i3, U32 i4, U32 i5, U32 i6, U32 i7] 233) := ⟨_, rfl⟩
  have hw3' : w2.alloc (.cells #[U32 i0, U32 i1, U32 i2, U32 i3, U32 i4, U32 i5, U32 i6, U32 i7] 233) = w3 := hw3.symm
  rw [hw3']
  have hx3 : Ext w2 w3 := by rw [hw3]; exact (Ext.refl _).alloc _
  have HM0 : Hid (MixR w w3 gw w2.heap.size V st (wSched b 64) 0 [i0, i1, i2, i3, i4, i5, i6, i7]) := ⟨Ext.trans HX2.out hx3, Ext.row hx3 HG2.out, by rw [hw3]; exact alloc_at _ _, HSE.out, hgwl, hgw2⟩
  obtain ⟨gs, hgs⟩ : ∃ k, w2.heap.size = k := ⟨_, rfl⟩
  rw [hgs] at HM0 ⊢
  clear hw3 hw3' hx3 hrg2 hgs hgw2
  obtain ⟨W, hW⟩ : ∃ W, wSched b 64 = W := ⟨_, rfl⟩
  have HVG : Hid (∀ j, j < 64 → V[j]? = some (U32 (W.getD j 0))) := fun j hj => by
    rw [← hW, ← HVV.out, List.getElem?_toArray, List.getElem?_map, List.getElem?_eq_getElem (by rw [sched_len]; exact hj), List.getD_eq_getElem?_getD, List.getElem?_eq_getElem (by rw [sched_len]; exact hj)]
    rfl
  have HWE : Hid (mixM st b = List.zipWith (· + ·) st (rnds st W 64)) := by unfold Hid mixM; rw [hW]
  rw [hW] at HM0
  clear hW HVV
  go_wp2_with fail
  go_loopw [21] (fun i wr => ∃ (k : Nat) (a0 a1 a2 a3 a4 a5 a6 a7 : UInt32), k ≤ 64 ∧ i = .int .i64 k ∧ Hid (MixR w wr gw gs V st W k [a0, a1, a2, a3, a4, a5, a6, a7])) (fun i _ => 64 - (intOf i).toNat)
  case atStart => exact ⟨0, i0, i1, i2, i3, i4, i5, i6, i7, by omega, rfl, HM0.out⟩
  case round =>
    obtain ⟨k, a0, a1, a2, a3, a4, a5, a6, a7, hk, rfl, HM⟩ := hrel
    by_cases hlt : k < 64
    · obtain ⟨kk, hkk⟩ : ∃ x, shaK.getD k 0 = x := ⟨_, rfl⟩
      obtain ⟨ww, hww⟩ : ∃ x, W.getD k 0 = x := ⟨_, rfl⟩
      obtain ⟨x1, hx1⟩ : ∃ x, rotl a4 26 = x := ⟨_, rfl⟩
      obtain ⟨x2, hx2⟩ : ∃ x, rotl a4 21 = x := ⟨_, rfl⟩
      obtain ⟨x3, hx3⟩ : ∃ x, x1 ^^^ x2 = x := ⟨_, rfl⟩
      obtain ⟨x4, hx4⟩ : ∃ x, rotl a4 7 = x := ⟨_, rfl⟩
      obtain ⟨x5, hx5⟩ : ∃ x, x3 ^^^ x4 = x := ⟨_, rfl⟩
      obtain ⟨y1, hy1⟩ : ∃ x, a7 + x5 = x := ⟨_, rfl⟩
      obtain ⟨y2, hy2⟩ : ∃ x, a4 &&& a5 = x := ⟨_, rfl⟩
      obtain ⟨y3, hy3⟩ : ∃ x, ~~~a4 = x := ⟨_, rfl⟩
      obtain ⟨y4, hy4⟩ : ∃ x, y3 &&& a6 = x := ⟨_, rfl⟩
      obtain ⟨y5, hy5⟩ : ∃ x, y2 ^^^ y4 = x := ⟨_, rfl⟩
      obtain ⟨y6, hy6⟩ : ∃ x, y1 + y5 = x := ⟨_, rfl⟩
      obtain ⟨y7, hy7⟩ : ∃ x, y6 + kk = x := ⟨_, rfl⟩
      obtain ⟨tt, htt⟩ : ∃ x, y7 + ww = x := ⟨_, rfl⟩
      obtain ⟨z1, hz1⟩ : ∃ x, rotl a0 30 = x := ⟨_, rfl⟩
      obtain ⟨z2, hz2⟩ : ∃ x, rotl a0 19 = x := ⟨_, rfl⟩
      obtain ⟨z3, hz3⟩ : ∃ x, z1 ^^^ z2 = x := ⟨_, rfl⟩
      obtain ⟨z4, hz4⟩ : ∃ x, rotl a0 10 = x := ⟨_, rfl⟩
      obtain ⟨z5, hz5⟩ : ∃ x, z3 ^^^ z4 = x := ⟨_, rfl⟩
      obtain ⟨v1, hv1⟩ : ∃ x, a0 &&& a1 = x := ⟨_, rfl⟩
      obtain ⟨v2, hv2⟩ : ∃ x, a0 &&& a2 = x := ⟨_, rfl⟩
      obtain ⟨v3, hv3⟩ : ∃ x, v1 ^^^ v2 = x := ⟨_, rfl⟩
      obtain ⟨v4, hv4⟩ : ∃ x, a1 &&& a2 = x := ⟨_, rfl⟩
      obtain ⟨v5, hv5⟩ : ∃ x, v3 ^^^ v4 = x := ⟨_, rfl⟩
      obtain ⟨uu, huu⟩ : ∃ x, z5 + v5 = x := ⟨_, rfl⟩
      obtain ⟨n0, hn0⟩ : ∃ x, tt + uu = x := ⟨_, rfl⟩
      obtain ⟨n4, hn4⟩ : ∃ x, a3 + tt = x := ⟨_, rfl⟩
      have HX1 : Hid _ := hx1
      have HX2 : Hid _ := hx2
      have Gfx3 : Hid (bits BinOp.xor IntKind.u32 (x1.toNat : Int) (x2.toNat : Int) = (x3.toNat : Int)) := by unfold Hid; rw [← hx3]; exact bits_xor32 _ _
      have HX4 : Hid _ := hx4
      have Gfx5 : Hid (bits BinOp.xor IntKind.u32 (x3.toNat : Int) (x4.toNat : Int) = (x5.toNat : Int)) := by unfold Hid; rw [← hx5]; exact bits_xor32 _ _
      have Gfy1 : Hid (IntKind.u32.wrap ((a7.toNat : Int) + (x5.toNat : Int)) = (y1.toNat : Int)) := by unfold Hid; rw [← hy1, IntKind.wrap_u32]; exact add32 _ _
      have Gmy1 : Hid (((a7.toNat : Int) + (x5.toNat : Int)) % 4294967296 = (y1.toNat : Int)) := by unfold Hid; rw [← hy1]; exact add32 _ _
      have Gfy2 : Hid (bits BinOp.and IntKind.u32 (a4.toNat : Int) (a5.toNat : Int) = (y2.toNat : Int)) := by unfold Hid; rw [← hy2]; exact bits_and32 _ _
      have Gfy3 : Hid (bits BinOp.xor IntKind.u32 4294967295 (a4.toNat : Int) = (y3.toNat : Int)) := by unfold Hid; rw [← hy3]; exact bits_not32 _
      have Gfy4 : Hid (bits BinOp.and IntKind.u32 (y3.toNat : Int) (a6.toNat : Int) = (y4.toNat : Int)) := by unfold Hid; rw [← hy4]; exact bits_and32 _ _
      have Gfy5 : Hid (bits BinOp.xor IntKind.u32 (y2.toNat : Int) (y4.toNat : Int) = (y5.toNat : Int)) := by unfold Hid; rw [← hy5]; exact bits_xor32 _ _
      have Gfy6 : Hid (IntKind.u32.wrap ((y1.toNat : Int) + (y5.toNat : Int)) = (y6.toNat : Int)) := by unfold Hid; rw [← hy6, IntKind.wrap_u32]; exact add32 _ _
      have Gmy6 : Hid (((y1.toNat : Int) + (y5.toNat : Int)) % 4294967296 = (y6.toNat : Int)) := by unfold Hid; rw [← hy6]; exact add32 _ _
      have Gfy7 : Hid (IntKind.u32.wrap ((y6.toNat : Int) + (kk.toNat : Int)) = (y7.toNat : Int)) := by unfold Hid; rw [← hy7, IntKind.wrap_u32]; exact add32 _ _
      have Gmy7 : Hid (((y6.toNat : Int) + (kk.toNat : Int)) % 4294967296 = (y7.toNat : Int)) := by unfold Hid; rw [← hy7]; exact add32 _ _
      have Gftt : Hid (IntKind.u32.wrap ((y7.toNat : Int) + (ww.toNat : Int)) = (tt.toNat : Int)) := by unfold Hid; rw [← htt, IntKind.wrap_u32]; exact add32 _ _
      have Gmtt : Hid (((y7.toNat : Int) + (ww.toNat : Int)) % 4294967296 = (tt.toNat : Int)) := by unfold Hid; rw [← htt]; exact add32 _ _
      have HZ1 : Hid _ := hz1
      have HZ2 : Hid _ := hz2
      have Gfz3 : Hid (bits BinOp.xor IntKind.u32 (z1.toNat : Int) (z2.toNat : Int) = (z3.toNat : Int)) := by unfold Hid; rw [← hz3]; exact bits_xor32 _ _
      have HZ4 : Hid _ := hz4
      have Gfz5 : Hid (bits BinOp.xor IntKind.u32 (z3.toNat : Int) (z4.toNat : Int) = (z5.toNat : Int)) := by unfold Hid; rw [← hz5]; exact bits_xor32 _ _
      have Gfv1 : Hid (bits BinOp.and IntKind.u32 (a0.toNat : Int) (a1.toNat : Int) = (v1.toNat : Int)) := by unfold Hid; rw [← hv1]; exact bits_and32 _ _
      have Gfv2 : Hid (bits BinOp.and IntKind.u32 (a0.toNat : Int) (a2.toNat : Int) = (v2.toNat : Int)) := by unfold Hid; rw [← hv2]; exact bits_and32 _ _
      have Gfv3 : Hid (bits BinOp.xor IntKind.u32 (v1.toNat : Int) (v2.toNat : Int) = (v3.toNat : Int)) := by unfold Hid; rw [← hv3]; exact bits_xor32 _ _
      have Gfv4 : Hid (bits BinOp.and IntKind.u32 (a1.toNat : Int) (a2.toNat : Int) = (v4.toNat : Int)) := by unfold Hid; rw [← hv4]; exact bits_and32 _ _
      have Gfv5 : Hid (bits BinOp.xor IntKind.u32 (v3.toNat : Int) (v4.toNat : Int) = (v5.toNat : Int)) := by unfold Hid; rw [← hv5]; exact bits_xor32 _ _
      have Gfuu : Hid (IntKind.u32.wrap ((z5.toNat : Int) + (v5.toNat : Int)) = (uu.toNat : Int)) := by unfold Hid; rw [← huu, IntKind.wrap_u32]; exact add32 _ _
      have Gmuu : Hid (((z5.toNat : Int) + (v5.toNat : Int)) % 4294967296 = (uu.toNat : Int)) := by unfold Hid; rw [← huu]; exact add32 _ _
      have Gfn0 : Hid (IntKind.u32.wrap ((tt.toNat : Int) + (uu.toNat : Int)) = (n0.toNat : Int)) := by unfold Hid; rw [← hn0, IntKind.wrap_u32]; exact add32 _ _
      have Gmn0 : Hid (((tt.toNat : Int) + (uu.toNat : Int)) % 4294967296 = (n0.toNat : Int)) := by unfold Hid; rw [← hn0]; exact add32 _ _
      have Gfn4 : Hid (IntKind.u32.wrap ((a3.toNat : Int) + (tt.toNat : Int)) = (n4.toNat : Int)) := by unfold Hid; rw [← hn4, IntKind.wrap_u32]; exact add32 _ _
      have Gmn4 : Hid (((a3.toNat : Int) + (tt.toNat : Int)) % 4294967296 = (n4.toNat : Int)) := by unfold Hid; rw [← hn4]; exact add32 _ _
      have HNEW : Hid (rnd [a0, a1, a2, a3, a4, a5, a6, a7] (shaK.getD k 0) (W.getD k 0) = [n0, a0, a1, a2, n4, a4, a5, a6]) := by
        unfold Hid
        simp only [rnd, List.getD_cons_zero, List.getD_cons_succ]
        rw [hkk, hww, hx1, hx2, hx3, hx4, hx5, hy1, hy2, hy3, hy4, hy5, hy6, hy7, htt, hz1, hz2, hz3, hz4, hz5, hv1, hv2, hv3, hv4, hv5, huu, hn0, hn4]
      have HKC : Hid (w.cell? ⟨cb, 11 + k, none⟩ = some (U32 kk)) := (cell_of_row _ _ (11 + k) _ _ _ HC.out).trans ((kCells_each HO.out hlt).trans (by rw [hkk]))
      have HWC : Hid (V[k]? = some (U32 ww)) := (HVG.out k hlt).trans (by rw [hww])
      clear hx1 hx2 hx3 hx4 hx5 hy1 hy2 hy3 hy4 hy5 hy6 hy7 htt hz1 hz2 hz3 hz4 hz5 hv1 hv2 hv3 hv4 hv5 huu hn0 hn4 hkk hww
      have hcur := HM.out.cur
      have s0 : wr.cell? ⟨gs, 0, none⟩ = some (U32 a0) := (cell_of_row _ _ 0 _ _ _ hcur).trans rfl
      have s4 : wr.cell? ⟨gs, 4, none⟩ = some (U32 a4) := (cell_of_row _ _ 4 _ _ _ hcur).trans rfl
      clear hcur
      go_upto_region 5 with fail
      go_quiet (fail)
      obtain ⟨wq, hwq⟩ : ∃ wq, wq = wr.drewN nq := ⟨_, rfl⟩
      rw [← hwq]
      have HMq : Hid _ := MixR.more HM.out (show Ext wr wq by rw [hwq]; exact Ext.drawn _ _)
      clear s0 s4 hwq
      go_wp2_with fail
      go_at_call 215
      refine (rot6 a4 _).mono ?_
      rw [HX1.out]
      rintro e w9 ⟨rfl, rfl⟩
      go_wp2_with fail
      go_at_call 215
      refine (rot11 a4 _).mono ?_
      rw [HX2.out]
      rintro e w9 ⟨rfl, rfl⟩
      go_wp2_with fail
      go_at_call 215
      refine (rot25 a4 _).mono ?_
      rw [HX4.out]
      rintro e w9 ⟨rfl, rfl⟩
      have hcur := HMq.out.cur
      have hnow := HMq.out.now
      have hxq := HMq.out.ext
      have s5 : w9.cell? ⟨gs, 5, none⟩ = some (U32 a5) := (cell_of_row _ _ 5 _ _ _ hcur).trans rfl
      have s6 : w9.cell? ⟨gs, 6, none⟩ = some (U32 a6) := (cell_of_row _ _ 6 _ _ _ hcur).trans rfl
      have s7 : w9.cell? ⟨gs, 7, none⟩ = some (U32 a7) := (cell_of_row _ _ 7 _ _ _ hcur).trans rfl
      have sw : w9.cell? ⟨gw, k, none⟩ = some (U32 ww) := (cell_of_row _ _ k _ _ _ hnow).trans HWC.out
      have sc : w9.cell? ⟨hb, 0, none⟩ = some (.pointer (some ⟨cb, 0, none⟩)) := hxq.cell ((cell_of_row _ _ 0 _ _ _ HG.out).trans rfl)
      have sk : w9.cell? ⟨cb, 11 + k, none⟩ = some (U32 kk) := hxq.cell HKC.out
      clear hcur hnow hxq
      go_upto_region 7 with fail
      rw [Gfx3.out, Gfx5.out]
      go_wp2_with fail
      apply wp_region_mix 29 [_, U32 a7, _, U32 y1, _, _, U32 a5, U32 y2, _, U32 y3, _, U32 a6, U32 y4, U32 y5, U32 y6, _, _, _, .pointer (some ⟨cb, 0, none⟩), _, _, _, .pointer (some ⟨cb, 11 + k, none⟩), U32 kk, U32 y7, _, .pointer (some ⟨gw, k, none⟩), U32 ww, U32 tt] [none, none, none, none, none, none, none, none, none, none, none, none, none, none, none, none, none, none, none, none, none, none, none, none, none, none, none, none, none] [[], [0], [], [1, 2], [], [], [5], [4, 6], [], [8], [], [10], [9, 11], [7, 12], [3, 13], [], [15], [16], [17], [], [18], [20], [19, 21], [22], [14, 23], [], [25], [26], [24, 27]] (by kernel_rfl) (by kernel_rfl) (by simp [mixV])
      · trivial
      · simp (maxSteps := 1000000) only [List.take_succ_cons, List.take_zero, oblFrom, stepObl, fillFrom, Act.put, List.setIfInBounds_toArray, List.set_cons_zero, List.set_cons_succ, knows, getV, mixV, List.getD_cons_zero, List.getD_cons_succ, and_true, true_and, forall_const]
        refine ⟨?_, ?_, ?_, ?_, ?_, ?_, ?_, ?_, ?_, ?_, ?_, ?_, ?_, ?_, ?_, ?_, ?_, ?_, ?_, ?_, ?_, ?_, ?_, ?_, ?_, ?_, ?_, ?_, ?_⟩
        · intro xs wq hq R hR
          go_simp
          exact hR _ _ (Ext.refl _) rfl
        · intro xs wq hq hk R hR
          have f0 := hq.cell s7
          go_simp
          exact hR _ _ (Ext.refl _) rfl
        · intro xs wq hq R hR
          go_simp
          exact hR _ _ (Ext.refl _) rfl
        · intro xs wq hq hk R hR
          obtain ⟨hk0, hk1⟩ := hk
          go_simp
          exact hR _ _ (Ext.refl _) (congrArg _ Gfy1.out)
        · intro xs wq hq R hR
          go_simp
          exact hR _ _ (Ext.refl _) rfl
        · intro xs wq hq R hR
          go_simp
          exact hR _ _ (Ext.refl _) rfl
        · intro xs wq hq hk R hR
          have f0 := hq.cell s5
          go_simp
          exact hR _ _ (Ext.refl _) rfl
        · intro xs wq hq hk R hR
          obtain ⟨hk0, hk1⟩ := hk
          go_simp
          exact hR _ _ (Ext.refl _) (congrArg _ Gfy2.out)
        · intro xs wq hq R hR
          go_simp
          exact hR _ _ (Ext.refl _) rfl
        · intro xs wq hq hk R hR
          go_simp
          exact hR _ _ (Ext.refl _) (congrArg _ Gfy3.out)
        · intro xs wq hq R hR
          go_simp
          exact hR _ _ (Ext.refl _) rfl
        · intro xs wq hq hk R hR
          have f0 := hq.cell s6
          go_simp
          exact hR _ _ (Ext.refl _) rfl
        · intro xs wq hq hk R hR
          obtain ⟨hk0, hk1⟩ := hk
          go_simp
          exact hR _ _ (Ext.refl _) (congrArg _ Gfy4.out)
        · intro xs wq hq hk R hR
          obtain ⟨hk0, hk1⟩ := hk
          go_simp
          exact hR _ _ (Ext.refl _) (congrArg _ Gfy5.out)
        · intro xs wq hq hk R hR
          obtain ⟨hk0, hk1⟩ := hk
          go_simp
          exact hR _ _ (Ext.refl _) (congrArg _ Gfy6.out)
        · intro xs wq hq R hR
          go_simp
          exact hR _ _ (Ext.refl _) rfl
        · intro xs wq hq hk R hR
          go_simp
          exact hR _ _ (Ext.refl _) rfl
        · intro xs wq hq hk R hR
          go_simp
          exact hR _ _ (Ext.refl _) rfl
        · intro xs wq hq hk R hR
          have f0 := hq.cell sc
          go_simp
          exact hR _ _ (Ext.refl _) rfl
        · intro xs wq hq R hR
          go_simp
          exact hR _ _ (Ext.refl _) rfl
        · intro xs wq hq hk R hR
          go_simp
          exact hR _ _ (Ext.refl _) rfl
        · intro xs wq hq hk R hR
          go_simp
          exact hR _ _ (Ext.refl _) rfl
        · intro xs wq hq hk R hR
          obtain ⟨hk0, hk1⟩ := hk
          go_simp
          exact hR _ _ (Ext.refl _) rfl
        · intro xs wq hq hk R hR
          have f0 := hq.cell sk
          go_simp
          exact hR _ _ (Ext.refl _) rfl
        · intro xs wq hq hk R hR
          obtain ⟨hk0, hk1⟩ := hk
          go_simp
          exact hR _ _ (Ext.refl _) (congrArg _ Gfy7.out)
        · intro xs wq hq R hR
          go_simp
          exact hR _ _ (Ext.refl _) rfl
        · intro xs wq hq hk R hR
          go_simp
          exact hR _ _ (Ext.refl _) rfl
        · intro xs wq hq hk R hR
          have f0 := hq.cell sw
          go_simp
          exact hR _ _ (Ext.refl _) rfl
        · intro xs wq hq hk R hR
          obtain ⟨hk0, hk1⟩ := hk
          go_simp
          exact hR _ _ (Ext.refl _) (congrArg _ Gftt.out)
      intro xs wz hxz hk
      simp only [heldV, Nat.zero_add, Nat.reduceAdd, and_true] at hk
      have q0 := hk.1
      replace hk := hk.2
      have q1 := hk.1
      replace hk := hk.2
      have q2 := hk.1
      replace hk := hk.2
      have q3 := hk.1
      replace hk := hk.2
      have q4 := hk.1
      replace hk := hk.2
      have q5 := hk.1
      replace hk := hk.2
      have q6 := hk.1
      replace hk := hk.2
      have q7 := hk.1
      replace hk := hk.2
      have q8 := hk.1
      replace hk := hk.2
      have q9 := hk.1
      replace hk := hk.2
      have q10 := hk.1
      replace hk := hk.2
      have q11 := hk.1
      replace hk := hk.2
      have q12 := hk.1
      replace hk := hk.2
      have q13 := hk.1
      replace hk := hk.2
      have q14 := hk.1
      replace hk := hk.2
      have q15 := hk.1
      replace hk := hk.2
      have q16 := hk.1
      replace hk := hk.2
      have q17 := hk.1
      replace hk := hk.2
      have q18 := hk.1
      replace hk := hk.2
      have q19 := hk.1
      replace hk := hk.2
      have q20 := hk.1
      replace hk := hk.2
      have q21 := hk.1
      replace hk := hk.2
      have q22 := hk.1
      replace hk := hk.2
      have q23 := hk.1
      replace hk := hk.2
      have q24 := hk.1
      replace hk := hk.2
      have q25 := hk.1
      replace hk := hk.2
      have q26 := hk.1
      replace hk := hk.2
      have q27 := hk.1
      replace hk := hk.2
      have q28 := hk
      clear hk
      simp (maxSteps := 1000000) only [List.take_succ_cons, List.take_zero, List.drop_succ_cons, List.drop_zero, fillFrom, Act.put, List.setIfInBounds_toArray, List.set_cons_zero, List.set_cons_succ, Nat.zero_add, Nat.reduceAdd, q0, q1, q2, q3, q4, q5, q6, q7, q8, q9, q10, q11, q12, q13, q14, q15, q16, q17, q18, q19, q20, q21, q22, q23, q24, q25, q26, q27, q28]
      clear q0 q1 q2 q3 q4 q5 q6 q7 q8 q9 q10 q11 q12 q13 q14 q15 q16 q17 q18 q19 q20 q21 q22 q23 q24 q25 q26 q27 q28
      have HMz : Hid _ := MixR.more HMq.out hxz
      clear s5 s6 s7 sw sc sk hxz
      go_wp2_with fail
      go_at_call 215
      refine (rot2 a0 _).mono ?_
      rw [HZ1.out]
      rintro e w8 ⟨rfl, rfl⟩
      go_wp2_with fail
      go_at_call 215
      refine (rot13 a0 _).mono ?_
      rw [HZ2.out]
      rintro e w8 ⟨rfl, rfl⟩
      go_wp2_with fail
      go_at_call 215
      refine (rot22 a0 _).mono ?_
      rw [HZ4.out]
      rintro e w8 ⟨rfl, rfl⟩
      have hcur := HMz.out.cur
      have r0 : w8.cell? ⟨gs, 0, none⟩ = some (U32 a0) := (cell_of_row _ _ 0 _ _ _ hcur).trans rfl
      have r1 : w8.cell? ⟨gs, 1, none⟩ = some (U32 a1) := (cell_of_row _ _ 1 _ _ _ hcur).trans rfl
      have r2 : w8.cell? ⟨gs, 2, none⟩ = some (U32 a2) := (cell_of_row _ _ 2 _ _ _ hcur).trans rfl
      have r3 : w8.cell? ⟨gs, 3, none⟩ = some (U32 a3) := (cell_of_row _ _ 3 _ _ _ hcur).trans rfl
      have r4 : w8.cell? ⟨gs, 4, none⟩ = some (U32 a4) := (cell_of_row _ _ 4 _ _ _ hcur).trans rfl
      have r5 : w8.cell? ⟨gs, 5, none⟩ = some (U32 a5) := (cell_of_row _ _ 5 _ _ _ hcur).trans rfl
      have r6 : w8.cell? ⟨gs, 6, none⟩ = some (U32 a6) := (cell_of_row _ _ 6 _ _ _ hcur).trans rfl
      go_upto_region 9 with fail
      rw [Gfz3.out, Gfz5.out]
      go_upto_region 10 with fail
      rw [Gfv1.out, Gfv2.out, Gfv3.out, Gfv4.out, Gfv5.out, Gmuu.out]
      have HNV : Hid ((#[.int .u32 (((tt.toNat : Int) + (uu.toNat : Int)) % 4294967296), U32 a0, U32 a1, U32 a2, .int .u32 (((a3.toNat : Int) + (tt.toNat : Int)) % 4294967296), U32 a4, U32 a5, U32 a6] : Array Value) = #[U32 n0, U32 a0, U32 a1, U32 a2, U32 n4, U32 a4, U32 a5, U32 a6]) := by unfold Hid; rw [Gmn0.out, Gmn4.out]
      go_wp2_with (refine store_all rfl 233 (.tmp 5) (.tmp 109) rfl gs 0 rfl #[U32 n0, U32 a0, U32 a1, U32 a2, U32 n4, U32 a4, U32 a5, U32 a6] (congrArg Value.agg HNV.out) (by intro v hv; simp at hv; rcases hv with rfl | rfl | rfl | rfl | rfl | rfl | rfl | rfl <;> rfl) _ _ hcur (by simp) size_a8 #[U32 n0, U32 a0, U32 a1, U32 a2, U32 n4, U32 a4, U32 a5, U32 a6] (by simp) ?_; intro wn hgn hgrn)
      have HMn : Hid _ := MixR.put HMz.out (new := [n0, a0, a1, a2, n4, a4, a5, a6]) hgn hgrn HNEW.out
      clear r0 r1 r2 r3 r4 r5 r6 hcur hgn hgrn
      go_roundw
      case rel => exact ⟨k + 1, n0, a0, a1, a2, n4, a4, a5, a6, by omega, by go_num, HMn.out⟩
      case measure => simp [intOf]; omega
    · have hkk : k = 64 := by omega
      subst hkk
      have hcur := HM.out.cur
      have heq := HM.out.eq
      have hext := HM.out.ext
      obtain ⟨fin, hfin⟩ : ∃ l, [a0, a1, a2, a3, a4, a5, a6, a7] = l := ⟨_, rfl⟩
      have hfl : fin.length = 8 := by rw [← hfin]; rfl
      rw [hfin] at hcur heq
      have HEQ : Hid _ := heq
      have HFL : Hid _ := hfl
      obtain ⟨F, hF⟩ : ∃ F, (fin.map U32).toArray = F := ⟨_, rfl⟩
      have hF8 : F.size = 8 := by rw [← hF]; simp [hfl]
      have HFG : Hid (∀ j, j < 8 → F[j]? = some (U32 (fin.getD j 0))) := fun j hj => by
        rw [← hF, List.getElem?_toArray, List.getElem?_map, List.getElem?_eq_getElem (by omega), List.getD_eq_getElem?_getD, List.getElem?_eq_getElem (by omega)]
        rfl
      rw [hF] at hcur
      have H20 : Hid (Mix2 w wr hb cb st fin rest n 0) := ⟨Fr.of_ext hext, by show wr.heap[hb]? = some (.cells (hCells cb ([] ++ st.drop 0) rest n) _ _); rw [List.nil_append, List.drop_zero]; exact Ext.row hext HG.out⟩
      clear heq hfl hF hfin hext
      go_wp2_with (refine wpList_load_row rfl 233 (.tmp 5) rfl gs rfl 233 F (0, 0) _ hcur Tryz.underlying233 rfl (by rw [hF8]; exact size_a8) ?_)
      clear hcur
      go_loopw [112] (fun i wr => ∃ k : Nat, k ≤ 8 ∧ i = .int .i64 k ∧ Hid (Mix2 w wr hb cb st fin rest n k)) (fun i _ => 8 - (intOf i).toNat)
      case atStart => exact ⟨0, by omega, rfl, H20.out⟩
      case round =>
        obtain ⟨k, hk, rfl, H2⟩ := hrel
        by_cases hlt : k < 8
        · obtain ⟨sk, hsk⟩ : ∃ x, st.getD k 0 = x := ⟨_, rfl⟩
          obtain ⟨fk, hfk⟩ : ∃ x, fin.getD k 0 = x := ⟨_, rfl⟩
          obtain ⟨xk, hxk⟩ : ∃ x, sk + fk = x := ⟨_, rfl⟩
          have hcell := H2.out.cells
          have hpl := partM_len HST.out HFL.out hk
          have hps := partM_set HST.out HFL.out hlt
          have hpg := partM_get HST.out HFL.out hlt
          rw [hsk] at hpg
          rw [hsk, hfk, hxk] at hps
          have HADD : Hid (Value.int .u32 (IntKind.u32.wrap ((sk.toNat : Int) + (fk.toNat : Int))) = U32 xk) := by unfold Hid; rw [← hxk]; exact addw_u32 sk fk
          have hix := index_words wr ((HFG.out k hlt).trans (by rw [hfk])) hlt
          have c1 : wr.cell? ⟨hb, 1 + k, none⟩ = some (U32 sk) := by rw [cell_of_row _ _ (1 + k) _ _ _ hcell, hCells_st (by omega), hpg]
          have HC1 : Hid _ := c1
          have HCE : Hid _ := hcell
          have HPS : Hid _ := hps
          clear hsk hfk hxk hpg hps c1 hcell
          go_upto_region 15 with fail
          clear hix
          apply wp_region_mix 11 [_, _, _, .pointer (some ⟨hb, 1, none⟩), .pointer (some ⟨hb, 1 + k, none⟩), U32 sk, _, U32 xk, _, .pointer (some ⟨hb, 1, none⟩), .pointer (some ⟨hb, 1 + k, none⟩)] [none, none, none, none, none, none, none, none, none, none, none] [[], [], [0], [2], [1, 3], [4], [], [5, 6], [0], [8], [1, 9]] (by kernel_rfl) (by kernel_rfl) (by simp [mixV])
          · trivial
          · simp (maxSteps := 1000000) only [List.take_succ_cons, List.take_zero, oblFrom, stepObl, fillFrom, Act.put, List.setIfInBounds_toArray, List.set_cons_zero, List.set_cons_succ, knows, getV, mixV, List.getD_cons_zero, List.getD_cons_succ, and_true, true_and, forall_const]
            refine ⟨?_, ?_, ?_, ?_, ?_, ?_, ?_, ?_, ?_, ?_, ?_⟩
            · intro xs wq hq R hR
              go_simp
              exact hR _ _ (Ext.refl _) rfl
            · intro xs wq hq R hR
              go_simp
              exact hR _ _ (Ext.refl _) rfl
            · intro xs wq hq hk R hR
              go_simp
              exact hR _ _ (Ext.refl _) rfl
            · intro xs wq hq hk R hR
              go_simp
              exact hR _ _ (Ext.refl _) rfl
            · intro xs wq hq hk R hR
              obtain ⟨hk0, hk1⟩ := hk
              go_simp
              exact hR _ _ (Ext.refl _) rfl
            · intro xs wq hq hk R hR
              have f0 := hq.cell HC1.out
              go_simp
              exact hR _ _ (Ext.refl _) rfl
            · intro xs wq hq R hR
              go_simp
              exact hR _ _ (Ext.refl _) rfl
            · intro xs wq hq hk R hR
              obtain ⟨hk0, hk1⟩ := hk
              go_simp
              exact hR _ _ (Ext.refl _) HADD.out
            · intro xs wq hq hk R hR
              go_simp
              exact hR _ _ (Ext.refl _) rfl
            · intro xs wq hq hk R hR
              go_simp
              exact hR _ _ (Ext.refl _) rfl
            · intro xs wq hq hk R hR
              obtain ⟨hk0, hk1⟩ := hk
              go_simp
              exact hR _ _ (Ext.refl _) rfl
          intro xs wz hxz hk
          simp only [heldV, Nat.zero_add, Nat.reduceAdd, and_true] at hk
          obtain ⟨q0, q1, q2, q3, q4, q5, q6, q7, q8, q9, q10⟩ := hk
          simp (maxSteps := 1000000) only [List.take_succ_cons, List.take_zero, List.drop_succ_cons, List.drop_zero, fillFrom, Act.put, List.setIfInBounds_toArray, List.set_cons_zero, List.set_cons_succ, Nat.zero_add, Nat.reduceAdd, q0, q1, q2, q3, q4, q5, q6, q7, q8, q9, q10]
          clear q0 q1 q2 q3 q4 q5 q6 q7 q8 q9 q10
          have hcz := Ext.row hxz HCE.out
          have hsz := hCells_size (cb := cb) (st := partM st fin k) (rest := rest) (n := n)
          have hput := hCells_put (cb := cb) (st := partM st fin k) (rest := rest) (n := n) (j := k) xk (by omega)
          rw [← HPS.out] at hput
          go_wp2_with (refine store_field rfl 205 (.tmp 126) (.tmp 123) rfl hb (1 + k) rfl (U32 xk) rfl rfl _ _ hcz (by omega) info_u32 (hCells cb (partM st fin (k + 1)) rest n) hput ?_; intro wn hgn hgrn)
          have H3 : Hid (Mix2 w wn hb cb st fin rest n (k + 1)) := ⟨(H2.out.fr.ext hxz).step hgrn (fun j hj => by cases hj; exact .inl rfl) (by rintro j hj; cases hj; exact not_u8h hcz), hgn⟩
          clear hcz hsz hput hgn hgrn hxz hpl
          go_roundw
          case rel => exact ⟨k + 1, by omega, by go_num, H3.out⟩
          case measure => simp [intOf]; omega
        · have hkk : k = 8 := by omega
          subst hkk
          have HEND : Hid (wr.heap[hb]? = some (.cells (hCells cb (mixM st b) rest n) 238 (0, 0))) := by
            have h9 := H2.out.cells
            have h8 : partM st fin 8 = mixM st b := by
              unfold partM
              rw [HWE.out, HEQ.out, List.drop_eq_nil_of_le (by rw [HST.out]; omega), List.append_nil, List.take_of_length_le (by simp [HST.out, HFL.out])]
            rw [h8] at h9
            exact h9
          go_wp2
          go_end0
          exact ⟨rfl, HEND.out, H2.out.fr⟩

end Go.Proofs.YtdhgmpibjneplaaGreatDoor

/-! sha.Hasher.Write: a piece is taken. Conditions: at most 10000000 bytes. -/
namespace Go.Proofs.YtdhgmpibjneplaaGreatDoor
open Go Go.RowKit
set_option linter.unusedVariables false
set_option linter.unusedSimpArgs false
set_option linter.unusedSectionVars false

theorem hCells_9 {cb : Nat} {st : List UInt32} {rest : Value} {n : Int} (h : st.length = 8) : (hCells cb st rest n)[9]? = some rest ∧ (hCells cb st rest n)[10]? = some (Value.int .i64 n) := by
  obtain ⟨i0, i1, i2, i3, i4, i5, i6, i7, rfl⟩ := list8 h
  exact ⟨rfl, rfl⟩
theorem hCells_put9 {cb : Nat} {st : List UInt32} {rest new : Value} {n : Int} (h : st.length = 8) : hCells cb st new n = ((hCells cb st rest n).toList.take 9 ++ [new] ++ (hCells cb st rest n).toList.drop (9 + 1)).toArray := by
  obtain ⟨i0, i1, i2, i3, i4, i5, i6, i7, rfl⟩ := list8 h
  rfl
theorem hCells_put10 {cb : Nat} {st : List UInt32} {rest : Value} {n new : Int} (h : st.length = 8) : hCells cb st rest new = ((hCells cb st rest n).toList.take 10 ++ [Value.int .i64 new] ++ (hCells cb st rest n).toList.drop (10 + 1)).toArray := by
  obtain ⟨i0, i1, i2, i3, i4, i5, i6, i7, rfl⟩ := list8 h
  rfl
theorem clone_own (v : Value) (l : B8) (w : World) (hv : IsBytes w v l) (hl : l.length ≤ 140737488355328) :
    Calls Tryz.prog 55 #[v] w fun e w' => (∃ v, e = .returned v ∧ w'.ownsRow w.heap.size 5 1 v l.length (l.map fun x => .int .u8 x.toNat)) ∧ Ext w w' := by
  obtain ⟨a, cap, rfl, h1, h2, h3, h4⟩ := hv
  cases a with
  | none =>
    have hn : l = [] := by
      cases l with
      | nil => rfl
      | cons x l => obtain ⟨b, o, he, _⟩ := h4 (by simp); cases he
    subst hn
    exact (Tryz.bytes_Clone_nil 0 cap w).mono fun e w' ⟨he, hw⟩ => ⟨⟨_, he, World.ownsRow_nil _ _ _ _⟩, by rw [hw]; exact Ext.refl _⟩
  | some ad =>
    refine (Tryz.bytes_Clone_at ad l.length cap (l.map fun x => (x.toNat : Int)) w (by simp) (by omega) (fun i hi => ?_)).mono fun e w' ⟨v', he, hown, _, hx⟩ => ⟨⟨v', he, ?_⟩, hx⟩
    · have hne : l ≠ [] := by rintro rfl; simp at hi
      obtain ⟨b, o, hadr, hc⟩ := h4 (by simpa using hne)
      cases hadr
      have hadd : (⟨b, o, none⟩ : Addr).add i = ⟨b, o + i, none⟩ := by unfold Addr.add; split <;> simp_all
      rw [hadd]
      refine hc i _ ?_
      simp [hi]
    · rw [List.map_map] at hown
      exact hown

/-- What Write's loop holds. -/
structure Wr (w wr : World) (hb cb : Nat) (goal : List UInt32 × B8) (n : Int) (st : List UInt32) (rv : Value) (r : B8) : Prop where
  fr : Fr (fun k => k = hb) w wr
  hst : st.length = 8
  cells : wr.heap[hb]? = some (.cells (hCells cb st rv n) 238 (0, 0))
  bytes : IsBytes wr rv r
  typ : TypB wr rv
  len : r.length ≤ 20000000
  goal : absorb st r = goal
/-- How long the hasher's rest is. -/
def restLen (w : World) (hb : Nat) : Nat := match w.cell? ⟨hb, 9, none⟩ with
  | some (.slice _ n _) => n
  | _ => 0
theorem Wr.restLen {w wr : World} {hb cb : Nat} {goal : List UInt32 × B8} {n : Int} {st : List UInt32} {rv : Value} {r : B8} (h : Wr w wr hb cb goal n st rv r) : restLen wr hb = r.length := by
  obtain ⟨a, cap, rfl, -⟩ := id h.bytes
  unfold Go.Proofs.YtdhgmpibjneplaaGreatDoor.restLen
  rw [(cell_of_row _ _ 9 _ _ _ h.cells).trans (hCells_9 h.hst).1]

set_option maxRecDepth 100000 in
set_option maxHeartbeats 1000000 in
theorem write_sha (hb cb : Nat) (st : List UInt32) (rv v : Value) (r b : B8) (n : Nat) (o : List Value) (w : World) (hst : st.length = 8) (ho : o.length = 3) (hne : hb ≠ cb) (hn : n ≤ 1000000000)
    (hg : w.heap[hb]? = some (.cells (hCells cb st rv n) 238 (0, 0))) (hc : w.heap[cb]? = some (.cells (kCells o) 236 (0, 0))) (hr : IsBytes w rv r) (hrt : TypB w rv) (hv : IsBytes w v b) (hvt : Out (fun k => k = hb) w v) (hrl : r.length ≤ 10000000) (hl : b.length ≤ 10000000) :
    Calls Tryz.prog 139 #[.pointer (some ⟨hb, 0, none⟩), v] w fun e w' => e = .returned (.tuple #[]) ∧ ∃ (st' : List UInt32) (rv' : Value) (r' : B8), Wr w w' hb cb (absorb st (r ++ b)) (n + b.length) st' rv' r' ∧ (st', r') = absorb st (r ++ b) := by
  obtain ⟨a, cap, rfl, h1, h2, h3, -⟩ := hv.get
  have HC : Hid _ := hc
  have HR : Hid _ := hr
  have HV : Hid _ := hv
  have HVT : Hid _ := hvt
  have HST : Hid _ := hst
  have HO : Hid _ := ho
  have HG : Hid _ := hg
  have c9 : w.cell? ⟨hb, 9, none⟩ = some rv := (cell_of_row _ _ 9 _ _ _ hg).trans (hCells_9 hst).1
  have c10 : w.cell? ⟨hb, 10, none⟩ = some (.int .i64 (n : Int)) := (cell_of_row _ _ 10 _ _ _ hg).trans (hCells_9 hst).2
  have hsz : (hCells cb st rv (n : Int)).size = 11 := by rw [hCells_size, hst]
  have hp10 := hCells_put10 (cb := cb) (rest := rv) (n := (n : Int)) (new := (n : Int) + b.length) hst
  clear hc hr hv hvt hst ho
  go_enter Tryz.func139, Tryz.ntmps139
  go_upto_region 1 with (refine store_field rfl 3 (.tmp 12) (.tmp 10) rfl hb 10 rfl (.int .i64 ((n : Int) + b.length)) rfl rfl _ _ hg (by omega) size_int (hCells cb st rv ((n : Int) + b.length)) hp10 ?_; intro w2 hg2 hgr2)
  have hfr2 : Fr (fun k => k = hb) w w2 := (Fr.refl _ w).step hgr2 (fun j hj => by cases hj; exact .inl rfl) (by rintro j hj; cases hj; exact not_u8h hg)
  have d9 : w2.cell? ⟨hb, 9, none⟩ = some rv := (cell_of_row _ _ 9 _ _ _ hg2).trans (hCells_9 HST.out).1
  have HFR2 : Hid _ := hfr2
  have HG2 : Hid _ := hg2
  clear hg2 hgr2 hfr2 c9 c10 hp10 hg
  have HRR : Hid (IsBytes w2 rv r) := Row.keepB HR.out hrt HFR2.out.keep
  go_wp2_with fail
  go_at_call 55
  refine (clone_own rv r w2 HRR.out (by omega)).mono ?_
  rintro e w3 ⟨⟨v3, rfl, hown3⟩, hx3⟩
  have HV3 : Hid (IsBytes w3 (.slice a b.length cap) b) := IsBytes.ext (IsBytes.fr (O := fun k => k = hb) HV.out HVT.out HFR2.out) hx3
  have HOWN3 : Hid (w3.ownsRow w2.heap.size 5 1 v3 r.length (r.map fun x : UInt8 => Value.int .u8 (x.toNat : Int))) := hown3
  have HX3 : Hid _ := hx3
  have hs3 := hx3.size
  clear hown3 hx3
  go_wp2_with first | (at_builtin; go_must (refine appS_op _ _ _ 1 1 Tryz.underlying35 info_u8 rfl (by omega) rfl _ _ rfl rfl w2.heap.size v3 r.length (r.map fun x : UInt8 => Value.int .u8 (x.toNat : Int)) rfl HOWN3.out (.slice a b.length cap) b.length (b.map fun x : UInt8 => Value.int .u8 (x.toNat : Int)) rfl HV3.out (by simp) (by intro u hu; obtain ⟨_, _, rfl⟩ := List.mem_map.1 hu; rfl) (by omega) (by omega) hs3 ?_; intro v4 w4 hown4 hgr4; rw [← List.map_append] at hown4; have hx4 : Ext w2 w4 := owns_ext_app HX3.out HOWN3.out hgr4; have ho4 : v4.oneCell' = true := (by rcases hown4.2 with ⟨rfl, _⟩ | ⟨g, c, cur, rfl, _⟩ <;> rfl); have hg4 := Ext.row hx4 HG2.out)) | (refine store_field rfl 35 (.tmp 22) (.tmp 20) rfl hb 9 rfl v4 rfl ho4 _ _ hg4 (by rw [hCells_size, HST.out]; omega) size_bytes (hCells cb st v4 ((n : Int) + b.length)) (hCells_put9 HST.out) ?_; intro w5 hg5 hgr5)
  have hwr5 : Wr w w5 hb cb (absorb st (r ++ b)) ((n : Int) + b.length) st v4 (r ++ b) := by
    have hk : KeepB w4 w5 := KeepB.of_grown hgr5 hg4 (by kernel_rfl)
    have ht4 : TypB w4 v4 := TypB.of_owns hown4
    refine ⟨(HFR2.out.ext hx4).step hgr5 (fun j hj => by cases hj; exact .inl rfl) (by rintro j hj; cases hj; exact not_u8h hg4), HST.out, hg5, ?_, ht4.keep hk, by rw [List.length_append]; omega, rfl⟩
    have hrow := Row.of_owns hown4 (by omega)
    unfold IsBytes
    rw [List.length_append]
    exact hrow.keepB ht4 hk
  have HWR5 : Hid _ := hwr5
  clear hwr5 hg5 hgr5 hg4 ho4 hx4 hgr4 hown4 d9 hsz HX3 HOWN3 HV3 HRR
  go_frame
  go_loopw [] (fun wr => ∃ (st' : List UInt32) (rv' : Value) (r' : B8), Wr w wr hb cb (absorb st (r ++ b)) ((n : Int) + b.length) st' rv' r') (fun wr => restLen wr hb)
  case atStart => exact ⟨st, v4, r ++ b, HWR5.out⟩
  case round =>
    obtain ⟨s6, r6, l6, hw6⟩ := hrel
    have HW6 : Hid _ := hw6
    have HM6 : Hid _ := hw6.restLen
    obtain ⟨a6, c6, rfl, k1, k2, k3, -⟩ := hw6.bytes.get
    have e9 : wr.cell? ⟨hb, 9, none⟩ = some (.slice a6 l6.length c6) := (cell_of_row _ _ 9 _ _ _ hw6.cells).trans (hCells_9 hw6.hst).1
    have hll := hw6.len
    clear hw6
    by_cases hlt : 64 ≤ l6.length
    · go_wp2_with fail
      go_at_call 180
      refine (mix_any hb cb s6 (.slice a6 l6.length c6) (.slice a6 64 c6) ((n : Int) + b.length) (l6.take 64) o wr HW6.out.hst HO.out HW6.out.cells (HW6.out.fr.row HC.out (fun h => hne h.symm)) (IsBytes.head 64 HW6.out.bytes hlt) (by rw [List.length_take]; omega)).mono ?_
      rintro e w7 ⟨rfl, hg7, hf7⟩
      have hm7 : (mixM s6 (l6.take 64)).length = 8 := mix_len HW6.out.hst
      have HM7 : Hid _ := hm7
      have e97 : w7.cell? ⟨hb, 9, none⟩ = some (.slice a6 l6.length c6) := (cell_of_row _ _ 9 _ _ _ hg7).trans (hCells_9 hm7).1
      have HF7 : Hid _ := hf7
      have hfin : ∀ w8, w8.heap[hb]? = some (.cells (hCells cb (mixM s6 (l6.take 64)) (tailV a6 l6.length c6 64) ((n : Int) + b.length)) 238 (0, 0)) → w7.grownBy w8 (some hb) →
          (∃ (st' : List UInt32) (rv' : Value) (r' : B8), Wr w w8 hb cb (absorb st (r ++ b)) ((n : Int) + b.length) st' rv' r') ∧ restLen w8 hb < restLen wr hb := by
        intro w8 hg8 hgr8
        have hk8 : KeepB wr w8 := hf7.keep.trans (KeepB.of_grown hgr8 hg7 (by kernel_rfl))
        have hb8 : IsBytes w8 (.slice a6 l6.length c6) l6 := Row.keepB HW6.out.bytes HW6.out.typ hk8
        have ht8 : TypB w8 (.slice a6 l6.length c6) := HW6.out.typ.keep hk8
        obtain ⟨hb9, ht9⟩ := IsBytes.tailV 64 hb8 hlt ht8
        have hw8 : Wr w w8 hb cb (absorb st (r ++ b)) ((n : Int) + b.length) (mixM s6 (l6.take 64)) (tailV a6 l6.length c6 64) (l6.drop 64) := by
          refine ⟨(HW6.out.fr.trans (hf7.mono fun k hk => .inl hk)).step hgr8 (fun j hj => by cases hj; exact .inl rfl) (by rintro j hj; cases hj; exact not_u8h hg7), hm7, hg8, hb9, ht9, by rw [List.length_drop]; omega, ?_⟩
          have hg := HW6.out.goal
          rw [absorb, if_pos hlt] at hg
          exact hg
        refine ⟨⟨_, _, _, hw8⟩, ?_⟩
        rw [hw8.restLen, HM6.out, List.length_drop]
        omega
      have HFIN : Hid _ := hfin
      clear hf7 hm7 e9 hfin
      go_wp2_with (refine store_field rfl 35 _ _ rfl hb 9 rfl (tailV a6 l6.length c6 64) rfl rfl _ _ hg7 (by rw [hCells_size, HM7.out]; omega) size_bytes _ (hCells_put9 HM7.out) ?_; intro w8 hg8 hgr8)
      all_goals exact HFIN.out w8 hg8 hgr8
    · go_wp2_with fail
      go_end0
      have hg : absorb s6 l6 = (s6, l6) := by rw [absorb, if_neg hlt]
      exact ⟨rfl, s6, _, l6, HW6.out, hg.symm.trans HW6.out.goal⟩

end Go.Proofs.YtdhgmpibjneplaaGreatDoor
