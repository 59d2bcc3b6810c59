/- A file system that falls, in plain Lean: files by rising paths, changes, events, what each call does. No program in sight. No conditions. -/
import Derived.WalkKit
import Derived.StillTail
import Derived.Lib.QuietBelow
import Derived.Test.YtalpfoomkhhgnaaGreatDoorShelf
import Derived.WalkSpells
import Derived.WalkLawsBesides
import Derived.Lib.Hide
import Derived.Lib.SmallJoins
import Derived.Deep.QuietTactic
import Derived.BigQuiet
import Derived.Lib.Split
import Derived.Lib.SplitLaws
import Derived.Lib.SlBytesRow
import Derived.Great.BuildSlice

set_option linter.unusedVariables false
set_option linter.unusedSimpArgs false

/-! A region that draws its order: each of its head's operations is shown alone, out of what its own operands are known to be; what stands behind the head goes on in the text's order. Conditions: each operation of the head leaves what was there as it was. -/
namespace Go.Proofs.YtalpfoomkhhgnaaGreatDoor
open Go Go.RowKit

abbrev Ext (w w' : World) : Prop := Below w.heap.size w w'

theorem Ext.trans {a b c : World} (h : Ext a b) (k : Ext b c) : Ext a c := Below.trans h (k.mono h.size)

section
variable {P : Program} {C : World → Prop} {le : World → World → Prop}

def fillFrom (xs : Nat → Value) : List Oper → Nat → Act → Act
  | [], _, a => a
  | o :: l, k, a => fillFrom xs l (k + 1) (a.put o.dst (xs k))

def relUpon (P : Program) (R : Value → World → Prop) : Result Next → Prop
  | .ok (.value u) w' => R u w'
  | .ok .skip w' => R undef w'
  | .ok (.enter f args) w' => Calls P f args w' (fun e w'' => ∃ v, e = .returned v ∧ R v w'')
  | _ => False

def getV (V : List (Value → World → Prop)) (k : Nat) : Value → World → Prop := V.getD k (fun _ _ => True)

def knows (V : List (Value → World → Prop)) (xs : Nat → Value) (w : World) : List Nat → Prop
  | [] => True
  | j :: l => getV V j (xs j) w ∧ knows V xs w l

theorem knows_of {V : List (Value → World → Prop)} {xs : Nat → Value} {w : World} : ∀ {l : List Nat}, (∀ j ∈ l, getV V j (xs j) w) → knows V xs w l
  | [], _ => trivial
  | j :: l, h => ⟨h j (by simp), knows_of fun i hi => h i (by simp [hi])⟩

def stepObl (P : Program) (C : World → Prop) (le : World → World → Prop) (ops : Array Oper) (V : List (Value → World → Prop)) (head : List Oper) (a0 : Act) (k : Nat) (d : List Nat) (o : Oper) : Prop :=
  ∀ (xs : Nat → Value) (w : World), C w → knows V xs w d → ∀ R : Value → World → Prop, (∀ u w', le w w' → getV V k u w' → R u w') →
    if Region.wanted o (yielded ops (fillFrom xs head 0 a0).tmps) then relUpon P R ((execOp (fillFrom xs head 0 a0).eval o).run P w) else R undef w

def oblFrom (P : Program) (C : World → Prop) (le : World → World → Prop) (ops : Array Oper) (V : List (Value → World → Prop)) (D : List (List Nat)) (head : List Oper) (a0 : Act) : List Oper → Nat → Prop
  | [], _ => True
  | o :: l, k => stepObl P C le ops V head a0 k (D.getD k []) o ∧ oblFrom P C le ops V D head a0 l (k + 1)

def stableFrom (le : World → World → Prop) : List (Value → World → Prop) → Prop
  | [] => True
  | p :: l => (∀ u w w', le w w' → p u w → p u w') ∧ stableFrom le l

theorem stable_get : ∀ {V : List (Value → World → Prop)}, stableFrom le V → ∀ k u w w', le w w' → getV V k u w → getV V k u w'
  | [], _, k, _, _, _, _, _ => by simp [getV]
  | p :: l, h, 0, u, w, w', he, hp => by simpa [getV] using h.1 u w w' he (by simpa [getV] using hp)
  | p :: l, h, k + 1, u, w, w', he, hp => by
    have := stable_get h.2 k u w w' he (by simpa [getV] using hp)
    simpa [getV] using this

theorem obl_get {ops : Array Oper} {V : List (Value → World → Prop)} {D : List (List Nat)} {head : List Oper} {a0 : Act} :
    ∀ {l : List Oper} {k : Nat}, oblFrom P C le ops V D head a0 l k → ∀ i o, l[i]? = some o → stepObl P C le ops V head a0 (k + i) (D.getD (k + i) []) o
  | [], _, _, i, o, h => by simp at h
  | p :: l, k, h, 0, o, ho => by
    have : p = o := by simpa using ho
    subst this
    exact h.1
  | p :: l, k, h, i + 1, o, ho => by
    have := obl_get h.2 i o (by simpa using ho)
    rwa [show k + 1 + i = k + (i + 1) by omega] at this

def dstsOf (l : List Oper) : List Tmp := l.filterMap (·.dst)

theorem put_put (a : Act) (d : Option Tmp) (u v : Value) : (a.put d u).put d v = a.put d v := by
  cases d with
  | none => rfl
  | some d => simp [Act.put]

theorem fill_put_new (xs : Nat → Value) (d : Option Tmp) (u : Value) : ∀ (l : List Oper) (k : Nat) (a : Act), (∀ t, d = some t → t ∉ dstsOf l) →
    (fillFrom xs l k a).put d u = fillFrom xs l k (a.put d u)
  | [], _, _, _ => rfl
  | o :: l, k, a, h => by
    simp only [fillFrom]
    rw [fill_put_new xs d u l (k + 1) _ (fun t ht hm => h t ht (by
      unfold dstsOf at *
      rw [List.filterMap_cons]
      split <;> simp_all))]
    rw [Act.put_comm a (xs k) u (fun t ht hd => h t hd (by simp [dstsOf, List.filterMap_cons, ht]))]

theorem fill_congr {xs ys : Nat → Value} : ∀ (l : List Oper) (k : Nat) (a : Act), (∀ i, k ≤ i → xs i = ys i) → fillFrom xs l k a = fillFrom ys l k a
  | [], _, _, _ => rfl
  | o :: l, k, a, h => by
    simp only [fillFrom]
    rw [h k (Nat.le_refl _)]
    exact fill_congr l (k + 1) _ (fun i hi => h i (by omega))

def upd (xs : Nat → Value) (i : Nat) (u : Value) : Nat → Value := fun j => if j = i then u else xs j

theorem fill_put (xs : Nat → Value) (u : Value) : ∀ (l : List Oper) (k i : Nat) (a : Act) (o : Oper), (dstsOf l).Nodup → l[i]? = some o →
    (fillFrom xs l k a).put o.dst u = fillFrom (upd xs (k + i) u) l k a
  | [], _, i, _, _, _, h => by simp at h
  | p :: l, k, 0, a, o, hn, h => by
    have : p = o := by simpa using h
    subst this
    simp only [fillFrom]
    rw [fill_put_new xs p.dst u l (k + 1) _ (fun t ht hm => by
      have : dstsOf (p :: l) = t :: dstsOf l := by simp [dstsOf, List.filterMap_cons, ht]
      rw [this] at hn
      exact (List.nodup_cons.1 hn).1 hm), put_put]
    rw [fill_congr (xs := xs) (ys := upd xs (k + 0) u) l (k + 1) _ (fun i hi => by simp [upd]; omega)]
    simp [upd]
  | p :: l, k, i + 1, a, o, hn, h => by
    simp only [fillFrom]
    have hn' : (dstsOf l).Nodup := by
      unfold dstsOf at *
      rw [List.filterMap_cons] at hn
      split at hn
      · exact hn
      · exact (List.nodup_cons.1 hn).2
    rw [fill_put xs u l (k + 1) i _ o hn' (by simpa using h)]
    rw [show k + 1 + i = k + (i + 1) by omega]
    simp [upd]

theorem put_self (a : Act) (t : Tmp) : a.put (some t) (a.tmps.getD t undef) = a := by
  cases a with
  | mk tmps defers =>
    simp only [Act.put]
    congr 1
    apply Array.ext_getElem?
    intro i
    by_cases h : t = i
    · subst h
      by_cases h2 : t < tmps.size
      · simp [h2]
      · simp [h2]
    · simp [Array.getElem?_setIfInBounds_ne h]

theorem fill_self : ∀ (l : List Oper) (k : Nat) (a : Act), ∃ xs : Nat → Value, ∀ ys : Nat → Value, (∀ i, k ≤ i → ys i = xs i) → fillFrom ys l k a = a
  | [], _, _ => ⟨fun _ => undef, fun _ _ => rfl⟩
  | o :: l, k, a => by
    obtain ⟨xs, h⟩ := fill_self l (k + 1) a
    refine ⟨fun j => if j = k then (match o.dst with | some t => a.tmps.getD t undef | none => undef) else xs j, fun ys hy => ?_⟩
    simp only [fillFrom]
    have h1 : a.put o.dst (ys k) = a := by
      rw [hy k (Nat.le_refl _)]
      cases ho : o.dst with
      | none => rfl
      | some t => simpa using put_self a t
    rw [h1]
    exact h ys (fun i hi => by rw [hy i (by omega)]; simp; omega)

/-- How many of the first n are yet to come. -/
def left (n : Nat) (listed : Array Bool) : Nat := ((List.range n).filter fun i => !listed.getD i true).length

theorem left_set {n i : Nat} {listed : Array Bool} (hi : i < n) (h : listed.getD i true = false) : left n listed = left n (listed.setIfInBounds i true) + 1 := by
  have hs : i < listed.size := by
    rcases Nat.lt_or_ge i listed.size with h' | h'
    · exact h'
    · simp [Array.getElem?_eq_none h'] at h
  unfold left
  have key : ((List.range n).filter fun j => !(listed.setIfInBounds i true).getD j true) = ((List.range n).filter fun j => !listed.getD j true).erase i := by
    rw [List.Nodup.erase_eq_filter (List.Pairwise.filter _ List.nodup_range), List.filter_filter]
    apply List.filter_congr
    intro j _
    by_cases hj : j = i
    · subst hj; simp [hs]
    · rw [getD_set_ne true (Ne.symm hj)]; simp [hj]
  rw [key, List.length_erase_of_mem]
  · have : 0 < ((List.range n).filter fun j => !listed.getD j true).length := List.length_pos_of_mem (a := i) (by simp only [List.mem_filter, List.mem_range]; exact ⟨hi, by simpa using h⟩)
    omega
  · simp only [List.mem_filter, List.mem_range]; exact ⟨hi, by simpa using h⟩

theorem left_zero {n : Nat} {listed : Array Bool} (h : left n listed = 0) : ∀ i, i < n → listed.getD i true = true := by
  intro i hi
  cases hl : listed.getD i true with
  | true => rfl
  | false => have := left_set hi hl; omega

/-- Edges go back. -/
def backB (ops : Array Oper) : Bool := (List.range ops.size).all fun k => ((ops[k]?).map fun o => o.after.all fun e => !Region.binds .any e || decide (e.on < k)).getD true
/-- What is asked to be known is waited for. -/
def depsB (ops : Array Oper) (D : List (List Nat)) : Bool := (List.range ops.size).all fun k => (D.getD k []).all fun j => Region.waitsFor .any ops k j

def headArr (m n : Nat) : Array Bool := (Array.replicate n true) ++ (Array.replicate (m - n) false)

def relB (ops : Array Oper) (n : Nat) (D : List (List Nat)) : Bool :=
  decide (n ≤ ops.size) && backB ops && depsB ops D && decide (dstsOf (ops.toList.take n)).Nodup &&
  (decide (n = ops.size) || (decide (n < ops.size) && Region.sinkB .any ops n && Region.chainB .any ops n)) &&
  Region.seqB .any ops (ops.size - n) n (headArr ops.size n)

structure RInv (C : World → Prop) (ops : Array Oper) (n : Nat) (V : List (Value → World → Prop)) (a0 : Act) (listed : Array Bool) (a : Act) (w : World) : Prop where
  head : HeadInv .any ops n listed
  ext : C w
  fill : ∃ xs : Nat → Value, a = fillFrom xs (ops.toList.take n) 0 a0 ∧ ∀ j, j < n → listed.getD j false = true → getV V j (xs j) w

theorem getD_of_size {listed : Array Bool} {i : Nat} (hi : i < listed.size) (x y : Bool) : listed.getD i x = listed.getD i y := by simp [hi]

theorem wp_of_rel {ops : Array Oper} {o : Oper} {a : Act} {w : World} {R : Value → World → Prop} {K : Act → World → Prop} {Q : Exit → Act → World → Prop}
    (hR : ∀ u w', R u w' → K (a.put o.dst u) w') (h : if Region.wanted o (yielded ops a.tmps) then relUpon P R ((execOp a.eval o).run P w) else R undef w) :
    if Region.wanted o (yielded ops a.tmps) then o.wp P a w K Q ∨ (o.asks P a w ∧ LetsOut Q) else K (a.put o.dst undef) w := by
  split
  · rename_i hw
    rw [if_pos hw] at h
    refine .inl ?_
    unfold Oper.wp
    generalize (execOp a.eval o).run P w = r at *
    cases r with
    | ok nx w' =>
      cases nx <;> simp only [relUpon] at h <;> simp only [Oper.upon]
      case value u => exact hR _ _ h
      case skip => exact hR _ _ h
      case enter f args => exact h.mono fun e w'' ⟨v, he, hv⟩ => by subst he; exact hR _ _ hv
    | halt x w' => simp only [relUpon] at h
  · rename_i hw
    rw [if_neg hw] at h
    exact hR _ _ h

theorem wpAny_rel {ops : Array Oper} {n : Nat} {V : List (Value → World → Prop)} {D : List (List Nat)} {a0 : Act} {Q : Exit → Act → World → Prop} (hC : ∀ w w', C w → le w w' → C w')
    (hB : relB ops n D = true) (hV : stableFrom le V) (hs : oblFrom P C le ops V D (ops.toList.take n) a0 (ops.toList.take n) 0)
    (hQ : ∀ xs w, C w → knows V xs w (List.range n) → wpList P ops Q (ops.toList.drop n) (fillFrom xs (ops.toList.take n) 0 a0) w) :
    ∀ (f : Nat) (listed : Array Bool) (a : Act) (w : World), left n listed = f → RInv C ops n V a0 listed a w → wpAny P .any ops Q (f + (ops.size - n)) listed a w := by
  simp only [relB, Bool.and_eq_true, Bool.or_eq_true, decide_eq_true_eq] at hB
  obtain ⟨⟨⟨⟨⟨hn, hback⟩, hdeps⟩, hnd⟩, htail⟩, hseq⟩ := hB
  intro f
  induction f with
  | zero =>
    intro listed a w hl inv
    have hall := left_zero hl
    have harr : listed = headArr ops.size n := by
      apply Array.ext_getElem?
      intro i
      have hsz := inv.head.size
      unfold headArr
      by_cases h1 : i < n
      · have := hall i h1
        have hi : i < listed.size := by omega
        simp only [hi, Array.getD_eq_getD_getElem?, Array.getElem?_eq_getElem, Option.getD_some] at this
        rw [Array.getElem?_append_left (by simpa using h1)]
        simp [hi, h1, this]
      · by_cases h2 : i < ops.size
        · have := inv.head.tail i (by omega) h2
          have hi : i < listed.size := by omega
          simp only [hi, Array.getD_eq_getD_getElem?, Array.getElem?_eq_getElem, Option.getD_some] at this
          rw [Array.getElem?_append_right (by simpa using h1)]
          simp only [hi, Array.getElem?_eq_getElem, this]
          rw [Array.getElem?_replicate, if_pos (by simp; omega)]
        · rw [Array.getElem?_eq_none (by omega), Array.getElem?_eq_none (by simp; omega)]
    obtain ⟨xs, ha, hx⟩ := inv.fill
    have hk : knows V xs w (List.range n) := knows_of fun j hj => hx j (List.mem_range.1 hj) (by
      have := hall j (List.mem_range.1 hj)
      have hj' := List.mem_range.1 hj
      rwa [getD_of_size (by rw [inv.head.size]; omega) true false] at this)
    have := hQ xs w inv.ext hk
    rw [← ha] at this
    rw [Nat.zero_add]
    have h2 := wpAny_of_seq (md := .any) (Q' := Q) (ops.toList.drop n) n listed a w (fun j => by simp [List.getElem?_drop]) (by rw [harr]; simpa using hseq) this
    simpa using h2
  | succ f ih =>
    intro listed a w hl inv
    rw [show f + 1 + (ops.size - n) = (f + (ops.size - n)) + 1 by omega]
    -- one of the head is yet to come
    have hex : ∃ i, i < n ∧ listed.getD i true = false := by
      have h1 : 0 < ((List.range n).filter fun i => !listed.getD i true).length := by unfold left at hl; omega
      obtain ⟨i, hi⟩ := List.exists_mem_of_length_pos h1
      simp only [List.mem_filter, List.mem_range] at hi
      exact ⟨i, hi.1, by simpa using hi.2⟩
    have hready : ∃ i, i < n ∧ i ∈ Region.ready .any ops listed := by
      obtain ⟨i, hi, hu⟩ := hex
      revert hi hu
      induction i using Nat.strongRecOn with
      | _ i ihh =>
        intro hi hu
        have hlt : i < ops.size := by omega
        by_cases hr : i ∈ Region.ready .any ops listed
        · exact ⟨i, hi, hr⟩
        · have ho : ops[i]? = some ops[i] := Array.getElem?_eq_getElem hlt
          have hb := List.all_eq_true.1 hback i (List.mem_range.2 hlt)
          rw [ho] at hb
          simp only [Option.map_some, Option.getD_some] at hb
          have : ∃ e ∈ ops[i].after, Region.binds .any e = true ∧ listed.getD e.on false = false := by
            apply Classical.byContradiction
            intro hno
            apply hr
            rw [mem_ready]
            refine ⟨hu, ops[i], ho, fun e he hbd => ?_⟩
            cases hq : listed.getD e.on false with
            | true => rfl
            | false => exact absurd ⟨e, he, hbd, hq⟩ hno
          obtain ⟨e, he, hbd, hq⟩ := this
          have hlt2 := Array.all_eq_true'.1 hb e he
          simp only [hbd, Bool.not_true, Bool.false_or, decide_eq_true_eq] at hlt2
          exact ihh e.on hlt2 (by omega) (getD_in (by rw [inv.head.size]; omega) hq)
    refine ⟨fun h0 => ?_, fun i hi => ?_⟩
    · obtain ⟨i, _, hr⟩ := hready
      rw [h0] at hr; cases hr
    · have hin : i < n := by
        rcases Nat.lt_or_ge i n with h | h
        · exact h
        · exfalso
          rcases htail with h2 | ⟨⟨hlt, hsk⟩, hch⟩
          · obtain ⟨_, o, ho, _⟩ := mem_ready.1 hi
            have := (Array.getElem?_eq_some_iff.1 ho).1
            omega
          · obtain ⟨j, hj, hu⟩ := hex
            exact tail_waits hsk hch hlt inv.head _ j rfl hj hu i h hi
      obtain ⟨hu, o, ho, hw⟩ := mem_ready.1 hi
      obtain ⟨xs, ha, hx⟩ := inv.fill
      have hoi : (ops.toList.take n)[i]? = some o := by simp [hin, ho]
      have hst := obl_get hs i o hoi
      rw [Nat.zero_add] at hst
      have hkn : knows V xs w (D.getD i []) := knows_of fun j hj => by
        have h1 := List.all_eq_true.1 hdeps i (List.mem_range.2 (by omega))
        have h2 := List.all_eq_true.1 h1 j hj
        obtain ⟨o', ho', e, he, hb, hon⟩ := Region.waitsFor_spec h2
        have : o' = o := Option.some.inj (ho'.symm.trans ho)
        subst this
        have h3 := hw e he hb
        rw [hon] at h3
        have hjn : j < n := by
          have hb1 := List.all_eq_true.1 hback i (List.mem_range.2 (by omega))
          rw [ho] at hb1
          simp only [Option.map_some, Option.getD_some] at hb1
          have h4 := Array.all_eq_true'.1 hb1 e he
          simp only [hb, Bool.not_true, Bool.false_or, decide_eq_true_eq] at h4
          omega
        exact hx j hjn h3
      have hstep := hst xs w inv.ext hkn (fun u w' => le w w' ∧ getV V i u w') (fun u w' h1 h2 => ⟨h1, h2⟩)
      rw [← ha] at hstep
      have hres := wp_of_rel (P := P) (ops := ops) (Q := Q) (K := wpAny P .any ops Q (f + (ops.size - n)) (listed.setIfInBounds i true)) (fun u w' h => by
        refine ih (listed.setIfInBounds i true) (a.put o.dst u) w' ?_ ⟨inv.head.set hi hin, hC _ _ inv.ext h.1, upd xs i u, ?_, ?_⟩
        · have := left_set hin hu
          omega
        · rw [ha, fill_put xs u (ops.toList.take n) 0 i a0 o hnd hoi, Nat.zero_add]
        · intro j hj hlj
          by_cases hji : j = i
          · subst hji; simpa [upd] using h.2
          · rw [getD_set_ne false (Ne.symm hji)] at hlj
            simp only [upd, hji, if_false]
            exact stable_get hV j _ _ _ h.1 (hx j hj hlj)) hstep
      unfold wpOp
      simp only [ho]
      exact hres

/-- A region that draws its order: its head by each operation alone, its tail in the text's order. -/
theorem wp_region_le {id : Nat} {Q : Exit → Act → World → Prop} {a : Act} {w : World} {l : List Oper} (n : Nat) (V : List (Value → World → Prop)) (D : List (List Nat))
    (hm : P.follows .mixedOrders = true) (hC : ∀ w w', C w → le w w' → C w') (hC0 : C { w with drawn := w.drawn + 1 }) (hB : relB l.toArray n D = true) (hV : stableFrom le V)
    (hs : oblFrom P C le l.toArray V D (l.take n) a (l.take n) 0)
    (hQ : ∀ xs w', C w' → knows V xs w' (List.range n) → wpList P l.toArray Q (l.drop n) (fillFrom xs (l.take n) 0 a) w') :
    (Code.region id l.toArray true).wp P Q a w := by
  refine wp_region_any hm ?_
  have hn : n ≤ l.toArray.size := by
    simp only [relB, Bool.and_eq_true, decide_eq_true_eq] at hB
    exact hB.1.1.1.1.1
  obtain ⟨xs0, h0⟩ := fill_self (l.take n) 0 a
  have hl : left n (Array.replicate l.toArray.size false) = n := by
    unfold left
    rw [List.filter_eq_self.2]
    · simp
    · intro i hi
      have : i < l.toArray.size := by have := List.mem_range.1 hi; omega
      simp at this
      simp [this]
  have H := wpAny_rel (P := P) (C := C) (le := le) (Q := Q) (a0 := a) hC hB hV (by simpa using hs) (by simpa using hQ) n (Array.replicate l.toArray.size false) a { w with drawn := w.drawn + 1 } hl
    ⟨⟨by simp, fun j oj _ hl => (by rw [getD_replicate_false] at hl; cases hl), fun t _ ht => getD_in (by simpa using ht) (getD_replicate_false _ _)⟩,
      hC0, xs0, by simpa using (h0 xs0 (fun _ _ => rfl)).symm, fun j _ hl => (by rw [getD_replicate_false] at hl; cases hl)⟩
  rw [show n + (l.toArray.size - n) = l.toArray.size by omega] at H
  exact H

/-- .. at worlds that go on. -/
theorem wp_region_rel {id : Nat} {Q : Exit → Act → World → Prop} {a : Act} {w : World} {l : List Oper} (n : Nat) (V : List (Value → World → Prop)) (D : List (List Nat))
    (hm : P.follows .mixedOrders = true) (hB : relB l.toArray n D = true) (hV : stableFrom Ext V)
    (hs : oblFrom P (Ext w) Ext l.toArray V D (l.take n) a (l.take n) 0)
    (hQ : ∀ xs w', Ext w w' → knows V xs w' (List.range n) → wpList P l.toArray Q (l.drop n) (fillFrom xs (l.take n) 0 a) w') :
    (Code.region id l.toArray true).wp P Q a w :=
  wp_region_le (C := Ext w) (le := Ext) n V D hm (fun _ _ h k => Ext.trans h k) ⟨rfl, rfl, rfl, Nat.le_refl _, fun _ _ => rfl⟩ hB hV hs hQ

/-- Of each operation: a value ('none': the one of the list), or what is known of it. -/
def mixV : List Value → List (Option (Value → World → Prop)) → List (Value → World → Prop)
  | c :: cs, none :: l => (fun u _ => u = c) :: mixV cs l
  | _ :: cs, some V :: l => V :: mixV cs l
  | _, _ => []
def stabW : List (Option (Value → World → Prop)) → Prop
  | [] => True
  | none :: l => stabW l
  | some V :: l => (∀ u w w', Ext w w' → V u w → V u w') ∧ stabW l
theorem stab_mix : ∀ (cs : List Value) (l : List (Option (Value → World → Prop))), stabW l → stableFrom Ext (mixV cs l)
  | [], [], _ => trivial
  | [], _ :: _, _ => trivial
  | _ :: _, [], _ => trivial
  | _ :: cs, none :: l, h => ⟨fun _ _ _ _ hu => hu, stab_mix cs l h⟩
  | _ :: cs, some _ :: l, h => ⟨h.1, stab_mix cs l h.2⟩

def heldV : List Value → List (Option (Value → World → Prop)) → Nat → (Nat → Value) → World → Prop
  | c :: cs, none :: l, k, xs, w => xs k = c ∧ heldV cs l (k + 1) xs w
  | _ :: cs, some V :: l, k, xs, w => V (xs k) w ∧ heldV cs l (k + 1) xs w
  | _, _, _, _, _ => True
theorem held_of (xs : Nat → Value) (w : World) : ∀ (cs : List Value) (l : List (Option (Value → World → Prop))) (k : Nat), (∀ j, j < (mixV cs l).length → getV (mixV cs l) j (xs (k + j)) w) → heldV cs l k xs w
  | [], [], _, _ => trivial
  | [], _ :: _, _, _ => trivial
  | _ :: _, [], _, _ => trivial
  | c :: cs, none :: l, k, h => ⟨by simpa [getV, mixV] using h 0 (by simp [mixV]), held_of xs w cs l (k + 1) fun j hj => by
      have := h (j + 1) (by simp [mixV]; omega)
      rw [show k + (j + 1) = k + 1 + j by omega] at this
      simpa [getV, mixV] using this⟩
  | c :: cs, some V :: l, k, h => ⟨by simpa [getV, mixV] using h 0 (by simp [mixV]), held_of xs w cs l (k + 1) fun j hj => by
      have := h (j + 1) (by simp [mixV]; omega)
      rw [show k + (j + 1) = k + 1 + j by omega] at this
      simpa [getV, mixV] using this⟩
theorem knows_get {V : List (Value → World → Prop)} {xs : Nat → Value} {w : World} : ∀ {l : List Nat}, knows V xs w l → ∀ j ∈ l, getV V j (xs j) w
  | [], _, _, h => by simp at h
  | i :: l, h, j, hj => by
    rcases List.mem_cons.1 hj with rfl | hj
    · exact h.1
    · exact knows_get h.2 j hj

theorem wp_region_mix {id : Nat} {Q : Exit → Act → World → Prop} {a : Act} {w : World} {l : List Oper} (n : Nat) (cs : List Value) (W : List (Option (Value → World → Prop))) (D : List (List Nat))
    (hm : P.follows .mixedOrders = true) (hB : relB l.toArray n D = true) (hn : (mixV cs W).length ≤ n) (hV : stabW W)
    (hs : oblFrom P (Ext w) Ext l.toArray (mixV cs W) D (l.take n) a (l.take n) 0)
    (hQ : ∀ xs w', Ext w w' → heldV cs W 0 xs w' → wpList P l.toArray Q (l.drop n) (fillFrom xs (l.take n) 0 a) w') :
    (Code.region id l.toArray true).wp P Q a w :=
  wp_region_rel n (mixV cs W) D hm hB (stab_mix cs W hV) hs fun xs w' h1 h2 => hQ xs w' h1 (held_of xs w' cs W 0 fun j hj => by
    rw [Nat.zero_add]; exact knows_get h2 j (List.mem_range.2 (by omega)))

/-! ### The head's values do not hang on the world: one walk of the text's order -/
def readsB (ops : Array Oper) (k j : Nat) : Bool := match ops[k]?, (ops[j]?).bind (·.dst) with
  | some o, some t => (o.looksAt ops).contains t
  | _, _ => false
def qtD (ops : Array Oper) : List (List Nat) := (List.range ops.size).map fun k => (List.range k).filter (readsB ops k)
def locB (ops : Array Oper) (n : Nat) : Bool := (List.range n).all fun k => (List.range n).all fun j => decide (j < k) || !readsB ops k j
def qtB (ops : Array Oper) (n : Nat) : Bool := relB ops n (qtD ops) && locB ops n && Region.noSelect ops

end

end Go.Proofs.YtalpfoomkhhgnaaGreatDoor

/-! A region that draws its order, some of whose operations do not look at the world at all: these first; then its head by each operation alone; then the rest in the text's order. Conditions: as the theorem states. -/
namespace Go.Proofs.YtalpfoomkhhgnaaGreatDoor
open Go Go.RowKit

section
variable {P : Program} {C : World → Prop} {le : World → World → Prop} {ops : Array Oper}

/-- In this frame the operation yields v, whatever the world. -/
def PureAt (P : Program) (ops : Array Oper) (o : Oper) (v : Value) (a : Act) : Prop :=
  Region.wanted o (yielded ops a.tmps) = true ∧ ∀ w, (execOp a.eval o).run P w = .ok (.value v) w

theorem PureAt.put {o : Oper} {v : Value} {a : Act} (h : PureAt P ops o v a) (hs : ∀ cs b, o.op ≠ .select cs b) (d : Option Tmp) (u : Value) (hd : ∀ t, d = some t → t ∉ o.looksAt ops) : PureAt P ops o v (a.put d u) :=
  ⟨by rw [wanted_put o a d u hd]; exact h.1, by rw [execOp_put o hs a d u hd]; exact h.2⟩

theorem PureAt.defers {o : Oper} {v : Value} {a : Act} (h : PureAt P ops o v a) (ds : List Deferred) : PureAt P ops o v { a with defers := ds } := h

theorem wpOp_put {j : Nat} {oi oj : Oper} {v : Value} {Q : Exit → Act → World → Prop} (hj : ops[j]? = some oj) (hap : oi.apart ops oj = true)
    (hsi : ∀ cs b, oi.op ≠ .select cs b) (hsj : ∀ cs b, oj.op ≠ .select cs b) (hP : ∀ c a d u w, Q (.panic c) (Act.put a d u) w → Q (.panic c) a w)
    {K K' : Act → World → Prop} (hK : ∀ a w, PureAt P ops oi v a → K (a.put oi.dst v) w → K' a w) {a : Act} {w : World}
    (hy : PureAt P ops oi v a) (h : wpOp P ops Q j K (a.put oi.dst v) w) : wpOp P ops Q j K' a w := by
  obtain ⟨h1, h2, h3⟩ := Oper.apart_spec hap
  have hput : ∀ (a : Act) u, (a.put oi.dst v).put oj.dst u = (a.put oj.dst u).put oi.dst v := fun a u => Act.put_comm a v u h2
  unfold wpOp at *
  simp only [hj] at *
  rw [wanted_put oj a oi.dst v h1] at h
  split
  · rename_i hw
    rw [if_pos hw] at h
    have hex : execOp (a.put oi.dst v).eval oj = execOp a.eval oj := execOp_put oj hsj a oi.dst v h1
    rcases h with h | ⟨h, hl⟩
    · refine .inl ?_
      unfold Oper.wp at *
      rw [hex] at h
      generalize (execOp a.eval oj).run P w = r at *
      cases r with
      | ok nx w' =>
        cases nx <;> simp only [Oper.upon] at h ⊢
        case value u => exact hK _ _ (hy.put hsi _ _ h3) (by rw [← hput]; exact h)
        case skip => exact hK _ _ (hy.put hsi _ _ h3) (by rw [← hput]; exact h)
        case defer d =>
          refine hK _ _ ((hy.defers _).put hsi _ _ h3) ?_
          rw [Act.put_defers] at h
          rw [← Act.put_comm _ v undef h2]
          exact h
        case enter f args =>
          refine h.mono fun e w'' he => ?_
          cases e with
          | returned u => exact hK _ _ (hy.put hsi _ _ h3) (by rw [← hput]; exact he)
          | panicked c => exact hP _ _ _ _ _ he
          | outgrown => exact he
        case row r args => exact Rows.mono h (fun u w'' hu => hK _ _ (hy.put hsi _ _ h3) (by rw [← hput]; exact hu))
      | halt x w' =>
        cases x <;> simp only [Oper.upon] at h ⊢
        exact hP _ _ _ _ _ h
    · refine .inr ⟨?_, hl⟩
      unfold Oper.asks at *
      rwa [hex] at h
  · rename_i hw
    rw [if_neg hw] at h
    exact hK _ _ (hy.put hsi _ _ h3) (by rw [← hput]; exact h)

/-- Such an operation may be taken first. -/
theorem wpAny_first {md : Region.Mode} {Q : Exit → Act → World → Prop} {i : Nat} {oi : Oper} {v : Value} (hi : ops[i]? = some oi) (hsel : ∀ (j : Nat) (o : Oper) cs b, ops[j]? = some o → o.op ≠ .select cs b)
    (hP : ∀ c a d u w, Q (.panic c) (Act.put a d u) w → Q (.panic c) a w) :
    ∀ (fuel : Nat) (listed : Array Bool) (a : Act) (w : World),
      (∀ j oj, ops[j]? = some oj → j ≠ i → listed.getD j true = false → (∀ e ∈ oj.after, Region.binds md e = true → e.on ≠ i) → oi.apart ops oj = true) →
      i ∈ Region.ready md ops listed → PureAt P ops oi v a →
      wpAny P md ops Q fuel (listed.setIfInBounds i true) (a.put oi.dst v) w → wpAny P md ops Q (fuel + 1) listed a w := by
  have self : ∀ (K : Act → World → Prop) (a : Act) (w : World), PureAt P ops oi v a → K (a.put oi.dst v) w → wpOp P ops Q i K a w := fun K a w hy hk => by
    unfold wpOp
    simp only [hi]
    rw [if_pos hy.1]
    refine .inl ?_
    unfold Oper.wp
    rw [hy.2 w]
    exact hk
  intro fuel
  induction fuel with
  | zero =>
    intro listed a w _ hr hy H
    refine ⟨fun h => (by rw [h] at hr; cases hr), fun j hj => ?_⟩
    by_cases hji : j = i
    · subst hji; exact self _ _ _ hy H
    · have := ready_mono hj hji
      rw [H.1] at this
      cases this
  | succ fuel ih =>
    intro listed a w hfree hr hy H
    refine ⟨fun h => (by rw [h] at hr; cases hr), fun j hj => ?_⟩
    by_cases hji : j = i
    · subst hji; exact self _ _ _ hy H
    · have h1 := H.2 j (ready_mono hj hji)
      obtain ⟨hjun, oj, hoj, hall⟩ := mem_ready.1 hj
      have hnot : ∀ e ∈ oj.after, Region.binds md e = true → e.on ≠ i := fun e he hb heq => by
        have h1 := hall e he hb
        have h0 := (mem_ready.1 hr).1
        rw [heq, getD_both h0] at h1
        cases h1
      have hfree' : ∀ k ok, ops[k]? = some ok → k ≠ i → (listed.setIfInBounds j true).getD k true = false →
          (∀ e ∈ ok.after, Region.binds md e = true → e.on ≠ i) → oi.apart ops ok = true := fun k ok hk hki hun hno => by
        refine hfree k ok hk hki ?_ hno
        by_cases hjk : j = k
        · subst hjk; exact hjun
        · rw [getD_set_ne true hjk] at hun; exact hun
      refine wpOp_put hoj (hfree j oj hoj hji hjun hnot) (fun cs b => hsel i oi cs b hi) (fun cs b => hsel j oj cs b hoj) hP (fun a' w' hy' hk => ih (listed.setIfInBounds j true) a' w' hfree' (ready_mono hr (Ne.symm hji)) hy' ?_) hy h1
      rw [Array.setIfInBounds_comm _ _ hji]
      exact hk

/-! ### What an operation waits for, through others -/
def depsOf (o : Oper) : List Nat := (o.after.toList.filter (Region.binds .any)).map (·.on)
def closF : List Oper → List (List Nat) → List (List Nat)
  | [], acc => acc
  | o :: l, acc => closF l (acc ++ [depsOf o ++ (depsOf o).flatMap fun j => acc.getD j []])

def Closed (ops : Array Oper) (listed : Array Bool) : Prop := ∀ j oj, ops[j]? = some oj → listed.getD j false = true → ∀ d ∈ depsOf oj, listed.getD d false = true

def tailB (ops : Array Oper) (n : Nat) (T : List Nat) : Bool := T.all fun t => decide (n ≤ t) && (List.range n).all fun i => ((closF ops.toList []).getD t []).contains i

/-- The rest comes up one by one. -/
def seqT (ops : Array Oper) : List Nat → Array Bool → Bool
  | [], listed => (Region.ready .any ops listed).isEmpty
  | t :: T, listed => decide (Region.ready .any ops listed = [t]) && seqT ops T (listed.setIfInBounds t true)

def pick (ops : Array Oper) (T : List Nat) : List Oper := T.filterMap fun t => ops[t]?

def startArr (m : Nat) (pre : List Nat) : Array Bool := pre.foldl (fun l i => l.setIfInBounds i true) (Array.replicate m false)

def fullArr (m n : Nat) (pre : List Nat) : Array Bool := ((List.range m).map fun i => decide (i < n) || pre.contains i).toArray

def relP (ops : Array Oper) (n : Nat) (pre T : List Nat) (D : List (List Nat)) : Bool :=
  decide (n ≤ ops.size) && backB ops && depsB ops D && decide (dstsOf (ops.toList.take n)).Nodup &&
  pre.all (fun p => decide (n ≤ p) && decide (p < ops.size)) && T.all (fun t => decide (t < ops.size)) && tailB ops n T && (List.range ops.size).all (fun i => decide (i < n) || (pre.contains i || T.contains i)) &&
  seqT ops T (fullArr ops.size n pre) && (List.range ops.size).all (fun i => (startArr ops.size pre).getD i false == pre.contains i)

structure RInvP (C : World → Prop) (ops : Array Oper) (n : Nat) (pre T : List Nat) (V : List (Value → World → Prop)) (a0 : Act) (listed : Array Bool) (a : Act) (w : World) : Prop where
  size : listed.size = ops.size
  closed : Closed ops listed
  tail : ∀ t ∈ T, listed.getD t true = false
  pre : ∀ p ∈ pre, listed.getD p false = true
  ext : C w
  fill : ∃ xs : Nat → Value, a = fillFrom xs (ops.toList.take n) 0 a0 ∧ ∀ j, j < n → listed.getD j false = true → getV V j (xs j) w

theorem mem_depsOf {o : Oper} {d : Nat} : d ∈ depsOf o ↔ ∃ e ∈ o.after, Region.binds .any e = true ∧ e.on = d := by
  simp only [depsOf, List.mem_map, List.mem_filter]
  constructor
  · rintro ⟨e, ⟨h1, h2⟩, h3⟩; exact ⟨e, by simpa using h1, h2, h3⟩
  · rintro ⟨e, h1, h2, h3⟩; exact ⟨e, ⟨by simpa using h1, h2⟩, h3⟩

theorem Closed.set {listed : Array Bool} (h : Closed ops listed) {i : Nat} (hi : i ∈ Region.ready .any ops listed) : Closed ops (listed.setIfInBounds i true) := by
  obtain ⟨_, oi, hoi, hall⟩ := mem_ready.1 hi
  intro j oj hj hl d hd
  by_cases hij : i = j
  · subst hij
    have : oj = oi := Option.some.inj (hj.symm.trans hoi)
    subst this
    obtain ⟨e, he, hb, rfl⟩ := mem_depsOf.1 hd
    exact getD_set_true (hall e he hb)
  · rw [getD_set_ne false hij] at hl
    exact getD_set_true (h j oj hj hl d hd)

/-- The operations that don't look at the world, with their values, taken first. -/
def preFill (ops : Array Oper) : List (Nat × Value) → Act → Act
  | [], a => a
  | (i, v) :: l, a => preFill ops l (a.put ((ops[i]?).bind (·.dst)) v)
def PureAll (P : Program) (ops : Array Oper) : List (Nat × Value) → Act → Prop
  | [], _ => True
  | (i, v) :: l, a => (∃ o, ops[i]? = some o ∧ PureAt P ops o v a) ∧ PureAll P ops l (a.put ((ops[i]?).bind (·.dst)) v)
def preB (ops : Array Oper) : List Nat → Array Bool → Bool
  | [], _ => true
  | i :: l, listed => (Region.ready .any ops listed).contains i && Region.free .any ops listed i && preB ops l (listed.setIfInBounds i true)

/-- Q, but nothing at a panic. -/
def NoP (Q : Exit → Act → World → Prop) : Exit → Act → World → Prop
  | .panic _, _, _ => False
  | e, a, w => Q e a w
theorem NoP.intro {Q : Exit → Act → World → Prop} {a : Act} {w : World} (h : Q .normal a w) : NoP Q .normal a w := h

end

end Go.Proofs.YtalpfoomkhhgnaaGreatDoor

/-! A region that draws its order, one operation of whose head does not look at the world and need not come ahead of the rest: it is taken first. Conditions: as the theorem states. -/
namespace Go.Proofs.YtalpfoomkhhgnaaGreatDoor
open Go Go.RowKit

section
variable {P : Program} {C : World → Prop} {le : World → World → Prop} {ops : Array Oper} {md : Region.Mode}

def sinkF (md : Region.Mode) (ops : Array Oper) (n f : Nat) : Bool :=
  (List.range n).all fun i => decide (i = f) || (List.range (n + 1)).any fun j => decide (i < j) && Region.waitsFor md ops j i

theorem tail_waitsF {n f : Nat} {listed : Array Bool} (hs : sinkF md ops n f = true) (hc : Region.chainB md ops n = true) (hn : n < ops.size) (inv : HeadInv md ops n listed) (hf : listed.getD f true = true) :
    ∀ (d i : Nat), n - i = d → i < n → listed.getD i true = false → ∀ t, n ≤ t → t ∉ Region.ready md ops listed := by
  intro d
  induction d using Nat.strongRecOn with
  | _ d ih =>
    intro i hd hi hun t ht hr
    obtain ⟨_, ot, hot, hall⟩ := mem_ready.1 hr
    have htlt : t < ops.size := (Array.getElem?_eq_some_iff.1 hot).1
    by_cases htn : t = n
    · subst htn
      have h1 := List.all_eq_true.1 hs i (List.mem_range.2 hi)
      simp only [Bool.or_eq_true, decide_eq_true_eq] at h1
      rcases h1 with h1 | h1
      · subst h1; rw [hf] at hun; cases hun
      obtain ⟨j, hj, hj2⟩ := List.any_eq_true.1 h1
      simp only [Bool.and_eq_true, decide_eq_true_eq] at hj2
      obtain ⟨oj, hoj, e, he, hb, hon⟩ := Region.waitsFor_spec hj2.2
      have hjle : j ≤ t := by have := List.mem_range.1 hj; omega
      by_cases hjt : j = t
      · subst hjt
        have : oj = ot := Option.some.inj (hoj.symm.trans hot)
        subst this
        have h2 := hall e he hb
        rw [hon, getD_both hun] at h2
        cases h2
      · cases hl : listed.getD j false with
        | true =>
          have h2 := inv.closed j oj hoj hl e he hb
          rw [hon, getD_both hun] at h2
          cases h2
        | false =>
          have hjs : j < listed.size := by rw [inv.size]; omega
          exact ih (t - j) (by omega) j rfl (by omega) (getD_in hjs hl) t (Nat.le_refl _) hr
    · have h1 := List.all_eq_true.1 hc t (List.mem_range.2 htlt)
      simp only [Bool.or_eq_true, decide_eq_true_eq] at h1
      rcases h1 with h1 | h1
      · omega
      · obtain ⟨o', ho', e, he, hb, hon⟩ := Region.waitsFor_spec h1
        have : o' = ot := Option.some.inj (ho'.symm.trans hot)
        subst this
        have h2 := hall e he hb
        rw [hon, getD_both (inv.tail (t - 1) (by omega) (by omega))] at h2
        cases h2

def relF (ops : Array Oper) (n f : Nat) (D : List (List Nat)) : Bool :=
  decide (n ≤ ops.size) && backB ops && depsB ops D && decide (dstsOf (ops.toList.take n)).Nodup &&
  (decide (n < ops.size) && sinkF .any ops n f && Region.chainB .any ops n) &&
  Region.seqB .any ops (ops.size - n) n (headArr ops.size n)

theorem wpAny_relF {n ff : Nat} {V : List (Value → World → Prop)} {D : List (List Nat)} {a0 : Act} {Q : Exit → Act → World → Prop} (hC : ∀ w w', C w → le w w' → C w')
    (hB : relF ops n ff D = true) (hV : stableFrom le V) (hs : oblFrom P C le ops V D (ops.toList.take n) a0 (ops.toList.take n) 0)
    (hQ : ∀ xs w, C w → knows V xs w (List.range n) → wpList P ops Q (ops.toList.drop n) (fillFrom xs (ops.toList.take n) 0 a0) w) :
    ∀ (f : Nat) (listed : Array Bool) (a : Act) (w : World), left n listed = f → listed.getD ff true = true → RInv C ops n V a0 listed a w → wpAny P .any ops Q (f + (ops.size - n)) listed a w := by
  simp only [relF, Bool.and_eq_true, decide_eq_true_eq] at hB
  obtain ⟨⟨⟨⟨⟨hn, hback⟩, hdeps⟩, hnd⟩, ⟨⟨hlt0, hsk⟩, hch⟩⟩, hseq⟩ := hB
  intro f
  induction f with
  | zero =>
    intro listed a w hl _ inv
    have hall := left_zero hl
    have harr : listed = headArr ops.size n := by
      apply Array.ext_getElem?
      intro i
      have hsz := inv.head.size
      unfold headArr
      by_cases h1 : i < n
      · have := hall i h1
        have hi : i < listed.size := by omega
        simp only [hi, Array.getD_eq_getD_getElem?, Array.getElem?_eq_getElem, Option.getD_some] at this
        rw [Array.getElem?_append_left (by simpa using h1)]
        simp [hi, h1, this]
      · by_cases h2 : i < ops.size
        · have := inv.head.tail i (by omega) h2
          have hi : i < listed.size := by omega
          simp only [hi, Array.getD_eq_getD_getElem?, Array.getElem?_eq_getElem, Option.getD_some] at this
          rw [Array.getElem?_append_right (by simpa using h1)]
          simp only [hi, Array.getElem?_eq_getElem, this]
          rw [Array.getElem?_replicate, if_pos (by simp; omega)]
        · rw [Array.getElem?_eq_none (by omega), Array.getElem?_eq_none (by simp; omega)]
    obtain ⟨xs, ha, hx⟩ := inv.fill
    have hk : knows V xs w (List.range n) := knows_of fun j hj => hx j (List.mem_range.1 hj) (by
      have := hall j (List.mem_range.1 hj)
      have hj' := List.mem_range.1 hj
      rwa [getD_of_size (by rw [inv.head.size]; omega) true false] at this)
    have := hQ xs w inv.ext hk
    rw [← ha] at this
    rw [Nat.zero_add]
    have h2 := wpAny_of_seq (md := .any) (Q' := Q) (ops.toList.drop n) n listed a w (fun j => by simp [List.getElem?_drop]) (by rw [harr]; simpa using hseq) this
    simpa using h2
  | succ f ih =>
    intro listed a w hl hff inv
    rw [show f + 1 + (ops.size - n) = (f + (ops.size - n)) + 1 by omega]
    have hex : ∃ i, i < n ∧ listed.getD i true = false := by
      have h1 : 0 < ((List.range n).filter fun i => !listed.getD i true).length := by unfold left at hl; omega
      obtain ⟨i, hi⟩ := List.exists_mem_of_length_pos h1
      simp only [List.mem_filter, List.mem_range] at hi
      exact ⟨i, hi.1, by simpa using hi.2⟩
    have hready : ∃ i, i < n ∧ i ∈ Region.ready .any ops listed := by
      obtain ⟨i, hi, hu⟩ := hex
      revert hi hu
      induction i using Nat.strongRecOn with
      | _ i ihh =>
        intro hi hu
        have hlt : i < ops.size := by omega
        by_cases hr : i ∈ Region.ready .any ops listed
        · exact ⟨i, hi, hr⟩
        · have ho : ops[i]? = some ops[i] := Array.getElem?_eq_getElem hlt
          have hb := List.all_eq_true.1 hback i (List.mem_range.2 hlt)
          rw [ho] at hb
          simp only [Option.map_some, Option.getD_some] at hb
          have : ∃ e ∈ ops[i].after, Region.binds .any e = true ∧ listed.getD e.on false = false := by
            apply Classical.byContradiction
            intro hno
            apply hr
            rw [mem_ready]
            refine ⟨hu, ops[i], ho, fun e he hbd => ?_⟩
            cases hq : listed.getD e.on false with
            | true => rfl
            | false => exact absurd ⟨e, he, hbd, hq⟩ hno
          obtain ⟨e, he, hbd, hq⟩ := this
          have hlt2 := Array.all_eq_true'.1 hb e he
          simp only [hbd, Bool.not_true, Bool.false_or, decide_eq_true_eq] at hlt2
          exact ihh e.on hlt2 (by omega) (getD_in (by rw [inv.head.size]; omega) hq)
    refine ⟨fun h0 => ?_, fun i hi => ?_⟩
    · obtain ⟨i, _, hr⟩ := hready
      rw [h0] at hr; cases hr
    · have hin : i < n := by
        rcases Nat.lt_or_ge i n with h | h
        · exact h
        · exfalso
          obtain ⟨j, hj, hu⟩ := hex
          exact tail_waitsF hsk hch hlt0 inv.head hff _ j rfl hj hu i h hi
      obtain ⟨hu, o, ho, hw⟩ := mem_ready.1 hi
      obtain ⟨xs, ha, hx⟩ := inv.fill
      have hoi : (ops.toList.take n)[i]? = some o := by simp [hin, ho]
      have hst := obl_get hs i o hoi
      rw [Nat.zero_add] at hst
      have hkn : knows V xs w (D.getD i []) := knows_of fun j hj => by
        have h1 := List.all_eq_true.1 hdeps i (List.mem_range.2 (by omega))
        have h2 := List.all_eq_true.1 h1 j hj
        obtain ⟨o', ho', e, he, hb, hon⟩ := Region.waitsFor_spec h2
        have : o' = o := Option.some.inj (ho'.symm.trans ho)
        subst this
        have h3 := hw e he hb
        rw [hon] at h3
        have hjn : j < n := by
          have hb1 := List.all_eq_true.1 hback i (List.mem_range.2 (by omega))
          rw [ho] at hb1
          simp only [Option.map_some, Option.getD_some] at hb1
          have h4 := Array.all_eq_true'.1 hb1 e he
          simp only [hb, Bool.not_true, Bool.false_or, decide_eq_true_eq] at h4
          omega
        exact hx j hjn h3
      have hstep := hst xs w inv.ext hkn (fun u w' => le w w' ∧ getV V i u w') (fun u w' h1 h2 => ⟨h1, h2⟩)
      rw [← ha] at hstep
      have hfi : i ≠ ff := by rintro rfl; rw [hff] at hu; cases hu
      have hres := wp_of_rel (P := P) (ops := ops) (Q := Q) (K := wpAny P .any ops Q (f + (ops.size - n)) (listed.setIfInBounds i true)) (fun u w' h => by
        refine ih (listed.setIfInBounds i true) (a.put o.dst u) w' ?_ (by rw [getD_set_ne true hfi]; exact hff) ⟨inv.head.set hi hin, hC _ _ inv.ext h.1, upd xs i u, ?_, ?_⟩
        · have := left_set hin hu
          omega
        · rw [ha, fill_put xs u (ops.toList.take n) 0 i a0 o hnd hoi, Nat.zero_add]
        · intro j hj hlj
          by_cases hji : j = i
          · subst hji; simpa [upd] using h.2
          · rw [getD_set_ne false (Ne.symm hji)] at hlj
            simp only [upd, hji, if_false]
            exact stable_get hV j _ _ _ h.1 (hx j hj hlj)) hstep
      unfold wpOp
      simp only [ho]
      exact hres

theorem wp_region_free0 {id : Nat} {Q : Exit → Act → World → Prop} {a : Act} {w : World} {l : List Oper} (n f : Nat) (v : Value) (cs : List Value) (W : List (Option (Value → World → Prop))) (D : List (List Nat))
    (hm : P.follows .mixedOrders = true)
    (hB : (relF l.toArray n f D && (decide (f < n) && ((Region.ready .any l.toArray (Array.replicate l.length false)).contains f && (Region.free .any l.toArray (Array.replicate l.length false) f && (Region.noSelect l.toArray && decide (left n ((Array.replicate l.length false).setIfInBounds f true) + 1 = n)))))) = true)
    (hn : (mixV cs W).length ≤ n) (hP : ∀ c a d u w, Q (.panic c) (Act.put a d u) w → Q (.panic c) a w) (hV : stabW W) (hpu : ∃ o, l[f]? = some o ∧ PureAt P l.toArray o v a) (hv : ∀ w, getV (mixV cs W) f v w)
    (hs : oblFrom P (Ext w) Ext l.toArray (mixV cs W) D (l.take n) a (l.take n) 0)
    (hQ : ∀ xs w', Ext w w' → heldV cs W 0 xs w' → wpList P l.toArray Q (l.drop n) (fillFrom xs (l.take n) 0 a) w') :
    (Code.region id l.toArray true).wp P Q a w := by
  simp only [Bool.and_eq_true, decide_eq_true_eq] at hB
  obtain ⟨hrel, hfn, hrd, hfr, hsel, hlf⟩ := hB
  refine wp_region_any hm ?_
  have hrel0 := hrel
  simp only [relF, Bool.and_eq_true, decide_eq_true_eq] at hrel
  obtain ⟨⟨⟨⟨⟨hn1, hback⟩, hdeps⟩, hnd⟩, _⟩, _⟩ := hrel
  have hn2 : n ≤ l.length := by simpa using hn1
  obtain ⟨o, ho, hpure⟩ := hpu
  have ho' : l.toArray[f]? = some o := by simpa using ho
  obtain ⟨xs0, h0⟩ := fill_self (l.take n) 0 a
  have hput : a.put o.dst v = fillFrom (upd xs0 f v) (l.take n) 0 a := by
    have e := h0 xs0 (fun _ _ => rfl)
    have := fill_put xs0 v (l.take n) 0 f a o (by simpa using hnd) (by simp [hfn, ho])
    rw [e, Nat.zero_add] at this
    exact this
  have hinv0 : HeadInv .any l.toArray n (Array.replicate l.length false) :=
    ⟨by simp, fun j oj _ hl => (by rw [getD_replicate_false] at hl; cases hl), fun t _ ht => getD_in (by simpa using ht) (getD_replicate_false _ _)⟩
  have hrd' : f ∈ Region.ready .any l.toArray (Array.replicate l.length false) := by simpa using hrd
  have hsz : f < (Array.replicate l.length false).size := by simp; omega
  have H := wpAny_relF (P := P) (C := Ext w) (le := Ext) (Q := Q) (a0 := a) (fun _ _ h k => Ext.trans h k) hrel0 (stab_mix cs W hV) (by simpa using hs)
    (fun xs w' h1 h2 => by simpa using hQ xs w' h1 (held_of xs w' cs W 0 fun j hj => by rw [Nat.zero_add]; exact knows_get h2 j (List.mem_range.2 (by omega)))) (n - 1) ((Array.replicate l.length false).setIfInBounds f true) (a.put o.dst v) { w with drawn := w.drawn + 1 } (by omega)
    (by simp [hsz])
    ⟨hinv0.set hrd' hfn, ⟨rfl, rfl, rfl, Nat.le_refl _, fun _ _ => rfl⟩, upd xs0 f v, by simpa using hput, fun j hj hlj => by
      by_cases hjf : j = f
      · subst hjf
        have : upd xs0 j v j = v := by simp [upd]
        rw [this]
        exact hv _
      · rw [getD_set_ne false (Ne.symm hjf), getD_replicate_false] at hlj
        cases hlj⟩
  have hfin := wpAny_first (P := P) (Q := Q) ho' (Region.noSelect_spec hsel) hP (n - 1 + (l.toArray.size - n)) (Array.replicate l.length false) a { w with drawn := w.drawn + 1 } (Region.free_spec ho' hfr) hrd' hpure H
  rw [show n - 1 + (l.toArray.size - n) + 1 = l.toArray.size by simp; omega] at hfin
  simpa using hfin

theorem wp_region_free {id : Nat} {Q : Exit → Act → World → Prop} {a : Act} {w : World} {l : List Oper} (n f : Nat) (v : Value) (cs : List Value) (W : List (Option (Value → World → Prop))) (D : List (List Nat))
    (hm : P.follows .mixedOrders = true)
    (hB : (relF l.toArray n f D && (decide (f < n) && ((Region.ready .any l.toArray (Array.replicate l.length false)).contains f && (Region.free .any l.toArray (Array.replicate l.length false) f && (Region.noSelect l.toArray && decide (left n ((Array.replicate l.length false).setIfInBounds f true) + 1 = n)))))) = true)
    (hn : (mixV cs W).length ≤ n) (hV : stabW W) (hpu : ∃ o, l[f]? = some o ∧ PureAt P l.toArray o v a) (hv : ∀ w, getV (mixV cs W) f v w)
    (hs : oblFrom P (Ext w) Ext l.toArray (mixV cs W) D (l.take n) a (l.take n) 0)
    (hQ : ∀ xs w', Ext w w' → heldV cs W 0 xs w' → wpList P l.toArray (NoP Q) (l.drop n) (fillFrom xs (l.take n) 0 a) w') :
    (Code.region id l.toArray true).wp P Q a w :=
  Code.wp_mono (fun e a w h => by cases e <;> first | exact h | exact (h : False).elim) (wp_region_free0 (Q := NoP Q) n f v cs W D hm hB hn (fun _ _ _ _ _ h => (h : False).elim) hV hpu hv hs hQ)
end

end Go.Proofs.YtalpfoomkhhgnaaGreatDoor

/-! What the contracts of this seat speak of: rows of cells, texts, lists of texts; a world in which the library's variables lie. Conditions: as each theorem states. -/
namespace Go.Proofs.YtalpfoomkhhgnaaGreatDoor
open Go Go.RowKit

abbrev B8 := List UInt8
/-- A text as a value. -/
abbrev S8 (l : B8) : Value := .string ⟨l.toArray⟩

theorem ret_b {a b : Bool} (h : a = b) : Ending.returned (.bool a) = .returned (.bool b) := by rw [h]
/-! ### Worlds that go on -/
theorem Ext.refl (w : World) : Ext w w := Below.refl _ _
theorem Ext.drew {a w : World} (h : Ext a w) : Ext a w.drew := Below.drew h
theorem Ext.alloc {a w : World} (h : Ext a w) (o : Obj) : Ext a (w.alloc o) := Below.alloc h h.size o
theorem Ext.grown {w w' : World} (h : Ext w w') : w.grownBy w' none := ⟨h.os, h.tape, h.output, h.size, fun k hk _ => h.block k hk⟩
theorem Ext.cell {w w' : World} (h : Ext w w') {a : Addr} {v : Value} (hc : w.cell? a = some v) : w'.cell? a = some v := cell_later h hc
theorem Ext.of_grow {w : World} (k : Nat) (os : Array Obj) : Ext w (Go.Sort.grow (w.drewN k) os) := by
  refine ⟨rfl, rfl, rfl, by simp [Go.Sort.grow, World.drewN], fun i hi => ?_⟩
  have : i < (w.drewN k).heap.size := hi
  show ((w.drewN k).heap ++ os)[i]? = _
  rw [Array.getElem?_append_left this]
  rfl

theorem alloc_at (w : World) (o : Obj) : (w.alloc o).heap[w.heap.size]? = some o := by
  show (w.heap.push o)[w.heap.size]? = some o
  simp

/-! ### Rows of cells -/
/-- The slice v has n elements, whose cells hold cs. -/
def Row (w : World) (v : Value) (n : Nat) (cs : List Value) : Prop :=
  ∃ a cap, v = .slice a n cap ∧ n ≤ cap ∧ cap ≤ 9223372036854775807 ∧ n ≤ 140737488355328 ∧ (cs ≠ [] → ∃ b o, a = some ⟨b, o, none⟩ ∧ ∀ i u, cs[i]? = some u → w.cell? ⟨b, o + i, none⟩ = some u)

theorem Row.ext {w w' : World} {v : Value} {n : Nat} {cs : List Value} (h : Row w v n cs) (he : Ext w w') : Row w' v n cs := by
  obtain ⟨a, cap, hv, h1, h2, h3, h4⟩ := h
  refine ⟨a, cap, hv, h1, h2, h3, fun hn => ?_⟩
  obtain ⟨b, o, ha, hc⟩ := h4 hn
  exact ⟨b, o, ha, fun i u hu => he.cell (hc i u hu)⟩

theorem Row.nil (w : World) : Row w (.slice none 0 0) 0 [] := ⟨none, 0, rfl, Nat.le_refl _, by omega, by omega, fun h => absurd rfl h⟩

theorem Row.len {w : World} {v : Value} {n : Nat} {cs : List Value} (h : Row w v n cs) : n ≤ 140737488355328 := by
  obtain ⟨_, _, _, _, _, h3, _⟩ := h
  exact h3

theorem Row.of_owns {w : World} {base : Nat} {e : TypeId} {size : Nat} {v : Value} {n : Nat} {xs : List Value} (h : w.ownsRow base e size v n xs) (hn : n ≤ 140737488355328) : Row w v n xs := by
  obtain ⟨hl, ⟨rfl, rfl⟩ | ⟨g, cap, cur, rfl, _, hg, hc, hm, hs, hx⟩⟩ := h
  · have : xs = [] := List.eq_nil_of_length_eq_zero (by simpa using hl)
    subst this
    exact Row.nil w
  · refine ⟨_, cap, rfl, hc, by unfold maxLen at hm; omega, hn, fun _ => ⟨g, 0, rfl, fun i u hu => ?_⟩⟩
    subst hx
    have hi := (List.getElem?_eq_some_iff.1 hu).1
    simp only [List.length_take, Array.length_toList] at hi
    rw [List.getElem?_take_of_lt (by omega)] at hu
    simpa [World.cell?, hg] using hu

theorem owns_ext {w w' : World} {base : Nat} {e : TypeId} {size : Nat} {v : Value} {n : Nat} {xs : List Value} (h : w.ownsRow base e size v n xs) (he : Ext w w') : w'.ownsRow base e size v n xs :=
  h.kept he.grown (by cases hv : v.ownBlock with | none => exact .inl rfl | some g => exact .inr (by simp))

/-- A new block of one row. -/
theorem Row.new {w : World} {n : Nat} {cs : Array Value} {t : TypeId} {fr : Nat × Nat} {g : Nat} (hb : w.heap[g]? = some (.cells cs t fr)) (hn : n ≤ 140737488355328) (l : List Value) (hl : cs.toList = l) : Row w (.slice (some ⟨g, 0, none⟩) n n) n l :=
  ⟨_, n, rfl, Nat.le_refl _, by omega, hn, fun _ => ⟨g, 0, rfl, fun i u hu => by subst hl; simpa [World.cell?, hb] using hu⟩⟩

/-- The slice does not lie in block g; it lies in a block from B on. -/
def Off (g : Nat) (v : Value) : Prop := ∀ a n c, v = .slice (some a) n c → a.block ≠ g
def Fresh (B : Nat) (v : Value) : Prop := ∀ a n c, v = .slice (some a) n c → B ≤ a.block
theorem Fresh.off {B g : Nat} {v : Value} (h : Fresh B v) (hg : g < B) : Off g v := fun a n c e => by have := h a n c e; omega
theorem Fresh.mono {B B' : Nat} {v : Value} (h : Fresh B v) (hg : B' ≤ B) : Fresh B' v := fun a n c e => by have := h a n c e; omega
theorem Fresh.nil (B n c : Nat) : Fresh B (.slice none n c) := fun a n c e => by simp at e
theorem Fresh.at {B g o n c : Nat} (h : B ≤ g) : Fresh B (.slice (some ⟨g, o, none⟩) n c) := fun a n c e => by simp at e; rw [← e.1]; exact h
theorem Fresh.of_owns {w : World} {base : Nat} {e : TypeId} {size : Nat} {v : Value} {n : Nat} {xs : List Value} (h : w.ownsRow base e size v n xs) : Fresh base v := by
  obtain ⟨_, ⟨rfl, _⟩ | ⟨g, cap, cur, rfl, hb, _⟩⟩ := h
  · exact Fresh.nil _ _ _
  · exact Fresh.at hb

theorem Row.but {w w' : World} {v : Value} {n g : Nat} {cs : List Value} (h : Row w v n cs) (hg : w.grownBy w' (some g)) (ho : Off g v) : Row w' v n cs := by
  obtain ⟨a, cap, rfl, h1, h2, h3, h4⟩ := h
  refine ⟨a, cap, rfl, h1, h2, h3, fun hn => ?_⟩
  obtain ⟨b, o, rfl, hc⟩ := h4 hn
  refine ⟨b, o, rfl, fun i u hu => ?_⟩
  have hcu := hc i u hu
  have hb := World.block_lt_of_cell? _ _ hcu
  rw [World.cell?_of_block (w := w) (w' := w') (hg.block b hb (fun e => ho _ _ _ rfl (by simpa using e)))]
  exact hcu

/-- The slice, if it has an address, lies in a block of elements of type e. -/
def Typed (e : TypeId) (w : World) (v : Value) : Prop := ∀ a n c, v = .slice (some a) n c → ∃ cs fr, w.heap[a.block]? = some (.cells cs e fr)
/-- All blocks of elements of type e are as they were. -/
def Keep (e : TypeId) (w w' : World) : Prop := w.heap.size ≤ w'.heap.size ∧ ∀ (k : Nat) cs fr, w.heap[k]? = some (.cells cs e fr) → w'.heap[k]? = some (.cells cs e fr)
theorem Keep.refl (e : TypeId) (w : World) : Keep e w w := ⟨Nat.le_refl _, fun _ _ _ h => h⟩
theorem Keep.trans {e : TypeId} {a b c : World} (h : Keep e a b) (k : Keep e b c) : Keep e a c := ⟨Nat.le_trans h.1 k.1, fun i cs fr hi => k.2 i cs fr (h.2 i cs fr hi)⟩
theorem Keep.of_ext {e : TypeId} {w w' : World} (h : Ext w w') : Keep e w w' := ⟨h.size, fun k cs fr hk => (h.block k (Array.getElem?_eq_some_iff.1 hk).1).trans hk⟩
theorem Keep.of_grown {e t : TypeId} {w w' : World} {g : Nat} {cs : Array Value} {fr : Nat × Nat} (h : w.grownBy w' (some g)) (hb : w.heap[g]? = some (.cells cs t fr)) (hne : t ≠ e) : Keep e w w' :=
  ⟨h.size, fun k cs' fr' hk => (h.block k (Array.getElem?_eq_some_iff.1 hk).1 (by
    rintro heq
    simp at heq
    subst heq
    rw [hb] at hk
    simp at hk
    exact hne hk.2.1)).trans hk⟩
theorem Keep.of_owns {e t : TypeId} {w w' : World} {base size : Nat} {v : Value} {n : Nat} {xs : List Value} (hown : w.ownsRow base t size v n xs) (h : w.grownBy w' v.ownBlock) (hne : t ≠ e) : Keep e w w' := by
  obtain ⟨_, ⟨rfl, _⟩ | ⟨g, cap, cur, rfl, _, hk, _⟩⟩ := hown
  · exact ⟨h.size, fun k cs fr hk => (h.block k (Array.getElem?_eq_some_iff.1 hk).1 (by simp [Value.ownBlock])).trans hk⟩
  · exact Keep.of_grown h hk hne
theorem Typed.keep {e : TypeId} {w w' : World} {v : Value} (h : Typed e w v) (hk : Keep e w w') : Typed e w' v := fun a n c he => by
  obtain ⟨cs, fr, hb⟩ := h a n c he
  exact ⟨cs, fr, hk.2 _ _ _ hb⟩
theorem Typed.nil (e : TypeId) (w : World) (n c : Nat) : Typed e w (.slice none n c) := fun a n c he => by simp at he
theorem Typed.at {e : TypeId} {w : World} {g o n c : Nat} {cs : Array Value} {fr : Nat × Nat} (h : w.heap[g]? = some (.cells cs e fr)) : Typed e w (.slice (some ⟨g, o, none⟩) n c) := fun a n c he => by
  simp at he
  rw [← he.1]
  exact ⟨cs, fr, h⟩
theorem Typed.of_owns {w : World} {base : Nat} {e : TypeId} {size : Nat} {v : Value} {n : Nat} {xs : List Value} (h : w.ownsRow base e size v n xs) : Typed e w v := by
  obtain ⟨_, ⟨rfl, _⟩ | ⟨g, cap, cur, rfl, _, hk, _⟩⟩ := h
  · exact Typed.nil _ _ _ _
  · exact Typed.at hk
theorem Row.keep {e : TypeId} {w w' : World} {v : Value} {n : Nat} {cs : List Value} (h : Row w v n cs) (ht : Typed e w v) (hk : Keep e w w') : Row w' v n cs := by
  obtain ⟨a, cap, rfl, h1, h2, h3, h4⟩ := h
  refine ⟨a, cap, rfl, h1, h2, h3, fun hn => ?_⟩
  obtain ⟨b, o, rfl, hc⟩ := h4 hn
  obtain ⟨xs, fr, hb⟩ := ht _ _ _ rfl
  refine ⟨b, o, rfl, fun i u hu => ?_⟩
  have hcu := hc i u hu
  rw [World.cell?_of_block (w := w) (w' := w') (a := ⟨b, o + i, none⟩) ((hk.2 _ _ _ hb).trans hb.symm)]
  exact hcu

/-! ### Blocks that hold bytes -/
def holdsT (p : Program) (u : TypeId) : Nat → TypeId → Bool
  | 0, _ => false
  | d + 1, e => sameLayout p p.depth e u || (match p.underlying e with
    | some (.struct fs) => fs.any fun f => holdsT p u d f.type
    | some (.array _ e') => holdsT p u d e'
    | _ => false)
def IsU8 (w : World) (k : Nat) : Prop := ∃ cs t fr, w.heap[k]? = some (.cells cs t fr) ∧ holdsT Tryz.prog 5 Tryz.prog.depth t = true
/-- The slice, if it has an address, lies in a block that holds bytes. -/
def TypB (w : World) (v : Value) : Prop := ∀ a n c, v = .slice (some a) n c → IsU8 w a.block
/-- All blocks that hold bytes are as they were. -/
def KeepB (w w' : World) : Prop := w.heap.size ≤ w'.heap.size ∧ ∀ k, IsU8 w k → w'.heap[k]? = w.heap[k]?
theorem IsU8.lt {w : World} {k : Nat} (h : IsU8 w k) : k < w.heap.size := by
  obtain ⟨cs, t, fr, h, -⟩ := h
  exact (Array.getElem?_eq_some_iff.1 h).1
theorem IsU8.same {w w' : World} {k : Nat} (h : IsU8 w k) (e : w'.heap[k]? = w.heap[k]?) : IsU8 w' k := by
  obtain ⟨cs, t, fr, h, hb⟩ := h
  exact ⟨cs, t, fr, e.trans h, hb⟩
theorem byt_u8 : holdsT Tryz.prog 5 Tryz.prog.depth 5 = true := by kernel_rfl
theorem KeepB.trans {a b c : World} (h : KeepB a b) (k : KeepB b c) : KeepB a c := ⟨Nat.le_trans h.1 k.1, fun i hi => (k.2 i (hi.same (h.2 i hi))).trans (h.2 i hi)⟩
theorem KeepB.of_ext {w w' : World} (h : Ext w w') : KeepB w w' := ⟨h.size, fun k hk => h.block k hk.lt⟩
theorem KeepB.of_grown {t : TypeId} {w w' : World} {g : Nat} {cs : Array Value} {fr : Nat × Nat} (h : w.grownBy w' (some g)) (hb : w.heap[g]? = some (.cells cs t fr)) (hne : holdsT Tryz.prog 5 Tryz.prog.depth t = false) : KeepB w w' :=
  ⟨h.size, fun k hk => h.block k hk.lt (by
    rintro heq
    simp only [Option.some.injEq] at heq
    subst heq
    obtain ⟨cs', t', fr', h', hb'⟩ := hk
    rw [hb] at h'
    simp only [Option.some.injEq, Obj.cells.injEq] at h'
    rw [h'.2.1, hb'] at hne
    cases hne)⟩
theorem TypB.keep {w w' : World} {v : Value} (h : TypB w v) (hk : KeepB w w') : TypB w' v := fun a n c he => (h a n c he).same (hk.2 _ (h a n c he))
theorem TypB.nil (w : World) (n c : Nat) : TypB w (.slice none n c) := fun a n c he => by simp at he
theorem TypB.of {w : World} {v : Value} (h : Typed 5 w v) : TypB w v := fun a n c he => by
  obtain ⟨cs, fr, hb⟩ := h a n c he
  exact ⟨cs, _, fr, hb, byt_u8⟩
theorem TypB.at {w : World} {g o n c : Nat} {cs : Array Value} {fr : Nat × Nat} (h : w.heap[g]? = some (.cells cs 5 fr)) : TypB w (.slice (some ⟨g, o, none⟩) n c) := TypB.of (Typed.at h)
theorem TypB.of_owns {w : World} {base : Nat} {size : Nat} {v : Value} {n : Nat} {xs : List Value} (h : w.ownsRow base 5 size v n xs) : TypB w v := TypB.of (Typed.of_owns h)
theorem Row.keepB {w w' : World} {v : Value} {n : Nat} {cs : List Value} (h : Row w v n cs) (ht : TypB w v) (hk : KeepB w w') : Row w' v n cs := by
  obtain ⟨a, cap, rfl, h1, h2, h3, h4⟩ := h
  refine ⟨a, cap, rfl, h1, h2, h3, fun hn => ?_⟩
  obtain ⟨b, o, rfl, hc⟩ := h4 hn
  refine ⟨b, o, rfl, fun i u hu => ?_⟩
  have hcu := hc i u hu
  rw [World.cell?_of_block (w := w) (w' := w') (a := ⟨b, o + i, none⟩) (hk.2 b (ht ⟨b, o, none⟩ _ _ rfl))]
  exact hcu

/-- The slice holds these bytes. -/
def IsBytes (w : World) (v : Value) (l : B8) : Prop := Row w v l.length (l.map fun x => .int .u8 x.toNat)
/-- The slice holds these texts. -/
def IsStrs (w : World) (v : Value) (l : List B8) : Prop := Row w v l.length (l.map S8)
/-- The slice holds these numbers. -/
def IsInts (w : World) (v : Value) (l : List Int) : Prop := Row w v l.length (l.map fun x => .int .i64 x)

theorem IsBytes.ext {w w' : World} {v : Value} {l : B8} (h : IsBytes w v l) (he : Ext w w') : IsBytes w' v l := Row.ext h he
theorem IsStrs.ext {w w' : World} {v : Value} {l : List B8} (h : IsStrs w v l) (he : Ext w w') : IsStrs w' v l := Row.ext h he
theorem IsInts.ext {w w' : World} {v : Value} {l : List Int} (h : IsInts w v l) (he : Ext w w') : IsInts w' v l := Row.ext h he

theorem IsBytes.nil (w : World) : IsBytes w (.slice none 0 0) [] := Row.nil w
theorem IsStrs.nil (w : World) : IsStrs w (.slice none 0 0) [] := Row.nil w
theorem IsInts.nil (w : World) : IsInts w (.slice none 0 0) [] := Row.nil w

theorem IsStrs.get {w : World} {v : Value} {l : List B8} (h : IsStrs w v l) : ∃ a cap, v = .slice a l.length cap ∧ l.length ≤ cap ∧ l.length ≤ 140737488355328 ∧ cap ≤ 9223372036854775807 ∧
    ∀ k, k < l.length → ∃ b o, a = some ⟨b, o, none⟩ ∧ (∀ i, i < l.length → w.cell? ⟨b, o + i, none⟩ = some (S8 (l.getD i []))) := by
  obtain ⟨a, cap, rfl, h1, h2, h3, h4⟩ := h
  refine ⟨a, cap, rfl, h1, h3, h2, fun k hk => ?_⟩
  obtain ⟨b, o, ha, hc⟩ := h4 (by simp; intro h; subst h; simp at hk)
  exact ⟨b, o, ha, fun i hi => hc i _ (by simp [hi])⟩

theorem IsBytes.get {w : World} {v : Value} {l : B8} (h : IsBytes w v l) : ∃ a cap, v = .slice a l.length cap ∧ l.length ≤ cap ∧ l.length ≤ 140737488355328 ∧ cap ≤ 9223372036854775807 ∧
    ∀ k, k < l.length → ∃ b o, a = some ⟨b, o, none⟩ ∧ (∀ i, i < l.length → w.cell? ⟨b, o + i, none⟩ = some (.int .u8 (l.getD i 0).toNat)) := by
  obtain ⟨a, cap, rfl, h1, h2, h3, h4⟩ := h
  refine ⟨a, cap, rfl, h1, h3, h2, fun k hk => ?_⟩
  obtain ⟨b, o, ha, hc⟩ := h4 (by simp; intro h; subst h; simp at hk)
  exact ⟨b, o, ha, fun i hi => hc i _ (by simp [hi])⟩

theorem IsInts.get {w : World} {v : Value} {l : List Int} (h : IsInts w v l) : ∃ a cap, v = .slice a l.length cap ∧ l.length ≤ cap ∧ l.length ≤ 140737488355328 ∧ cap ≤ 9223372036854775807 ∧
    ∀ k, k < l.length → ∃ b o, a = some ⟨b, o, none⟩ ∧ (∀ i, i < l.length → w.cell? ⟨b, o + i, none⟩ = some (.int .i64 (l.getD i 0))) := by
  obtain ⟨a, cap, rfl, h1, h2, h3, h4⟩ := h
  refine ⟨a, cap, rfl, h1, h3, h2, fun k hk => ?_⟩
  obtain ⟨b, o, ha, hc⟩ := h4 (by simp; intro h; subst h; simp at hk)
  exact ⟨b, o, ha, fun i hi => hc i _ (by simp [hi])⟩

/-! ### The library's variables -/
structure Env (w : World) : Prop where
  maxl : ∃ m, w.cell? ⟨2, 0, none⟩ = some (.int .i64 m)

theorem Env.ext {w w' : World} (h : Env w) (he : Ext w w') : Env w' := by
  obtain ⟨m, hm⟩ := h
  exact ⟨m, he.cell hm⟩

end Go.Proofs.YtalpfoomkhhgnaaGreatDoor

/-! Texts cut at a sign, in plain Lean; the library's Split at one sign. No conditions of its own. -/
namespace Go.Proofs.YtalpfoomkhhgnaaGreatDoor
open Go Go.RowKit

/-- A text cut at every such sign: one piece at least. -/
def cut (c : UInt8) : B8 → List B8
  | [] => [[]]
  | x :: l => if x == c then [] :: cut c l else match cut c l with
    | h :: t => (x :: h) :: t
    | [] => [[x]]

theorem cut_ne (c : UInt8) (l : B8) : cut c l ≠ [] := by
  cases l with
  | nil => simp [cut]
  | cons x l =>
    unfold cut
    split
    · simp
    · split <;> simp

theorem index_one_ne (b c : UInt8) (l : B8) (h : b ≠ c) : Lib.index (b :: l) [c] = if Lib.index l [c] == -1 then -1 else Lib.index l [c] + 1 := by
  have hp : ([c] : B8).isPrefixOf (b :: l) = false := by simp [List.isPrefixOf, Ne.symm h]
  rw [Lib.index, hp]; simp

theorem splitK_cut (c : UInt8) : ∀ l : B8, Lib.splitK [c] 0 (Lib.count l [c]) l = cut c l
  | [] => by rw [Lib.count_miss (by simp [Lib.index])]; rfl
  | x :: l => by
    have ih := splitK_cut c l
    by_cases h : x = c
    · subst h
      have hix : Lib.index (x :: l) [x] = ((0 : Nat) : Int) := by rw [Lib.index]; simp [List.isPrefixOf]
      rw [Lib.count_cons_eq, Nat.add_comm, Lib.splitK, hix]
      simp [cut, ih]
    · rw [Lib.count_cons_ne x c l h]
      unfold cut
      rw [if_neg (by simpa using h), ← ih]
      by_cases hm : Lib.index l [c] = -1
      · rw [Lib.count_miss hm]
        simp [Lib.splitK]
      · have hge := Lib.index_ge l [c]
        obtain ⟨j, hj⟩ : ∃ j : Nat, Lib.index l [c] = j := ⟨(Lib.index l [c]).toNat, by omega⟩
        have hj2 : ¬ (Lib.index l [c] == -1) = true := fun e => by have := beq_iff_eq.1 e; omega
        have hix : Lib.index (x :: l) [c] = ((j + 1 : Nat) : Int) := by rw [index_one_ne x c l h, if_neg hj2, hj]; omega
        have hix2 : ¬ (Lib.index (x :: l) [c] == -1) = true := fun e => by have := beq_iff_eq.1 e; omega
        obtain ⟨n, hn⟩ : ∃ n, Lib.count l [c] = n + 1 := ⟨_, by rw [Lib.count_hit (by simp) hj, Nat.add_comm]⟩
        rw [hn, Lib.splitK, if_neg hix2, Lib.splitK, if_neg hj2, hix, hj]
        simp

theorem cut_total (c : UInt8) : ∀ l : B8, ((cut c l).map List.length).sum + (cut c l).length = l.length + 1
  | [] => by simp [cut]
  | x :: l => by
    have ih := cut_total c l
    unfold cut
    split
    · simp; omega
    · split
      · rename_i h t he
        rw [he] at ih
        simp at ih ⊢; omega
      · rename_i he
        exact absurd he (cut_ne c l)

theorem cut_length (c : UInt8) (l : B8) : 1 ≤ (cut c l).length ∧ (cut c l).length ≤ l.length + 1 := by
  have h1 := cut_total c l
  have h2 : (cut c l).length ≠ 0 := fun h => cut_ne c l (List.eq_nil_of_length_eq_zero h)
  omega

theorem le_sum_of_mem {l : List Nat} {x : Nat} (h : x ∈ l) : x ≤ l.sum := by
  induction l with
  | nil => simp at h
  | cons a l ih =>
    rcases List.mem_cons.1 h with rfl | h
    · simp
    · have := ih h; simp; omega

theorem cut_piece (c : UInt8) (l : B8) {x : B8} (h : x ∈ cut c l) : x.length ≤ l.length := by
  have h1 := cut_total c l
  have h2 := le_sum_of_mem (List.mem_map.2 ⟨x, h, rfl⟩ : x.length ∈ (cut c l).map List.length)
  have h3 := (cut_length c l).1
  omega

/-- strings.Split at one sign. -/
theorem split_any (s : ByteArray) (c : UInt8) (w : World) (hE : Env w) (hs : s.size < 4294967281) :
    Calls Tryz.prog 50 #[.string s, .string ⟨#[c]⟩] w fun e w' => ∃ v, e = .returned v ∧ IsStrs w' v (cut c s.data.toList) ∧ (Typed 9 w' v ∧ ∀ b, v.ownBlock = some b → w.heap.size ≤ b) ∧ Ext w w' := by
  obtain ⟨m, hm⟩ := hE.maxl
  refine (Tryz.strings_Split s ⟨#[c]⟩ m w hs hm (Nat.le_refl 1)).mono ?_
  rintro e w' ⟨rfl, rfl⟩
  have hlen := Lib.splitB_all ⟨#[c]⟩ (Nat.le_refl 1) 0 _ s rfl
  have hdat := Lib.splitB_data ⟨#[c]⟩ 0 (Lib.countB s ⟨#[c]⟩) s
  have hcut : Lib.splitK [c] 0 (Lib.countB s ⟨#[c]⟩) s.data.toList = cut c s.data.toList := splitK_cut c _
  have hsz : s.data.toList.length = s.size := by simp
  have hcl := (cut_length c s.data.toList).2
  have e1 : (Lib.splitB ⟨#[c]⟩ 0 (Lib.countB s ⟨#[c]⟩) s).map (·.data.toList) = cut c s.data.toList := hdat.trans hcut
  have e2 : Lib.countB s ⟨#[c]⟩ + 1 = (cut c s.data.toList).length := by rw [← e1, List.length_map, hlen]
  refine ⟨_, rfl, ?_, ⟨Typed.at (alloc_at _ _), fun b hb => by cases hb; exact Nat.le_refl _⟩, (Ext.refl w).alloc _⟩
  unfold IsStrs
  rw [e2]
  refine Row.new (alloc_at _ _) (by omega) _ ?_
  simp only
  rw [← e1, List.map_map]
  apply List.map_congr_left
  intro x _
  rfl

end Go.Proofs.YtalpfoomkhhgnaaGreatDoor

/-! names.Name, names.Path: what they answer. Conditions: a text of fewer than 2^32 - 15 signs. -/
namespace Go.Proofs.YtalpfoomkhhgnaaGreatDoor
open Go Go.RowKit

def badC (c : UInt8) : Bool := decide (c.toNat < 33) || (decide (126 < c.toNat) || decide (c.toNat = 47))
def nameB (l : B8) : Bool := !(l.any badC) && (!l.isEmpty && (decide (l.length ≤ 64) && (!(l == [46]) && !(l == [46, 46]))))
def pathB (l : B8) : Bool := decide (l.length ≤ 200) && ((cut 47 l).all nameB && decide ((cut 47 l).length ≤ 8))

theorem badC_ok {c : UInt8} (h1 : ¬ (c.toNat : Int) < 33) (h2 : ¬ (126 : Int) < c.toNat) (h3 : ¬ (c.toNat : Int) = 47) : badC c = false := by
  unfold badC; simp only [Bool.or_eq_false_iff, decide_eq_false_iff_not]; omega
theorem badC_no {c : UInt8} (h : (c.toNat : Int) < 33 ∨ (126 : Int) < c.toNat ∨ (c.toNat : Int) = 47) : badC c = true := by
  unfold badC; simp only [Bool.or_eq_true, decide_eq_true_eq]; omega

theorem name_bad {s : ByteArray} {k : Nat} (h : k < s.size) (hb : badC s[k] = true) : nameB s.data.toList = false := by
  have : s.data.toList.any badC = true := List.any_eq_true.2 ⟨s[k], by
    have : s[k] = s.data[k]'h := rfl
    rw [this]; simp, hb⟩
  simp [nameB, this]

theorem take_snoc (s : ByteArray) (k : Nat) (h : k < s.size) : s.data.toList.take (k + 1) = s.data.toList.take k ++ [s[k]] := by
  rw [List.take_succ_eq_append_getElem (by simpa using h)]; rfl

theorem any_snoc {s : ByteArray} {k : Nat} (h : k < s.size) (h0 : (s.data.toList.take k).any badC = false) (h1 : badC s[k] = false) : (s.data.toList.take (k + 1)).any badC = false := by
  rw [take_snoc s k h]; simp only [List.any_append, h0, List.any_cons, h1, List.any_nil, Bool.or_false]

set_option maxHeartbeats 400000 in
theorem name_s (s : ByteArray) (w : World) (hs : s.size ≤ 140737488355328) :
    Calls Tryz.prog 51 #[.string s] w fun e w' => e = .returned (.bool (nameB s.data.toList)) ∧ w' = w := by
  go_enter Tryz.func51, Tryz.ntmps51
  go_wp2
  go_loop [6] (fun i => ∃ k : Nat, k ≤ s.size ∧ i = .int .i64 k ∧ (s.data.toList.take k).any badC = false) (fun i => s.size - (intOf i).toNat)
  case atStart => exact ⟨0, Nat.zero_le _, rfl, rfl⟩
  case round =>
    obtain ⟨k, hk, rfl, hn⟩ := hrel
    have HN : Hid _ := hn
    clear hn
    by_cases hlt : k < s.size
    · by_cases h1 : (s[k].toNat : Int) < 33
      · go_wp2
        go_ret
        exact ⟨ret_b (name_bad hlt (badC_no (by omega))).symm, rfl⟩
      · by_cases h2 : (126 : Int) < s[k].toNat
        · go_wp2
          go_ret
          exact ⟨ret_b (name_bad hlt (badC_no (by omega))).symm, rfl⟩
        · by_cases h3 : (s[k].toNat : Int) = 47
          · have h4 : ((s[k].toNat : Int) == 47) = true := beq_iff_eq.2 h3
            have H3 : Hid _ := h3
            clear h3
            go_wp2
            go_ret
            have h3 := H3.out
            exact ⟨ret_b (name_bad hlt (badC_no (by omega))).symm, rfl⟩
          · have h4 : ((s[k].toNat : Int) == 47) = false := beq_eq_false_iff_ne.2 h3
            have H3 : Hid _ := h3
            clear h3
            go_wp2
            go_round
            case rel =>
              have h3 := H3.out
              exact ⟨k + 1, by omega, by go_num, any_snoc hlt HN.out (badC_ok (by omega) (by omega) h3)⟩
            case measure => simp [intOf]; omega
    · have hkk : k = s.size := by omega
      have hall : s.data.toList.any badC = false := by
        have := HN.out
        rwa [hkk, List.take_of_length_le (by simp)] at this
      have HA : Hid _ := hall
      clear hall HN hkk
      go_wp2
      all_goals
        go_ret
        refine ⟨ret_b ?_, rfl⟩
        have hall := HA.out
        rw [Lib.toList_data] at *
        have hsz : s.data.toList.length = s.size := by simp
        unfold nameB
        rw [hall]
        by_cases h64 : s.size ≤ 64 <;> first | (exfalso; omega) | (simp_all [Bool.and_assoc]; done) | (simp_all; omega)

theorem name_any (l : B8) (w : World) (hs : l.length ≤ 140737488355328) :
    Calls Tryz.prog 51 #[S8 l] w fun e w' => e = .returned (.bool (nameB l)) ∧ w' = w := name_s ⟨l.toArray⟩ w hs

theorem path_all (s : ByteArray) : pathB s.data.toList = (decide (s.size ≤ 200) && ((cut 47 s.data.toList).all nameB && decide ((cut 47 s.data.toList).length ≤ 8))) := by simp [pathB]

theorem getD_mem {l : List B8} {k : Nat} (h : k < l.length) : l.getD k [] ∈ l := by
  simp [h]

theorem all_snoc {l : List B8} {k : Nat} (h : k < l.length) (h0 : (l.take k).all nameB = true) (h1 : nameB (l.getD k []) = true) : (l.take (k + 1)).all nameB = true := by
  rw [List.take_succ_eq_append_getElem h]
  simp only [List.getD_eq_getElem?_getD, h, List.getElem?_eq_getElem, Option.getD_some] at h1
  simp only [List.all_append, h0, List.all_cons, h1, List.all_nil, Bool.and_true]

theorem all_no {l : List B8} {k : Nat} (h : k < l.length) (h1 : nameB (l.getD k []) = false) : l.all nameB = false := by
  rw [List.all_eq_false]
  exact ⟨_, getD_mem h, by rw [h1]; simp⟩

def PathPost (l : B8) (w : World) (e : Ending) (w' : World) : Prop := e = .returned (.bool (pathB l)) ∧ Ext w w'

set_option maxHeartbeats 400000 in
theorem path_any (s : ByteArray) (w : World) (hE : Env w) (hs : s.size < 4294967281) :
    Calls Tryz.prog 19 #[.string s] w (PathPost s.data.toList w) := by
  have hcl := (cut_length 47 s.data.toList).2
  have hsz : s.data.toList.length = s.size := by simp
  have hpc := fun x => @cut_piece 47 s.data.toList x
  rw [hsz] at hcl hpc
  by_cases h2 : (200 : Int) < (s.size : Int)
  · go_enter Tryz.func19, Tryz.ntmps19
    clear hcl hpc hsz
    go_wp2
    go_ret
    exact ⟨ret_b (by rw [path_all]; simp; omega), Ext.refl _⟩
  have H := path_all s
  have Hp : Hid _ := hpc
  have HH : Hid _ := H
  clear H hsz hpc
  go_enter Tryz.func19, Tryz.ntmps19
  go_wp2_with fail
  refine (split_any s 47 _ hE hs).mono ?_
  rintro e w1 ⟨v, rfl, hv, -, hx⟩
  obtain ⟨a, cap, rfl, h3, h4, h5, h6⟩ := hv.get
  generalize hL : cut 47 s.data.toList = L at *
  clear hv hL
  have H6 : Hid _ := h6
  have HE : Hid (Env w1) := hE.ext hx
  clear h6
  go_wp2_with fail
  go_loop [13] (fun i => ∃ k : Nat, k ≤ L.length ∧ i = .int .i64 k ∧ (L.take k).all nameB = true) (fun i => L.length - (intOf i).toNat)
  case atStart => exact ⟨0, Nat.zero_le _, rfl, rfl⟩
  case round =>
    obtain ⟨k, hk, rfl, hn⟩ := hrel
    have HN : Hid _ := hn
    clear hn
    by_cases hlt : k < L.length
    · obtain ⟨b, o, rfl, hc⟩ := H6.out k hlt
      have hck := hc k hlt
      clear hc
      have hm := Hp.out _ (getD_mem hlt)
      obtain ⟨x, hxx⟩ : ∃ x, x = L.getD k [] := ⟨_, rfl⟩
      rw [← hxx] at hm hck
      have HX : Hid _ := hxx
      clear hxx
      cases hB : nameB x with
      | true =>
        have HB : Hid _ := hB
        go_wp2_with (go_at_call 51; go_must (refine (name_any _ _ ?_).mono ?_; omega; rintro e w' ⟨rfl, rfl⟩))
        go_round
        case rel => exact ⟨k + 1, by omega, by go_num, all_snoc hlt HN.out (by rw [← HX.out]; exact HB.out)⟩
        case measure => simp [intOf]; omega
      | false =>
        have HB : Hid _ := hB
        go_wp2_with (go_at_call 51; go_must (refine (name_any _ _ ?_).mono ?_; omega; rintro e w' ⟨rfl, rfl⟩))
        go_ret
        exact ⟨ret_b (by rw [HH.out, all_no hlt (by rw [← HX.out]; exact HB.out)]; simp), hx⟩
    · go_wp2_with fail
      go_ret
      refine ⟨ret_b ?_, hx⟩
      have := HN.out
      rw [List.take_of_length_le (by omega)] at this
      rw [HH.out, this]
      have h9 : decide (s.size ≤ 200) = true := by rw [decide_eq_true_eq]; omega
      rw [h9, Bool.true_and, Bool.true_and, decide_eq_decide]
      omega

theorem path_l (l : B8) (w : World) (hE : Env w) (hs : l.length < 4294967281) :
    Calls Tryz.prog 19 #[S8 l] w fun e w' => e = .returned (.bool (pathB l)) ∧ Ext w w' := path_any ⟨l.toArray⟩ w hE hs

end Go.Proofs.YtalpfoomkhhgnaaGreatDoor

/-! Appends to slices that the call itself made, by element type; a new block's cells. Conditions: as each theorem states. -/
namespace Go.Proofs.YtalpfoomkhhgnaaGreatDoor
open Go Go.RowKit

theorem news_of_block {w : World} {g : Nat} {cs : Array Value} {t : TypeId} {fr : Nat × Nat} (h : w.heap[g]? = some (.cells cs t fr)) : ∀ j u, cs.toList[j]? = some u → w.cell? ((⟨g, 0, none⟩ : Addr).add j) = some u := by
  intro j u hu
  have hu' : cs[j]? = some u := by simpa using hu
  by_cases hj : j = 0
  · subst hj; simp [World.cell?, h, Addr.add, hu']
  · simp [World.cell?, h, Addr.add, hj, hu']

theorem owns_ext_app {w wr w3 : World} {e : TypeId} {size : Nat} {v : Value} {n : Nat} {xs : List Value} (hx : Ext w wr) (hown : wr.ownsRow w.heap.size e size v n xs) (hg : wr.grownBy w3 v.ownBlock) : Ext w w3 :=
  Below.grown hx hg hx.size (fun k hk => (hown.lt k hk).1)

section
variable {ops : Array Oper} {rest : List Oper} {o : Oper} {a : Act} {Q : Exit → Act → World → Prop} {w : World}

theorem app_any (t e : TypeId) (z : Value) (size bytes : Nat) (ht : Tryz.prog.underlying t = some (.slice e)) (hinfo : (Tryz.prog.info? e).map (fun i => (i.zero, i.size, i.bytes)) = some (some z, size, bytes)) (hzs : z.cells.size = size) (hsz : 0 < size)
    (hgd : o.guard = none) (s x : Operand) (ho : o.op = .call { callee := .builtin .append, args := #[s, x], argTypes := #[t, t] })
    (base : Nat) (v : Value) (n : Nat) (xs : List Value) (hs : a.eval s = v) (hown : w.ownsRow base e size v n xs)
    (ad : Addr) (m c : Nat) (news : List Value) (hx : a.eval x = .slice (some ad) m c) (hl : news.length = m * size) (hnews : ∀ j u, news[j]? = some u → w.cell? (ad.add j) = some u) (h1 : ∀ u ∈ news, u.oneCell' = true)
    (hb : (n + m) * bytes ≤ 140737488355328) (hb2 : n + m ≤ 140737488355328) (hbase : base ≤ w.heap.size)
    (h : ∀ v' w', w'.ownsRow base e size v' (n + m) (xs ++ news) → w.grownBy w' v.ownBlock → (v' = .slice none 0 0 ↔ v = .slice none 0 0 ∧ m = 0) → wpList Tryz.prog ops Q rest (a.put o.dst v') w') : wpList Tryz.prog ops Q (o :: rest) a w := by
  obtain ⟨i0, hi, hz0, hz1, hz2⟩ := info_parts hinfo
  exact wpList_append_own w hgd s x t ho base e i0 z size bytes ht hi hz0 hz1 hz2 hzs hsz v n xs hs hown ad m c news hx hl hnews h1 (by unfold maxLen; omega) hb hbase h
end

theorem info_u8 : (Tryz.prog.info? 5).map (fun i => (i.zero, i.size, i.bytes)) = some (some (.int .u8 0), 1, 1) := by kernel_rfl
theorem info_str : (Tryz.prog.info? 9).map (fun i => (i.zero, i.size, i.bytes)) = some (some (S8 []), 1, 16) := by kernel_rfl
section
variable {ops : Array Oper} {rest : List Oper} {o : Oper} {a : Act} {Q : Exit → Act → World → Prop} {w : World}
/-- append of bytes that lie in a block known whole. -/
theorem app_u8 (hgd : o.guard = none) (s x : Operand) (ho : o.op = .call { callee := .builtin .append, args := #[s, x], argTypes := #[45, 45] })
    (base : Nat) (v : Value) (n : Nat) (l : B8) (hs : a.eval s = v) (hown : w.ownsRow base 5 1 v n (l.map fun x => .int .u8 x.toNat))
    (g m c : Nat) (news : B8) (hx : a.eval x = .slice (some ⟨g, 0, none⟩) m c) (hl : news.length = m) {fr : Nat × Nat} (hg : w.heap[g]? = some (.cells (news.map fun x => Value.int .u8 x.toNat).toArray 5 fr))
    (hb : n + m ≤ 140737488355328) (hbase : base ≤ w.heap.size)
    (h : ∀ v' w', w'.ownsRow base 5 1 v' (n + m) ((l ++ news).map fun x => .int .u8 x.toNat) → w.grownBy w' v.ownBlock → wpList Tryz.prog ops Q rest (a.put o.dst v') w') : wpList Tryz.prog ops Q (o :: rest) a w :=
  app_any _ _ _ 1 1 Tryz.underlying45 info_u8 rfl (by omega) hgd s x ho base v n _ hs hown ⟨g, 0, none⟩ m c _ hx (by simpa using hl) (news_of_block hg) (by intro u hu; obtain ⟨_, _, rfl⟩ := List.mem_map.1 hu; rfl) (by omega) hb hbase
    (fun v' w' h1 h2 _ => h v' w' (by rw [List.map_append]; exact h1) h2)
/-- append of texts. -/
theorem app_str (hgd : o.guard = none) (s x : Operand) (ho : o.op = .call { callee := .builtin .append, args := #[s, x], argTypes := #[33, 33] })
    (base : Nat) (v : Value) (n : Nat) (l : List B8) (hs : a.eval s = v) (hown : w.ownsRow base 9 1 v n (l.map S8))
    (g m c : Nat) (news : List B8) (hx : a.eval x = .slice (some ⟨g, 0, none⟩) m c) (hl : news.length = m) {fr : Nat × Nat} (hg : w.heap[g]? = some (.cells (news.map S8).toArray 9 fr))
    (hb : n + m ≤ 1000000000) (hbase : base ≤ w.heap.size)
    (h : ∀ v' w', w'.ownsRow base 9 1 v' (n + m) ((l ++ news).map S8) → w.grownBy w' v.ownBlock → wpList Tryz.prog ops Q rest (a.put o.dst v') w') : wpList Tryz.prog ops Q (o :: rest) a w :=
  app_any _ _ _ 1 16 Tryz.underlying33 info_str rfl (by omega) hgd s x ho base v n _ hs hown ⟨g, 0, none⟩ m c _ hx (by simpa using hl) (news_of_block hg) (by intro u hu; obtain ⟨_, _, rfl⟩ := List.mem_map.1 hu; rfl) (by omega) (by omega) hbase
    (fun v' w' h1 h2 _ => h v' w' (by rw [List.map_append]; exact h1) h2)
end

/-- string(b). -/
theorem conv_bytes {w : World} {v : Value} {l : B8} (h : IsBytes w v l) : (convert 45 9 v).run Tryz.prog w = .ok (S8 l) w := by
  obtain ⟨a, cap, rfl, h1, h2, h3, h4⟩ := h
  cases l with
  | nil =>
    cases a with
    | none => exact run_convert_bytes_nil w 45 5 Tryz.underlying45 Tryz.underlying5 _ _ 9 Tryz.underlying9
    | some ad =>
      rw [run_convert_bytes_string w 45 9 5 _ _ _ Tryz.underlying45 Tryz.underlying5 Tryz.underlying9, run_bytesToString w ad _ cap [] (by simpa using run_loadCells_list (P := Tryz.prog) w ad [] (by intro j v hj; simp at hj))]
      rfl
  | cons x l =>
    obtain ⟨b, o, rfl, hc⟩ := h4 (by simp)
    exact Lib.run_convert_whole w 45 5 9 Tryz.underlying45 Tryz.underlying5 Tryz.underlying9 b o ⟨(x :: l).toArray⟩ (fun i hi => hc i _ (by
      have hi' : i < (x :: l).length := hi
      rw [List.getElem?_map, List.getElem?_eq_getElem hi']
      rfl)) cap

end Go.Proofs.YtalpfoomkhhgnaaGreatDoor

/-! marref.Split, marref1.Name, marref1.Path: what they answer. Conditions: a text of at most 10000000 signs. -/
namespace Go.Proofs.YtalpfoomkhhgnaaGreatDoor
open Go Go.RowKit

theorem cut_none {c : UInt8} : ∀ {l : B8}, (∀ x ∈ l, x ≠ c) → cut c l = [l]
  | [], _ => rfl
  | x :: l, h => by
    have hx : (x == c) = false := by simpa using h x (by simp)
    unfold cut
    rw [if_neg (by simp [hx]), cut_none (fun y hy => h y (by simp [hy]))]

theorem cut_at {c : UInt8} : ∀ {p q : B8}, (∀ x ∈ p, x ≠ c) → cut c (p ++ c :: q) = p :: cut c q
  | [], q, _ => by simp [cut]
  | x :: p, q, h => by
    have hx : (x == c) = false := by simpa using h x (by simp)
    have ih := cut_at (p := p) (q := q) (fun y hy => h y (by simp [hy]))
    show cut c (x :: (p ++ c :: q)) = _
    rw [cut, if_neg (by simp [hx]), ih]

/-- How far a text is cut: pieces in L, the next one begins at j. -/
def Cutting (c : UInt8) (l : B8) (k j : Nat) (L : List B8) : Prop := j ≤ k ∧ cut c l = L ++ cut c (l.drop j) ∧ ∀ x ∈ (l.drop j).take (k - j), x ≠ c

theorem Cutting.start (c : UInt8) (l : B8) : Cutting c l 0 0 [] := ⟨Nat.le_refl _, rfl, by simp⟩
theorem Cutting.step {c : UInt8} {l : B8} {k j : Nat} {L : List B8} (h : Cutting c l k j L) (hk : k < l.length) (hc : l[k] ≠ c) : Cutting c l (k + 1) j L := by
  obtain ⟨h1, h2, h3⟩ := h
  refine ⟨by omega, h2, fun x hx => ?_⟩
  rw [show k + 1 - j = (k - j) + 1 by omega, List.take_add_one] at hx
  rcases List.mem_append.1 hx with hx | hx
  · exact h3 x hx
  · rw [List.getElem?_drop, show j + (k - j) = k by omega, List.getElem?_eq_getElem hk] at hx
    have : x = l[k] := by simpa using hx
    rw [this]; exact hc
theorem Cutting.piece {c : UInt8} {l : B8} {k j : Nat} {L : List B8} (h : Cutting c l k j L) (hk : k < l.length) (hc : l[k] = c) : Cutting c l (k + 1) (k + 1) (L ++ [(l.drop j).take (k - j)]) := by
  obtain ⟨h1, h2, h3⟩ := h
  refine ⟨Nat.le_refl _, ?_, by simp⟩
  have hs : l.drop j = (l.drop j).take (k - j) ++ c :: l.drop (k + 1) := by
    have e := (List.take_append_drop (k - j) (l.drop j)).symm
    rw [List.drop_drop, show j + (k - j) = k by omega, List.drop_eq_getElem_cons hk, hc] at e
    exact e
  rw [h2, List.append_assoc]
  congr 1
  rw [List.singleton_append, ← cut_at h3]
  exact congrArg (cut c) hs
theorem Cutting.last {c : UInt8} {l : B8} {j : Nat} {L : List B8} (h : Cutting c l l.length j L) : cut c l = L ++ [(l.drop j).take (l.length - j)] := by
  obtain ⟨h1, h2, h3⟩ := h
  have hl : (l.drop j).take (l.length - j) = l.drop j := List.take_of_length_le (by simp)
  rw [hl] at h3 ⊢
  rw [h2, cut_none h3]

def SplitRel (c : UInt8) (l : B8) (k j : Nat) (L : List B8) : Prop := (k ≤ l.length ∧ Cutting c l k j L) ∨ (k = l.length + 1 ∧ L = cut c l)

end Go.Proofs.YtalpfoomkhhgnaaGreatDoor

/-! Rows stored, loaded, handed back; a store of one cell. Conditions: as each theorem states. -/
namespace Go.Proofs.YtalpfoomkhhgnaaGreatDoor
open Go Go.RowKit

theorem setRow_grown (w : World) (g : Nat) (cs : Array Value) : w.grownBy (w.setRow g cs) (some g) := by
  refine ⟨rfl, rfl, rfl, by simp [World.setRow], fun k hk hn => ?_⟩
  have hne : g ≠ k := fun e => hn (by rw [e])
  simp [World.setRow, Array.getElem?_modify, hne]

theorem Ext.but {w w1 w2 : World} {g : Nat} (h : Ext w w1) (hg : w1.grownBy w2 (some g)) (hb : w.heap.size ≤ g) : Ext w w2 :=
  Below.grown h hg h.size (fun k hk => by simp at hk; omega)

theorem Ext.setRow {w w1 : World} (h : Ext w w1) (g : Nat) (cs : Array Value) (hb : w.heap.size ≤ g) : Ext w (w1.setRow g cs) := h.but (setRow_grown _ _ _) hb

theorem Ext.row {w w' : World} (h : Ext w w') {g : Nat} {o : Obj} (hg : w.heap[g]? = some o) : w'.heap[g]? = some o :=
  (h.block g (Array.getElem?_eq_some_iff.1 hg).1).trans hg

theorem but_row {w w' : World} {g k : Nat} {o : Obj} (h : w.grownBy w' (some g)) (hk : w.heap[k]? = some o) (hne : k ≠ g) : w'.heap[k]? = some o :=
  (h.block k (Array.getElem?_eq_some_iff.1 hk).1 (by simpa using hne)).trans hk

/-- Of a slice of the call's own that has an element the address is known. -/
theorem owns_some {w : World} {base : Nat} {e : TypeId} {size : Nat} {v : Value} {n : Nat} {xs : List Value} (h : w.ownsRow base e size v n xs) (hn : 0 < n) : ∃ g cap, v = .slice (some ⟨g, 0, none⟩) n cap := by
  obtain ⟨_, ⟨_, rfl⟩ | ⟨g, cap, cur, rfl, _⟩⟩ := h
  · omega
  · exact ⟨g, cap, rfl⟩

section
variable {ops : Array Oper} {rest : List Oper} {o : Oper} {a : Act} {Q : Exit → Act → World → Prop} {w : World}
/-- A store of one cell into a block known whole. -/
theorem store_field (hgd : o.guard = none) (ty : TypeId) (x y : Operand) (ho : o.op = .store ty x y) (g j : Nat) (hx : a.eval x = .pointer (some ⟨g, j, none⟩)) (v : Value) (hy : a.eval y = v) (h1 : v.oneCell' = true)
    (t : TypeId) (cur : Array Value) (hg : w.heap[g]? = some (.cells cur t (0, 0))) (hj : j + 1 ≤ cur.size) (hi : (Tryz.prog.info? ty).map (·.size) = some 1) (new : Array Value) (hnew : new = (cur.toList.take j ++ [v] ++ cur.toList.drop (j + 1)).toArray)
    (h : ∀ w', w'.heap[g]? = some (.cells new t (0, 0)) → w.grownBy w' (some g) → wpList Tryz.prog ops Q rest (a.put o.dst undef) w') : wpList Tryz.prog ops Q (o :: rest) a w :=
  wpList_plain hgd fun _ hK => by
    have hs := run_storeCells_at (P := Tryz.prog) g j t [v] 0 cur w hg (by simpa using hj) (fun u hu => by simp at hu; subst hu; exact h1)
    have hc : v.cells = #[v] := by cases v <;> first | rfl | cases h1
    have hr : (storeVar ty ⟨g, j, none⟩ v).run Tryz.prog w = .ok () (w.setRow g new) := by
      cases hq : Tryz.prog.info? ty with
      | none => simp [hq] at hi
      | some i =>
        have hs1 : i.size = 1 := by simpa [hq] using hi
        simp only [Nat.add_zero, List.length_cons, List.length_nil, Nat.zero_add] at hs
        rw [hnew]
        simp [storeVar, sizeOf, typeInfo, hq, hc, hs1, hs]
    unfold Oper.wp execOp
    simp only [ho, hx, hy, Instr.storeAt, Instr.sureAddr, Sem.run_bind, Sem.run_pure, Result.andThen_ok, hr]
    exact hK _ _ (h _ (setRow_heap _ _ _ _ _ _ hg) (setRow_grown _ _ _))
end

end Go.Proofs.YtalpfoomkhhgnaaGreatDoor

/-! A file system that falls, in plain Lean: files by rising paths, changes, events, what each call does. No program in sight. No conditions. -/
namespace Go.Proofs.YtalpfoomkhhgnaaGreatDoor
open Go Go.RowKit

def I64 (n : Int) : Prop := -9223372036854775808 ≤ n ∧ n ≤ 9223372036854775807

structure Ev where
  (t kind mode keep torn : Int)
  (path data : B8)
structure Fi where
  (mode : Int)
  (data : B8)
  (time : Int)
inductive Ch where
  | put (p : B8) (f : Fi)
  | mv (s d : B8)
  | del (p : B8)
abbrev Files := List (B8 × Fi)

def ltB (a b : B8) : Bool := decide (a < b)
def look (l : Files) (p : B8) : Option Fi := (l.find? fun e => e.1 == p).map (·.2)
def delF (l : Files) (p : B8) : Files := l.filter fun e => !(e.1 == p)
def insF (x : B8 × Fi) : Files → Files
  | [] => [x]
  | y :: r => if ltB x.1 y.1 then x :: y :: r else y :: insF x r
def putF (l : Files) (p : B8) (f : Fi) : Files := insF (p, f) (delF l p)
def ap (l : Files) : Ch → Files
  | .put p f => putF l p f
  | .mv s d => match look l s with
    | some x => putF (delF l s) d x
    | none => l
  | .del p => delF l p

/-- Does a path lie under another one, by its signs? -/
def isUnder (d s : B8) : Bool := (d ++ [47]).isPrefixOf s
def mayF (l : Files) (path but : B8) : Bool := !(l.any fun e => !(e.1 == but) && (isUnder e.1 path || isUnder path e.1))
def usedF (l : Files) : Nat := (l.map fun e => e.2.data.length).sum

structure Fs where
  (room : Int)
  (now sure : Files)
  (pend : List Ch)
  (plan : List Ev)
  (calls : Nat)
  (users : List Ev)
  (time : Nat)
  (down : Bool)

def Ch.at (c : Ch) (t : Nat) : Ch := match c with
  | .put p f => .put p { f with time := t }
  | c => c
def does (m : Fs) (c : Ch) : Fs := { m with time := m.time + 1, now := ap m.now (c.at (m.time + 1)), pend := m.pend ++ [c.at (m.time + 1)] }
def wrongE (path : B8) (mode : Int) (data : B8) : Int :=
  if pathB path = false then 6 else if mode < 1 ∨ 3 < mode then 1 else if 20000 < data.length then 3 else 0
def putsM (m : Fs) (path : B8) (mode : Int) (data : B8) (fits : Bool) : Fs × Int :=
  if (look m.now path).isNone ∧ mayF m.now path [] = false then (m, 9) else if fits = false then (m, 10) else (does m (.put path ⟨mode, data, 0⟩), 0)
def oldLen (l : Files) (path : B8) : Nat := match look l path with
  | some f => f.data.length
  | none => 0
def fitsM (m : Fs) (path : B8) (n : Nat) : Bool := decide ((n : Int) ≤ m.room - usedF m.now + oldLen m.now path)
def removesM (m : Fs) (path : B8) : Fs × Int :=
  if pathB path = false then (m, 6) else if (look m.now path).isNone then (m, 7) else (does m (.del path), 0)
def rebootM (m : Fs) : Fs := { m with down := false }
def planM (m : Fs) (l : List Ev) : Fs := { m with plan := l.filter fun e => decide ((m.calls : Int) < e.t) }
def settle (m : Fs) : Fs := { m with sure := m.now, pend := [] }
def userWrite (m : Fs) (path : B8) (mode : Int) (data : B8) : Fs × Int :=
  if m.down then (m, 12) else if wrongE path mode data ≠ 0 then (m, wrongE path mode data)
  else if (putsM m path mode data true).2 ≠ 0 then putsM m path mode data true
  else ({ settle (putsM m path mode data true).1 with users := m.users ++ [⟨m.calls, 4, mode, 0, 0, path, data⟩] }, 0)
def userRemove (m : Fs) (path : B8) : Fs × Int :=
  if m.down then (m, 12) else if (removesM m path).2 ≠ 0 then removesM m path
  else ({ settle (removesM m path).1 with users := m.users ++ [⟨m.calls, 5, 0, 0, 0, path, []⟩] }, 0)

def torn1 (l : Files) (torn : Int) : Option Ch → Files
  | some (.put p f) => if 0 ≤ torn ∧ torn < f.data.length then ap l (.put p { f with data := f.data.take torn.toNat }) else l
  | _ => l
def keepN (m : Fs) (keep : Int) : Nat := min keep.toNat m.pend.length
def fallen (m : Fs) (keep torn : Int) : Files := torn1 ((m.pend.take (keepN m keep)).foldl ap m.sure) torn m.pend[keepN m keep]?
def crash (m : Fs) (keep torn : Int) : Fs :=
  if m.down then m else { m with now := fallen m keep torn, sure := fallen m keep torn, pend := [], down := true }

/-- An event happens: what became of the files; is there no room? is all broken? -/
def happen (n : Nat) (x : Fs × Bool × Bool) (e : Ev) : Fs × Bool × Bool :=
  if e.t ≠ n then x
  else if e.kind = 1 then (crash x.1 e.keep e.torn, x.2)
  else if e.kind = 2 then (x.1, true, x.2.2)
  else if e.kind = 3 then (x.1, x.2.1, true)
  else if e.kind = 4 then ((userWrite x.1 e.path e.mode e.data).1, x.2)
  else if e.kind = 5 then ((userRemove x.1 e.path).1, x.2)
  else x
def callM (m : Fs) : Fs × Bool × Int :=
  let r := m.plan.foldl (happen (m.calls + 1)) ({ m with calls := m.calls + 1 }, false, false)
  (r.1, r.2.1, if r.1.down then 12 else if r.2.2 then 11 else 0)

/-! ### Orders and finds -/
theorem look_putF_same (l : Files) (p : B8) (f : Fi) : look (putF l p f) p = some f := by
  have h : ∀ r : Files, (∀ e ∈ r, (e.1 == p) = false) → (insF (p, f) r).find? (fun e => e.1 == p) = some (p, f) := by
    intro r
    induction r with
    | nil => intro _; simp [insF]
    | cons y r ih =>
      intro hr
      unfold insF
      split
      · simp
      · rw [List.find?_cons, hr y (by simp)]
        exact ih (fun e he => hr e (by simp [he]))
  unfold look putF
  rw [h _ (fun e he => by simpa using (List.mem_filter.1 he).2)]
  rfl

theorem mem_insF {x e : B8 × Fi} : ∀ {l : Files}, e ∈ insF x l ↔ e = x ∨ e ∈ l
  | [] => by simp [insF]
  | y :: r => by
    unfold insF
    split
    · simp
    · simp only [List.mem_cons, mem_insF (l := r)]
      constructor
      · rintro (h | h | h) <;> simp [h]
      · rintro (h | h | h) <;> simp [h]

theorem insF_length (x : B8 × Fi) : ∀ l : Files, (insF x l).length = l.length + 1
  | [] => rfl
  | y :: r => by
    unfold insF
    split
    · rfl
    · simp [insF_length x r]

theorem delF_length (l : Files) (p : B8) : (delF l p).length ≤ l.length := List.length_filter_le _ _
theorem putF_length (l : Files) (p : B8) (f : Fi) : (putF l p f).length ≤ l.length + 1 := by
  unfold putF; rw [insF_length]; have := delF_length l p; omega
theorem ap_length (l : Files) (c : Ch) : (ap l c).length ≤ l.length + 1 := by
  cases c with
  | put p f => exact putF_length l p f
  | mv s d =>
    unfold ap
    simp only
    split
    · rename_i x _
      have h1 := putF_length (delF l s) d x
      have h2 := delF_length l s
      omega
    · omega
  | del p => have := delF_length l p; show (delF l p).length ≤ _; omega

end Go.Proofs.YtalpfoomkhhgnaaGreatDoor
