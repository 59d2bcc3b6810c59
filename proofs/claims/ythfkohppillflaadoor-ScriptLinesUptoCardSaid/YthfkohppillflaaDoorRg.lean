/- A region that draws its order: each of its head's operations is shown alone, out of what its own operands are known to be; what stands behind the head goes on in the text's order. Conditions: each operation of the head leaves what was there as it was. -/
import Derived.WalkKit
import Derived.StillTail
import Derived.Lib.QuietBelow
namespace Go.Proofs.YthfkohppillflaaDoor
open Go Go.RowKit

abbrev Ext (w w' : World) : Prop := Below w.heap.size w w'

theorem Ext.trans {a b c : World} (h : Ext a b) (k : Ext b c) : Ext a c := Below.trans h (k.mono h.size)

section
variable {P : Program} {C : World → Prop} {le : World → World → Prop}

def fillFrom (xs : Nat → Value) : List Oper → Nat → Act → Act
  | [], _, a => a
  | o :: l, k, a => fillFrom xs l (k + 1) (a.put o.dst (xs k))

def relUpon (P : Program) (R : Value → World → Prop) : Result Next → Prop
  | .ok (.value u) w' => R u w'
  | .ok .skip w' => R undef w'
  | .ok (.enter f args) w' => Calls P f args w' (fun e w'' => ∃ v, e = .returned v ∧ R v w'')
  | _ => False

theorem relUpon_value (R : Value → World → Prop) (u : Value) (w : World) : relUpon P R (.ok (.value u) w) = R u w := rfl
theorem relUpon_skip (R : Value → World → Prop) (w : World) : relUpon P R (.ok .skip w) = R undef w := rfl
theorem relUpon_enter (R : Value → World → Prop) (f : FuncId) (args : Array Value) (w : World) :
    relUpon P R (.ok (.enter f args) w) = Calls P f args w (fun e w'' => ∃ v, e = .returned v ∧ R v w'') := rfl

def getV (V : List (Value → World → Prop)) (k : Nat) : Value → World → Prop := V.getD k (fun _ _ => True)

def knows (V : List (Value → World → Prop)) (xs : Nat → Value) (w : World) : List Nat → Prop
  | [] => True
  | j :: l => getV V j (xs j) w ∧ knows V xs w l

theorem knows_of {V : List (Value → World → Prop)} {xs : Nat → Value} {w : World} : ∀ {l : List Nat}, (∀ j ∈ l, getV V j (xs j) w) → knows V xs w l
  | [], _ => trivial
  | j :: l, h => ⟨h j (by simp), knows_of fun i hi => h i (by simp [hi])⟩

def stepObl (P : Program) (C : World → Prop) (le : World → World → Prop) (ops : Array Oper) (V : List (Value → World → Prop)) (head : List Oper) (a0 : Act) (k : Nat) (d : List Nat) (o : Oper) : Prop :=
  ∀ (xs : Nat → Value) (w : World), C w → knows V xs w d → ∀ R : Value → World → Prop, (∀ u w', le w w' → getV V k u w' → R u w') →
    if Region.wanted o (yielded ops (fillFrom xs head 0 a0).tmps) then relUpon P R ((execOp (fillFrom xs head 0 a0).eval o).run P w) else R undef w

def oblFrom (P : Program) (C : World → Prop) (le : World → World → Prop) (ops : Array Oper) (V : List (Value → World → Prop)) (D : List (List Nat)) (head : List Oper) (a0 : Act) : List Oper → Nat → Prop
  | [], _ => True
  | o :: l, k => stepObl P C le ops V head a0 k (D.getD k []) o ∧ oblFrom P C le ops V D head a0 l (k + 1)

def stableFrom (le : World → World → Prop) : List (Value → World → Prop) → Prop
  | [] => True
  | p :: l => (∀ u w w', le w w' → p u w → p u w') ∧ stableFrom le l

theorem stable_get : ∀ {V : List (Value → World → Prop)}, stableFrom le V → ∀ k u w w', le w w' → getV V k u w → getV V k u w'
  | [], _, k, _, _, _, _, _ => by simp [getV]
  | p :: l, h, 0, u, w, w', he, hp => by simpa [getV] using h.1 u w w' he (by simpa [getV] using hp)
  | p :: l, h, k + 1, u, w, w', he, hp => by
    have := stable_get h.2 k u w w' he (by simpa [getV] using hp)
    simpa [getV] using this

theorem obl_get {ops : Array Oper} {V : List (Value → World → Prop)} {D : List (List Nat)} {head : List Oper} {a0 : Act} :
    ∀ {l : List Oper} {k : Nat}, oblFrom P C le ops V D head a0 l k → ∀ i o, l[i]? = some o → stepObl P C le ops V head a0 (k + i) (D.getD (k + i) []) o
  | [], _, _, i, o, h => by simp at h
  | p :: l, k, h, 0, o, ho => by
    have : p = o := by simpa using ho
    subst this
    exact h.1
  | p :: l, k, h, i + 1, o, ho => by
    have := obl_get h.2 i o (by simpa using ho)
    rwa [show k + 1 + i = k + (i + 1) by omega] at this

def dstsOf (l : List Oper) : List Tmp := l.filterMap (·.dst)

theorem put_put (a : Act) (d : Option Tmp) (u v : Value) : (a.put d u).put d v = a.put d v := by
  cases d with
  | none => rfl
  | some d => simp [Act.put]

theorem fill_put_new (xs : Nat → Value) (d : Option Tmp) (u : Value) : ∀ (l : List Oper) (k : Nat) (a : Act), (∀ t, d = some t → t ∉ dstsOf l) →
    (fillFrom xs l k a).put d u = fillFrom xs l k (a.put d u)
  | [], _, _, _ => rfl
  | o :: l, k, a, h => by
    simp only [fillFrom]
    rw [fill_put_new xs d u l (k + 1) _ (fun t ht hm => h t ht (by
      unfold dstsOf at *
      rw [List.filterMap_cons]
      split <;> simp_all))]
    rw [Act.put_comm a (xs k) u (fun t ht hd => h t hd (by simp [dstsOf, List.filterMap_cons, ht]))]

theorem fill_congr {xs ys : Nat → Value} : ∀ (l : List Oper) (k : Nat) (a : Act), (∀ i, k ≤ i → xs i = ys i) → fillFrom xs l k a = fillFrom ys l k a
  | [], _, _, _ => rfl
  | o :: l, k, a, h => by
    simp only [fillFrom]
    rw [h k (Nat.le_refl _)]
    exact fill_congr l (k + 1) _ (fun i hi => h i (by omega))

def upd (xs : Nat → Value) (i : Nat) (u : Value) : Nat → Value := fun j => if j = i then u else xs j

theorem fill_put (xs : Nat → Value) (u : Value) : ∀ (l : List Oper) (k i : Nat) (a : Act) (o : Oper), (dstsOf l).Nodup → l[i]? = some o →
    (fillFrom xs l k a).put o.dst u = fillFrom (upd xs (k + i) u) l k a
  | [], _, i, _, _, _, h => by simp at h
  | p :: l, k, 0, a, o, hn, h => by
    have : p = o := by simpa using h
    subst this
    simp only [fillFrom]
    rw [fill_put_new xs p.dst u l (k + 1) _ (fun t ht hm => by
      have : dstsOf (p :: l) = t :: dstsOf l := by simp [dstsOf, List.filterMap_cons, ht]
      rw [this] at hn
      exact (List.nodup_cons.1 hn).1 hm), put_put]
    rw [fill_congr (xs := xs) (ys := upd xs (k + 0) u) l (k + 1) _ (fun i hi => by simp [upd]; omega)]
    simp [upd]
  | p :: l, k, i + 1, a, o, hn, h => by
    simp only [fillFrom]
    have hn' : (dstsOf l).Nodup := by
      unfold dstsOf at *
      rw [List.filterMap_cons] at hn
      split at hn
      · exact hn
      · exact (List.nodup_cons.1 hn).2
    rw [fill_put xs u l (k + 1) i _ o hn' (by simpa using h)]
    rw [show k + 1 + i = k + (i + 1) by omega]
    simp [upd]

theorem put_self (a : Act) (t : Tmp) : a.put (some t) (a.tmps.getD t undef) = a := by
  cases a with
  | mk tmps defers =>
    simp only [Act.put]
    congr 1
    apply Array.ext_getElem?
    intro i
    by_cases h : t = i
    · subst h
      by_cases h2 : t < tmps.size
      · simp [h2]
      · simp [h2]
    · simp [Array.getElem?_setIfInBounds_ne h]

theorem fill_self : ∀ (l : List Oper) (k : Nat) (a : Act), ∃ xs : Nat → Value, ∀ ys : Nat → Value, (∀ i, k ≤ i → ys i = xs i) → fillFrom ys l k a = a
  | [], _, _ => ⟨fun _ => undef, fun _ _ => rfl⟩
  | o :: l, k, a => by
    obtain ⟨xs, h⟩ := fill_self l (k + 1) a
    refine ⟨fun j => if j = k then (match o.dst with | some t => a.tmps.getD t undef | none => undef) else xs j, fun ys hy => ?_⟩
    simp only [fillFrom]
    have h1 : a.put o.dst (ys k) = a := by
      rw [hy k (Nat.le_refl _)]
      cases ho : o.dst with
      | none => rfl
      | some t => simpa using put_self a t
    rw [h1]
    exact h ys (fun i hi => by rw [hy i (by omega)]; simp; omega)

/-- How many of the first n are yet to come. -/
def left (n : Nat) (listed : Array Bool) : Nat := ((List.range n).filter fun i => !listed.getD i true).length

theorem left_set {n i : Nat} {listed : Array Bool} (hi : i < n) (h : listed.getD i true = false) : left n listed = left n (listed.setIfInBounds i true) + 1 := by
  have hs : i < listed.size := by
    rcases Nat.lt_or_ge i listed.size with h' | h'
    · exact h'
    · simp [Array.getElem?_eq_none h'] at h
  unfold left
  have key : ((List.range n).filter fun j => !(listed.setIfInBounds i true).getD j true) = ((List.range n).filter fun j => !listed.getD j true).erase i := by
    rw [List.Nodup.erase_eq_filter (List.Pairwise.filter _ List.nodup_range), List.filter_filter]
    apply List.filter_congr
    intro j _
    by_cases hj : j = i
    · subst hj; simp [hs]
    · rw [getD_set_ne true (Ne.symm hj)]; simp [hj]
  rw [key, List.length_erase_of_mem]
  · have : 0 < ((List.range n).filter fun j => !listed.getD j true).length := List.length_pos_of_mem (a := i) (by simp only [List.mem_filter, List.mem_range]; exact ⟨hi, by simpa using h⟩)
    omega
  · simp only [List.mem_filter, List.mem_range]; exact ⟨hi, by simpa using h⟩

theorem left_zero {n : Nat} {listed : Array Bool} (h : left n listed = 0) : ∀ i, i < n → listed.getD i true = true := by
  intro i hi
  cases hl : listed.getD i true with
  | true => rfl
  | false => have := left_set hi hl; omega

/-- Edges go back. -/
def backB (ops : Array Oper) : Bool := (List.range ops.size).all fun k => ((ops[k]?).map fun o => o.after.all fun e => !Region.binds .any e || decide (e.on < k)).getD true
/-- What is asked to be known is waited for. -/
def depsB (ops : Array Oper) (D : List (List Nat)) : Bool := (List.range ops.size).all fun k => (D.getD k []).all fun j => Region.waitsFor .any ops k j

def headArr (m n : Nat) : Array Bool := (Array.replicate n true) ++ (Array.replicate (m - n) false)

def relB (ops : Array Oper) (n : Nat) (D : List (List Nat)) : Bool :=
  decide (n ≤ ops.size) && backB ops && depsB ops D && decide (dstsOf (ops.toList.take n)).Nodup &&
  (decide (n = ops.size) || (decide (n < ops.size) && Region.sinkB .any ops n && Region.chainB .any ops n)) &&
  Region.seqB .any ops (ops.size - n) n (headArr ops.size n)

structure RInv (C : World → Prop) (ops : Array Oper) (n : Nat) (V : List (Value → World → Prop)) (a0 : Act) (listed : Array Bool) (a : Act) (w : World) : Prop where
  head : HeadInv .any ops n listed
  ext : C w
  fill : ∃ xs : Nat → Value, a = fillFrom xs (ops.toList.take n) 0 a0 ∧ ∀ j, j < n → listed.getD j false = true → getV V j (xs j) w

theorem getD_of_size {listed : Array Bool} {i : Nat} (hi : i < listed.size) (x y : Bool) : listed.getD i x = listed.getD i y := by simp [hi]

theorem wp_of_rel {ops : Array Oper} {o : Oper} {a : Act} {w : World} {R : Value → World → Prop} {K : Act → World → Prop} {Q : Exit → Act → World → Prop}
    (hR : ∀ u w', R u w' → K (a.put o.dst u) w') (h : if Region.wanted o (yielded ops a.tmps) then relUpon P R ((execOp a.eval o).run P w) else R undef w) :
    if Region.wanted o (yielded ops a.tmps) then o.wp P a w K Q ∨ (o.asks P a w ∧ LetsOut Q) else K (a.put o.dst undef) w := by
  split
  · rename_i hw
    rw [if_pos hw] at h
    refine .inl ?_
    unfold Oper.wp
    generalize (execOp a.eval o).run P w = r at *
    cases r with
    | ok nx w' =>
      cases nx <;> simp only [relUpon] at h <;> simp only [Oper.upon]
      case value u => exact hR _ _ h
      case skip => exact hR _ _ h
      case enter f args => exact h.mono fun e w'' ⟨v, he, hv⟩ => by subst he; exact hR _ _ hv
    | halt x w' => simp only [relUpon] at h
  · rename_i hw
    rw [if_neg hw] at h
    exact hR _ _ h

theorem wpAny_rel {ops : Array Oper} {n : Nat} {V : List (Value → World → Prop)} {D : List (List Nat)} {a0 : Act} {Q : Exit → Act → World → Prop} (hC : ∀ w w', C w → le w w' → C w')
    (hB : relB ops n D = true) (hV : stableFrom le V) (hs : oblFrom P C le ops V D (ops.toList.take n) a0 (ops.toList.take n) 0)
    (hQ : ∀ xs w, C w → knows V xs w (List.range n) → wpList P ops Q (ops.toList.drop n) (fillFrom xs (ops.toList.take n) 0 a0) w) :
    ∀ (f : Nat) (listed : Array Bool) (a : Act) (w : World), left n listed = f → RInv C ops n V a0 listed a w → wpAny P .any ops Q (f + (ops.size - n)) listed a w := by
  simp only [relB, Bool.and_eq_true, Bool.or_eq_true, decide_eq_true_eq] at hB
  obtain ⟨⟨⟨⟨⟨hn, hback⟩, hdeps⟩, hnd⟩, htail⟩, hseq⟩ := hB
  intro f
  induction f with
  | zero =>
    intro listed a w hl inv
    have hall := left_zero hl
    have harr : listed = headArr ops.size n := by
      apply Array.ext_getElem?
      intro i
      have hsz := inv.head.size
      unfold headArr
      by_cases h1 : i < n
      · have := hall i h1
        have hi : i < listed.size := by omega
        simp only [hi, Array.getD_eq_getD_getElem?, Array.getElem?_eq_getElem, Option.getD_some] at this
        rw [Array.getElem?_append_left (by simpa using h1)]
        simp [hi, h1, this]
      · by_cases h2 : i < ops.size
        · have := inv.head.tail i (by omega) h2
          have hi : i < listed.size := by omega
          simp only [hi, Array.getD_eq_getD_getElem?, Array.getElem?_eq_getElem, Option.getD_some] at this
          rw [Array.getElem?_append_right (by simpa using h1)]
          simp only [hi, Array.getElem?_eq_getElem, this]
          rw [Array.getElem?_replicate, if_pos (by simp; omega)]
        · rw [Array.getElem?_eq_none (by omega), Array.getElem?_eq_none (by simp; omega)]
    obtain ⟨xs, ha, hx⟩ := inv.fill
    have hk : knows V xs w (List.range n) := knows_of fun j hj => hx j (List.mem_range.1 hj) (by
      have := hall j (List.mem_range.1 hj)
      have hj' := List.mem_range.1 hj
      rwa [getD_of_size (by rw [inv.head.size]; omega) true false] at this)
    have := hQ xs w inv.ext hk
    rw [← ha] at this
    rw [Nat.zero_add]
    have h2 := wpAny_of_seq (md := .any) (Q' := Q) (ops.toList.drop n) n listed a w (fun j => by simp [List.getElem?_drop]) (by rw [harr]; simpa using hseq) this
    simpa using h2
  | succ f ih =>
    intro listed a w hl inv
    rw [show f + 1 + (ops.size - n) = (f + (ops.size - n)) + 1 by omega]
    -- one of the head is yet to come
    have hex : ∃ i, i < n ∧ listed.getD i true = false := by
      have h1 : 0 < ((List.range n).filter fun i => !listed.getD i true).length := by unfold left at hl; omega
      obtain ⟨i, hi⟩ := List.exists_mem_of_length_pos h1
      simp only [List.mem_filter, List.mem_range] at hi
      exact ⟨i, hi.1, by simpa using hi.2⟩
    have hready : ∃ i, i < n ∧ i ∈ Region.ready .any ops listed := by
      obtain ⟨i, hi, hu⟩ := hex
      revert hi hu
      induction i using Nat.strongRecOn with
      | _ i ihh =>
        intro hi hu
        have hlt : i < ops.size := by omega
        by_cases hr : i ∈ Region.ready .any ops listed
        · exact ⟨i, hi, hr⟩
        · have ho : ops[i]? = some ops[i] := Array.getElem?_eq_getElem hlt
          have hb := List.all_eq_true.1 hback i (List.mem_range.2 hlt)
          rw [ho] at hb
          simp only [Option.map_some, Option.getD_some] at hb
          have : ∃ e ∈ ops[i].after, Region.binds .any e = true ∧ listed.getD e.on false = false := by
            apply Classical.byContradiction
            intro hno
            apply hr
            rw [mem_ready]
            refine ⟨hu, ops[i], ho, fun e he hbd => ?_⟩
            cases hq : listed.getD e.on false with
            | true => rfl
            | false => exact absurd ⟨e, he, hbd, hq⟩ hno
          obtain ⟨e, he, hbd, hq⟩ := this
          have hlt2 := Array.all_eq_true'.1 hb e he
          simp only [hbd, Bool.not_true, Bool.false_or, decide_eq_true_eq] at hlt2
          exact ihh e.on hlt2 (by omega) (getD_in (by rw [inv.head.size]; omega) hq)
    refine ⟨fun h0 => ?_, fun i hi => ?_⟩
    · obtain ⟨i, _, hr⟩ := hready
      rw [h0] at hr; cases hr
    · have hin : i < n := by
        rcases Nat.lt_or_ge i n with h | h
        · exact h
        · exfalso
          rcases htail with h2 | ⟨⟨hlt, hsk⟩, hch⟩
          · obtain ⟨_, o, ho, _⟩ := mem_ready.1 hi
            have := (Array.getElem?_eq_some_iff.1 ho).1
            omega
          · obtain ⟨j, hj, hu⟩ := hex
            exact tail_waits hsk hch hlt inv.head _ j rfl hj hu i h hi
      obtain ⟨hu, o, ho, hw⟩ := mem_ready.1 hi
      obtain ⟨xs, ha, hx⟩ := inv.fill
      have hoi : (ops.toList.take n)[i]? = some o := by simp [hin, ho]
      have hst := obl_get hs i o hoi
      rw [Nat.zero_add] at hst
      have hkn : knows V xs w (D.getD i []) := knows_of fun j hj => by
        have h1 := List.all_eq_true.1 hdeps i (List.mem_range.2 (by omega))
        have h2 := List.all_eq_true.1 h1 j hj
        obtain ⟨o', ho', e, he, hb, hon⟩ := Region.waitsFor_spec h2
        have : o' = o := Option.some.inj (ho'.symm.trans ho)
        subst this
        have h3 := hw e he hb
        rw [hon] at h3
        have hjn : j < n := by
          have hb1 := List.all_eq_true.1 hback i (List.mem_range.2 (by omega))
          rw [ho] at hb1
          simp only [Option.map_some, Option.getD_some] at hb1
          have h4 := Array.all_eq_true'.1 hb1 e he
          simp only [hb, Bool.not_true, Bool.false_or, decide_eq_true_eq] at h4
          omega
        exact hx j hjn h3
      have hstep := hst xs w inv.ext hkn (fun u w' => le w w' ∧ getV V i u w') (fun u w' h1 h2 => ⟨h1, h2⟩)
      rw [← ha] at hstep
      have hres := wp_of_rel (P := P) (ops := ops) (Q := Q) (K := wpAny P .any ops Q (f + (ops.size - n)) (listed.setIfInBounds i true)) (fun u w' h => by
        refine ih (listed.setIfInBounds i true) (a.put o.dst u) w' ?_ ⟨inv.head.set hi hin, hC _ _ inv.ext h.1, upd xs i u, ?_, ?_⟩
        · have := left_set hin hu
          omega
        · rw [ha, fill_put xs u (ops.toList.take n) 0 i a0 o hnd hoi, Nat.zero_add]
        · intro j hj hlj
          by_cases hji : j = i
          · subst hji; simpa [upd] using h.2
          · rw [getD_set_ne false (Ne.symm hji)] at hlj
            simp only [upd, hji, if_false]
            exact stable_get hV j _ _ _ h.1 (hx j hj hlj)) hstep
      unfold wpOp
      simp only [ho]
      exact hres

/-- A region that draws its order: its head by each operation alone, its tail in the text's order. -/
theorem wp_region_le {id : Nat} {Q : Exit → Act → World → Prop} {a : Act} {w : World} {l : List Oper} (n : Nat) (V : List (Value → World → Prop)) (D : List (List Nat))
    (hm : P.follows .mixedOrders = true) (hC : ∀ w w', C w → le w w' → C w') (hC0 : C { w with drawn := w.drawn + 1 }) (hB : relB l.toArray n D = true) (hV : stableFrom le V)
    (hs : oblFrom P C le l.toArray V D (l.take n) a (l.take n) 0)
    (hQ : ∀ xs w', C w' → knows V xs w' (List.range n) → wpList P l.toArray Q (l.drop n) (fillFrom xs (l.take n) 0 a) w') :
    (Code.region id l.toArray true).wp P Q a w := by
  refine wp_region_any hm ?_
  have hn : n ≤ l.toArray.size := by
    simp only [relB, Bool.and_eq_true, decide_eq_true_eq] at hB
    exact hB.1.1.1.1.1
  obtain ⟨xs0, h0⟩ := fill_self (l.take n) 0 a
  have hl : left n (Array.replicate l.toArray.size false) = n := by
    unfold left
    rw [List.filter_eq_self.2]
    · simp
    · intro i hi
      have : i < l.toArray.size := by have := List.mem_range.1 hi; omega
      simp at this
      simp [this]
  have H := wpAny_rel (P := P) (C := C) (le := le) (Q := Q) (a0 := a) hC hB hV (by simpa using hs) (by simpa using hQ) n (Array.replicate l.toArray.size false) a { w with drawn := w.drawn + 1 } hl
    ⟨⟨by simp, fun j oj _ hl => (by rw [getD_replicate_false] at hl; cases hl), fun t _ ht => getD_in (by simpa using ht) (getD_replicate_false _ _)⟩,
      hC0, xs0, by simpa using (h0 xs0 (fun _ _ => rfl)).symm, fun j _ hl => (by rw [getD_replicate_false] at hl; cases hl)⟩
  rw [show n + (l.toArray.size - n) = l.toArray.size by omega] at H
  exact H

/-- .. at worlds that go on. -/
theorem wp_region_rel {id : Nat} {Q : Exit → Act → World → Prop} {a : Act} {w : World} {l : List Oper} (n : Nat) (V : List (Value → World → Prop)) (D : List (List Nat))
    (hm : P.follows .mixedOrders = true) (hB : relB l.toArray n D = true) (hV : stableFrom Ext V)
    (hs : oblFrom P (Ext w) Ext l.toArray V D (l.take n) a (l.take n) 0)
    (hQ : ∀ xs w', Ext w w' → knows V xs w' (List.range n) → wpList P l.toArray Q (l.drop n) (fillFrom xs (l.take n) 0 a) w') :
    (Code.region id l.toArray true).wp P Q a w :=
  wp_region_le (C := Ext w) (le := Ext) n V D hm (fun _ _ h k => Ext.trans h k) ⟨rfl, rfl, rfl, Nat.le_refl _, fun _ _ => rfl⟩ hB hV hs hQ

/-- Of each operation: a value ('none': the one of the list), or what is known of it. -/
def mixV : List Value → List (Option (Value → World → Prop)) → List (Value → World → Prop)
  | c :: cs, none :: l => (fun u _ => u = c) :: mixV cs l
  | _ :: cs, some V :: l => V :: mixV cs l
  | _, _ => []
def stabW : List (Option (Value → World → Prop)) → Prop
  | [] => True
  | none :: l => stabW l
  | some V :: l => (∀ u w w', Ext w w' → V u w → V u w') ∧ stabW l
theorem stab_mix : ∀ (cs : List Value) (l : List (Option (Value → World → Prop))), stabW l → stableFrom Ext (mixV cs l)
  | [], [], _ => trivial
  | [], _ :: _, _ => trivial
  | _ :: _, [], _ => trivial
  | _ :: cs, none :: l, h => ⟨fun _ _ _ _ hu => hu, stab_mix cs l h⟩
  | _ :: cs, some _ :: l, h => ⟨h.1, stab_mix cs l h.2⟩

def heldV : List Value → List (Option (Value → World → Prop)) → Nat → (Nat → Value) → World → Prop
  | c :: cs, none :: l, k, xs, w => xs k = c ∧ heldV cs l (k + 1) xs w
  | _ :: cs, some V :: l, k, xs, w => V (xs k) w ∧ heldV cs l (k + 1) xs w
  | _, _, _, _, _ => True
theorem held_of (xs : Nat → Value) (w : World) : ∀ (cs : List Value) (l : List (Option (Value → World → Prop))) (k : Nat), (∀ j, j < (mixV cs l).length → getV (mixV cs l) j (xs (k + j)) w) → heldV cs l k xs w
  | [], [], _, _ => trivial
  | [], _ :: _, _, _ => trivial
  | _ :: _, [], _, _ => trivial
  | c :: cs, none :: l, k, h => ⟨by simpa [getV, mixV] using h 0 (by simp [mixV]), held_of xs w cs l (k + 1) fun j hj => by
      have := h (j + 1) (by simp [mixV]; omega)
      rw [show k + (j + 1) = k + 1 + j by omega] at this
      simpa [getV, mixV] using this⟩
  | c :: cs, some V :: l, k, h => ⟨by simpa [getV, mixV] using h 0 (by simp [mixV]), held_of xs w cs l (k + 1) fun j hj => by
      have := h (j + 1) (by simp [mixV]; omega)
      rw [show k + (j + 1) = k + 1 + j by omega] at this
      simpa [getV, mixV] using this⟩
theorem knows_get {V : List (Value → World → Prop)} {xs : Nat → Value} {w : World} : ∀ {l : List Nat}, knows V xs w l → ∀ j ∈ l, getV V j (xs j) w
  | [], _, _, h => by simp at h
  | i :: l, h, j, hj => by
    rcases List.mem_cons.1 hj with rfl | hj
    · exact h.1
    · exact knows_get h.2 j hj

theorem wp_region_mix {id : Nat} {Q : Exit → Act → World → Prop} {a : Act} {w : World} {l : List Oper} (n : Nat) (cs : List Value) (W : List (Option (Value → World → Prop))) (D : List (List Nat))
    (hm : P.follows .mixedOrders = true) (hB : relB l.toArray n D = true) (hn : (mixV cs W).length ≤ n) (hV : stabW W)
    (hs : oblFrom P (Ext w) Ext l.toArray (mixV cs W) D (l.take n) a (l.take n) 0)
    (hQ : ∀ xs w', Ext w w' → heldV cs W 0 xs w' → wpList P l.toArray Q (l.drop n) (fillFrom xs (l.take n) 0 a) w') :
    (Code.region id l.toArray true).wp P Q a w :=
  wp_region_rel n (mixV cs W) D hm hB (stab_mix cs W hV) hs fun xs w' h1 h2 => hQ xs w' h1 (held_of xs w' cs W 0 fun j hj => by
    rw [Nat.zero_add]; exact knows_get h2 j (List.mem_range.2 (by omega)))

/-! ### The head's values do not hang on the world: one walk of the text's order -/
theorem unroll {ops : Array Oper} {fin : Act → Prop} : ∀ (L : List Oper) (k : Nat) (a : Act), wpQuiet P ops C fin L a →
    ∃ vs : Nat → Value, (∀ i o, L[i]? = some o → YieldsIn P ops C o (vs (k + i)) (fillFrom vs (L.take i) k a)) ∧ fin (fillFrom vs L k a)
  | [], _, _, h => ⟨fun _ => undef, fun i o ho => by simp at ho, h⟩
  | o :: L, k, a, h => by
    have h1 : ∃ v, YieldsIn P ops C o v a ∧ wpQuiet P ops C fin L (a.put o.dst v) := by
      unfold wpQuiet at h
      by_cases hw : Region.wanted o (yielded ops a.tmps) = true
      · rw [if_pos hw] at h
        obtain ⟨v, hv, hn⟩ := h
        exact ⟨v, .inl ⟨hw, hv⟩, hn⟩
      · rw [if_neg hw] at h
        exact ⟨undef, .inr ⟨by simpa using hw, rfl⟩, h⟩
    obtain ⟨v, hy, hn⟩ := h1
    obtain ⟨vs, h2, h3⟩ := unroll L (k + 1) _ hn
    have hv : ∀ (M : List Oper) (b : Act), fillFrom (upd vs k v) M (k + 1) b = fillFrom vs M (k + 1) b := fun M b =>
      fill_congr M (k + 1) b (fun i hi => by simp [upd]; omega)
    refine ⟨upd vs k v, fun i p hp => ?_, ?_⟩
    · cases i with
      | zero =>
        have : o = p := by simpa using hp
        subst this
        simpa [upd, fillFrom] using hy
      | succ i =>
        have h4 := h2 i p (by simpa using hp)
        have e1 : upd vs k v (k + (i + 1)) = vs (k + 1 + i) := by simp [upd]; rw [show k + (i + 1) = k + 1 + i by omega]
        rw [e1]
        have e2 : upd vs k v k = v := by simp [upd]
        simp only [List.take_succ_cons, fillFrom, hv, e2]
        exact h4
    · have e2 : upd vs k v k = v := by simp [upd]
      simp only [fillFrom, hv, e2]
      exact h3

def readsB (ops : Array Oper) (k j : Nat) : Bool := match ops[k]?, (ops[j]?).bind (·.dst) with
  | some o, some t => (o.looksAt ops).contains t
  | _, _ => false
def qtD (ops : Array Oper) : List (List Nat) := (List.range ops.size).map fun k => (List.range k).filter (readsB ops k)
def locB (ops : Array Oper) (n : Nat) : Bool := (List.range n).all fun k => (List.range n).all fun j => decide (j < k) || !readsB ops k j
def qtB (ops : Array Oper) (n : Nat) : Bool := relB ops n (qtD ops) && locB ops n && Region.noSelect ops

theorem fill_out {t : Tmp} (xs : Nat → Value) : ∀ (L : List Oper) (k : Nat) (a : Act), t ∉ dstsOf L → (fillFrom xs L k a).tmps[t]? = a.tmps[t]?
  | [], _, _, _ => rfl
  | o :: L, k, a, h => by
    simp only [fillFrom]
    have h2 : t ∉ dstsOf L := fun hm => h (by
      unfold dstsOf at *
      rw [List.filterMap_cons]
      split <;> simp_all)
    rw [fill_out xs L (k + 1) _ h2]
    cases ho : o.dst with
    | none => rfl
    | some d =>
      have hne : d ≠ t := fun e => h (by simp [dstsOf, List.filterMap_cons, ho, e])
      simp [Act.put, Array.getElem?_setIfInBounds_ne hne]

theorem fill_same {t : Tmp} (xs ys : Nat → Value) : ∀ (L : List Oper) (k : Nat) (a b : Act), a.tmps.size = b.tmps.size → a.tmps[t]? = b.tmps[t]? → (∀ j o, L[j]? = some o → o.dst = some t → xs (k + j) = ys (k + j)) →
    (fillFrom xs L k a).tmps[t]? = (fillFrom ys L k b).tmps[t]?
  | [], _, _, _, _, h, _ => h
  | o :: L, k, a, b, hs, h, hx => by
    simp only [fillFrom]
    refine fill_same xs ys L (k + 1) _ _ ?_ ?_ (fun j p hp hd => by have := hx (j + 1) p (by simpa using hp) hd; rwa [show k + (j + 1) = k + 1 + j by omega] at this)
    · cases o.dst <;> simp [Act.put, hs]
    · cases ho : o.dst with
      | none => exact h
      | some d =>
        by_cases hd : d = t
        · subst hd
          have := hx 0 o (by simp) ho
          simp only [Nat.add_zero] at this
          simp [Act.put, this, hs, Array.getElem?_setIfInBounds]
        · simp [Act.put, Array.getElem?_setIfInBounds_ne hd, h]

theorem fill_append (xs : Nat → Value) : ∀ (L M : List Oper) (k : Nat) (a : Act), fillFrom xs (L ++ M) k a = fillFrom xs M (k + L.length) (fillFrom xs L k a)
  | [], _, _, _ => rfl
  | o :: L, M, k, a => by
    simp only [List.cons_append, fillFrom, List.length_cons]
    rw [fill_append xs L M (k + 1) _, show k + 1 + L.length = k + (L.length + 1) by omega]

theorem eval_of_slot {a b : Act} {t : Tmp} (h : a.tmps[t]? = b.tmps[t]?) : a.eval (.tmp t) = b.eval (.tmp t) := by
  simp [Act.eval, h]

theorem wp_region_qt {id : Nat} {Q : Exit → Act → World → Prop} {a : Act} {w : World} {l : List Oper} (n : Nat) (hm : P.follows .mixedOrders = true) (hB : qtB l.toArray n = true) (hC0 : C { w with drawn := w.drawn + 1 })
    (h : wpQuiet P l.toArray C (fun a' => ∀ w', C w' → wpList P l.toArray Q (l.drop n) a' w') (l.take n) a) : (Code.region id l.toArray true).wp P Q a w := by
  simp only [qtB, Bool.and_eq_true] at hB
  obtain ⟨⟨hrel, hloc⟩, hsel⟩ := hB
  have hn : n ≤ l.length := by
    simp only [relB, Bool.and_eq_true, decide_eq_true_eq] at hrel
    simpa using hrel.1.1.1.1.1
  obtain ⟨vs, hvs, hfin⟩ := unroll (P := P) (C := C) (l.take n) 0 a h
  have hgetV : ∀ k u w', k < n → (getV ((List.range n).map fun i => fun u _ => u = vs i) k u w' ↔ u = vs k) := fun k u w' hk => by
    simp [getV, hk]
  have hkn : ∀ (xs : Nat → Value) (w' : World) (d : List Nat), (∀ j ∈ d, j < n) → knows ((List.range n).map fun i => fun u _ => u = vs i) xs w' d → ∀ j ∈ d, xs j = vs j := by
    intro xs w' d
    induction d with
    | nil => intro _ _ j hj; simp at hj
    | cons x d ih =>
      intro hd hk j hj
      rcases List.mem_cons.1 hj with rfl | hj
      · exact (hgetV _ _ _ (hd _ (by simp))).1 hk.1
      · exact ih (fun i hi => hd i (by simp [hi])) hk.2 j hj
  refine wp_region_le (C := C) (le := fun _ w' => C w') n ((List.range n).map fun i => fun u _ => u = vs i) (qtD l.toArray) hm (fun _ _ _ k => k) hC0 hrel ?_ ?_ ?_
  · have : ∀ L : List Nat, stableFrom (fun _ w' => C w') (L.map fun i => fun u _ => u = vs i) := fun L => by
      induction L with
      | nil => trivial
      | cons x L ih => exact ⟨fun u w w' _ hu => hu, ih⟩
    exact this _
  · -- each operation of the head
    have key : ∀ i o, (l.take n)[i]? = some o → stepObl P C (fun _ w' => C w') l.toArray ((List.range n).map fun i => fun u _ => u = vs i) (l.take n) a i ((qtD l.toArray).getD i []) o := by
      intro i o ho xs w' hw' hk R hR
      have hin : i < n := by
        have := (List.getElem?_eq_some_iff.1 ho).1
        simp at this; omega
      have hil : i < l.length := by omega
      have hoi : l.toArray[i]? = some o := by
        rw [List.getElem?_take_of_lt hin] at ho
        simpa using ho
      have hDi : (qtD l.toArray).getD i [] = (List.range i).filter (readsB l.toArray i) := by
        simp [qtD, hil]
      rw [hDi] at hk
      have hxs : ∀ j, j < i → readsB l.toArray i j = true → xs j = vs j := fun j hj hr =>
        hkn xs w' _ (fun j hj => by have := List.mem_range.1 (List.mem_filter.1 hj).1; omega) hk j (List.mem_filter.2 ⟨List.mem_range.2 hj, hr⟩)
      have hnr : ∀ j, i ≤ j → j < n → readsB l.toArray i j = false := fun j hij hjn => by
        have h1 := List.all_eq_true.1 (List.all_eq_true.1 hloc i (List.mem_range.2 hin)) j (List.mem_range.2 hjn)
        simp only [Bool.or_eq_true, decide_eq_true_eq, Bool.not_eq_true'] at h1
        rcases h1 with h1 | h1
        · omega
        · exact h1
      have hdst : ∀ j p t, l[j]? = some p → p.dst = some t → t ∈ o.looksAt l.toArray → readsB l.toArray i j = true := fun j p t hp hd ht => by
        have hp2 : l.toArray[j]? = some p := by simpa using hp
        unfold readsB
        rw [hoi, hp2]
        simp only [Option.bind_some, hd]
        simpa using ht
      -- what it looks at is the same in both frames
      have hslot : ∀ t ∈ o.looksAt l.toArray, (fillFrom xs (l.take n) 0 a).tmps[t]? = (fillFrom vs ((l.take n).take i) 0 a).tmps[t]? := by
        intro t ht
        have e1 : l.take n = (l.take n).take i ++ (l.take n).drop i := (List.take_append_drop i _).symm
        rw [e1, fill_append]
        rw [fill_out]
        · rw [← e1]
          refine fill_same xs vs _ 0 a a rfl rfl (fun j p hp hd => ?_)
          rw [Nat.zero_add]
          have hj : j < i := by
            have := (List.getElem?_eq_some_iff.1 hp).1
            simp at this; omega
          rw [List.take_take, List.getElem?_take_of_lt (by omega)] at hp
          exact hxs j hj (hdst j p t hp hd ht)
        · intro hm
          unfold dstsOf at hm
          obtain ⟨p, hp, hd⟩ := List.mem_filterMap.1 hm
          obtain ⟨j, hj, rfl⟩ := List.mem_iff_getElem.1 hp
          have hjl : i + j < n := by simp at hj; omega
          have hp2 : l[i + j]? = some (((l.take n).drop i)[j]) := by
            rw [List.getElem_drop, List.getElem_take, List.getElem?_eq_getElem]
          have h1 := hdst (i + j) _ t hp2 hd ht
          rw [hnr (i + j) (by omega) hjl] at h1
          cases h1
      have hex : execOp (fillFrom xs (l.take n) 0 a).eval o = execOp (fillFrom vs ((l.take n).take i) 0 a).eval o := by
        refine execOp_congr o (fun cs b => Region.noSelect_spec hsel i o cs b hoi) (fun x hx => ?_)
        cases x with
        | tmp t => exact eval_of_slot (hslot t (List.mem_append_left _ (List.mem_filterMap.2 ⟨.tmp t, by simpa using hx, rfl⟩)))
        | _ => rfl
      have hwd : Region.wanted o (yielded l.toArray (fillFrom xs (l.take n) 0 a).tmps) = Region.wanted o (yielded l.toArray (fillFrom vs ((l.take n).take i) 0 a).tmps) := by
        unfold Region.wanted
        cases hg : o.guard with
        | none => rfl
        | some p =>
          obtain ⟨g, wt⟩ := p
          simp only
          congr 1
          unfold yielded
          cases hgd : (l.toArray[g]?).bind (·.dst) with
          | none => simp [hgd]
          | some t =>
            have := hslot t (List.mem_append_right _ (by rw [hg]; simp only; rw [hgd]; simp))
            simp [hgd, this]
      rw [hex, hwd]
      have hy := hvs i o ho
      rw [Nat.zero_add] at hy
      rcases hy with ⟨hw1, hq⟩ | ⟨hw1, hu⟩
      · rw [if_pos hw1]
        have hq1 := hq w' hw'
        unfold Oper.quietAt at hq1
        generalize (execOp (fillFrom vs ((l.take n).take i) 0 a).eval o).run P w' = r at *
        cases r with
        | ok nx w2 =>
          cases nx <;> simp only [Oper.quietUpon] at hq1 <;> simp only [relUpon]
          case value u => obtain ⟨e1, e2⟩ := hq1; subst e1; exact hR _ _ hw' ((hgetV _ _ _ hin).2 e2)
          case skip => obtain ⟨e1, e2⟩ := hq1; subst e1; exact hR _ _ hw' ((hgetV _ _ _ hin).2 e2.symm)
          case enter f args => obtain ⟨e1, e2⟩ := hq1; subst e1; exact e2.mono fun e w3 ⟨he, hc⟩ => ⟨_, he, hR _ _ hc ((hgetV _ _ _ hin).2 rfl)⟩
        | halt x w2 => simp only [Oper.quietUpon] at hq1
      · rw [if_neg (by rw [hw1]; simp)]
        exact hR _ _ hw' ((hgetV _ _ _ hin).2 hu.symm)
    have gen : ∀ (L : List Oper) (k : Nat), (∀ i o, L[i]? = some o → (l.take n)[k + i]? = some o) → oblFrom P C (fun _ w' => C w') l.toArray ((List.range n).map fun i => fun u _ => u = vs i) (qtD l.toArray) (l.take n) a L k := by
      intro L
      induction L with
      | nil => intro k _; trivial
      | cons o L ih =>
        intro k hL
        exact ⟨key k o (by simpa using hL 0 o rfl), ih (k + 1) (fun i p hp => by have := hL (i + 1) p (by simpa using hp); rwa [show k + (i + 1) = k + 1 + i by omega] at this)⟩
    exact gen _ 0 (fun i o ho => by simpa using ho)
  · intro xs w' hw' hk
    have hall := hkn xs w' _ (fun j hj => List.mem_range.1 hj) hk
    have : fillFrom xs (l.take n) 0 a = fillFrom vs (l.take n) 0 a := by
      have : ∀ (L : List Oper) (k : Nat) (b : Act), k + L.length ≤ n → fillFrom xs L k b = fillFrom vs L k b := by
        intro L
        induction L with
        | nil => intro _ _ _; rfl
        | cons o L ih =>
          intro k b hk
          simp only [List.length_cons] at hk
          simp only [fillFrom]
          rw [hall k (List.mem_range.2 (by omega)), ih (k + 1) _ (by omega)]
      exact this _ 0 a (by simp; omega)
    rw [this]
    exact hfin w' hw'

/-- At worlds that go on. -/
theorem wp_region_qx {id : Nat} {Q : Exit → Act → World → Prop} {a : Act} {w : World} {l : List Oper} (n : Nat) (hm : P.follows .mixedOrders = true) (hB : qtB l.toArray n = true)
    (h : wpQuiet P l.toArray (fun w' => ∃ p : Regrown, w' = Go.Sort.grow (redrawn w p.d) p.os) (fun a' => ∀ w', (∃ p : Regrown, w' = Go.Sort.grow (redrawn w p.d) p.os) → wpList P l.toArray Q (l.drop n) a' w') (l.take n) a) : (Code.region id l.toArray true).wp P Q a w :=
  wp_region_qt (C := fun w' => ∃ p : Regrown, w' = Go.Sort.grow (redrawn w p.d) p.os) n hm hB ⟨⟨w.drawn + 1, #[]⟩, by rw [Go.Sort.grow_empty]; rfl⟩ h
end

end Go.Proofs.YthfkohppillflaaDoor
