/- marref5.FS: safe, drop. Conditions: at most 900000 ticks; short paths. -/
import Derived.Test.YtfimfbdlegookaaGreatDoorZaa
import Derived.Test.YtfimfbdlegookaaGreatDoorZaf
import Derived.Test.YtfimfbdlegookaaGreatDoorZah
import Derived.Test.YtfimfbdlegookaaGreatDoorZae
import Derived.Test.YtfimfbdlegookaaGreatDoorZag
import Derived.Deep.Upon
import Derived.Test.YtfimfbdlegookaaGreatDoorZab

set_option linter.unusedVariables false
set_option linter.unusedSimpArgs false
set_option linter.unusedSectionVars false

/-! A region that draws its order and whose operations write: what holds of the world is said of each set of those operations that have been done. Conditions: each operation of the head goes on from each such set. -/
namespace Go.Proofs.YtfimfbdlegookaaGreatDoor
open Go Go.RowKit

def getP (V : List (Value → Prop)) (k : Nat) : Value → Prop := V.getD k (fun _ => True)
/-- What the marked operations have handed back so far. -/
def zOf (K : List Bool) (listed : Array Bool) (xs : Nat → Value) : Nat → Option Value := fun j => if K.getD j false && listed.getD j false then some (xs j) else none
def zAll (K : List Bool) (xs : Nat → Value) : Nat → Option Value := fun j => if K.getD j false then some (xs j) else none
def zSet (z : Nat → Option Value) (k : Nat) (u : Value) : Nat → Option Value := fun j => if j = k then some u else z j
def knowsI (K : List Bool) (V : List (Value → Prop)) (z : Nat → Option Value) (xs : Nat → Value) : List Nat → Prop
  | [] => True
  | j :: l => (if K.getD j false then z j = some (xs j) else getP V j (xs j)) ∧ knowsI K V z xs l
theorem knowsI_of {K : List Bool} {V : List (Value → Prop)} {z : Nat → Option Value} {xs : Nat → Value} : ∀ {l : List Nat}, (∀ j ∈ l, if K.getD j false then z j = some (xs j) else getP V j (xs j)) → knowsI K V z xs l
  | [], _ => trivial
  | j :: l, h => ⟨h j (by simp), knowsI_of fun i hi => h i (by simp [hi])⟩

section
variable {P : Program} {J : (Nat → Option Value) → World → Prop}
def stepI (P : Program) (J : (Nat → Option Value) → World → Prop) (ops : Array Oper) (K : List Bool) (V : List (Value → Prop)) (head : List Oper) (a0 : Act) (k : Nat) (d : List Nat) (o : Oper) : Bool → Prop
  | true => ∀ (xs : Nat → Value) (z : Nat → Option Value) (w : World), J z w → z k = none → knowsI K V z xs d → ∀ R : Value → World → Prop, (∀ u w', J (zSet z k u) w' → R u w') →
    if Region.wanted o (yielded ops (fillFrom xs head 0 a0).tmps) then relUpon P R ((execOp (fillFrom xs head 0 a0).eval o).run P w) else R undef w
  | false => ∀ (xs : Nat → Value) (z : Nat → Option Value) (w : World), J z w → knowsI K V z xs d → ∀ R : Value → World → Prop, (∀ u w', J z w' → getP V k u → R u w') →
    if Region.wanted o (yielded ops (fillFrom xs head 0 a0).tmps) then relUpon P R ((execOp (fillFrom xs head 0 a0).eval o).run P w) else R undef w
def oblI (P : Program) (J : (Nat → Option Value) → World → Prop) (ops : Array Oper) (K : List Bool) (V : List (Value → Prop)) (D : List (List Nat)) (head : List Oper) (a0 : Act) : List Oper → List Bool → Nat → Prop
  | [], _, _ => True
  | _ :: _, [], _ => False
  | o :: l, b :: ks, k => stepI P J ops K V head a0 k (D.getD k []) o b ∧ oblI P J ops K V D head a0 l ks (k + 1)
theorem oblI_get {ops : Array Oper} {K : List Bool} {V : List (Value → Prop)} {D : List (List Nat)} {head : List Oper} {a0 : Act} :
    ∀ {l : List Oper} {ks : List Bool} {k : Nat}, oblI P J ops K V D head a0 l ks k → ∀ i o, l[i]? = some o → stepI P J ops K V head a0 (k + i) (D.getD (k + i) []) o (ks.getD i false)
  | [], _, _, _, i, o, h => by simp at h
  | _ :: _, [], _, h, _, _, _ => h.elim
  | p :: l, b :: ks, k, h, 0, o, ho => by
    have : p = o := by simpa using ho
    subst this
    simpa using h.1
  | p :: l, b :: ks, k, h, i + 1, o, ho => by
    have := oblI_get h.2 i o (by simpa using ho)
    rw [show k + 1 + i = k + (i + 1) by omega] at this
    simpa using this

structure IInv (J : (Nat → Option Value) → World → Prop) (ops : Array Oper) (n : Nat) (K : List Bool) (V : List (Value → Prop)) (a0 : Act) (listed : Array Bool) (a : Act) (w : World) : Prop where
  head : HeadInv .any ops n listed
  fill : ∃ xs : Nat → Value, a = fillFrom xs (ops.toList.take n) 0 a0 ∧ J (zOf K listed xs) w ∧ ∀ j, j < n → listed.getD j false = true → K.getD j false = false → getP V j (xs j)

theorem wpAny_inv {ops : Array Oper} {n : Nat} {K : List Bool} {V : List (Value → Prop)} {D : List (List Nat)} {a0 : Act} {Q : Exit → Act → World → Prop} (hK : K.length = n)
    (hB : relB ops n D = true) (hs : oblI P J ops K V D (ops.toList.take n) a0 (ops.toList.take n) K 0)
    (hQ : ∀ xs w, J (zAll K xs) w → (∀ j, j < n → K.getD j false = false → getP V j (xs j)) → wpList P ops Q (ops.toList.drop n) (fillFrom xs (ops.toList.take n) 0 a0) w) :
    ∀ (f : Nat) (listed : Array Bool) (a : Act) (w : World), left n listed = f → IInv J ops n K V a0 listed a w → wpAny P .any ops Q (f + (ops.size - n)) listed a w := by
  simp only [relB, Bool.and_eq_true, Bool.or_eq_true, decide_eq_true_eq] at hB
  obtain ⟨⟨⟨⟨⟨hn, hback⟩, hdeps⟩, hnd⟩, htail⟩, hseq⟩ := hB
  intro f
  induction f with
  | zero =>
    intro listed a w hl inv
    have hall := left_zero hl
    have hall2 : ∀ j, j < n → listed.getD j false = true := fun j hj => by
      have := hall j hj
      rwa [getD_of_size (by rw [inv.head.size]; omega) true false] at this
    have harr : listed = headArr ops.size n := by
      apply Array.ext_getElem?
      intro i
      have hsz := inv.head.size
      unfold headArr
      by_cases h1 : i < n
      · have := hall i h1
        have hi : i < listed.size := by omega
        simp only [hi, Array.getD_eq_getD_getElem?, Array.getElem?_eq_getElem, Option.getD_some] at this
        rw [Array.getElem?_append_left (by simpa using h1)]
        simp [hi, h1, this]
      · by_cases h2 : i < ops.size
        · have := inv.head.tail i (by omega) h2
          have hi : i < listed.size := by omega
          simp only [hi, Array.getD_eq_getD_getElem?, Array.getElem?_eq_getElem, Option.getD_some] at this
          rw [Array.getElem?_append_right (by simpa using h1)]
          simp only [hi, Array.getElem?_eq_getElem, this]
          rw [Array.getElem?_replicate, if_pos (by simp; omega)]
        · rw [Array.getElem?_eq_none (by omega), Array.getElem?_eq_none (by simp; omega)]
    obtain ⟨xs, ha, hj, hx⟩ := inv.fill
    have hz : zOf K listed xs = zAll K xs := by
      funext j
      unfold zOf zAll
      by_cases hjn : j < n
      · rw [hall2 j hjn, Bool.and_true]
      · have : K.getD j false = false := by
          rw [List.getD_eq_getElem?_getD, List.getElem?_eq_none (by omega)]; rfl
        rw [this, Bool.false_and]
    rw [hz] at hj
    have := hQ xs w hj (fun j hjn hkj => hx j hjn (hall2 j hjn) hkj)
    rw [← ha] at this
    rw [Nat.zero_add]
    have h2 := wpAny_of_seq (md := .any) (Q' := Q) (ops.toList.drop n) n listed a w (fun j => by simp [List.getElem?_drop]) (by rw [harr]; simpa using hseq) this
    simpa using h2
  | succ f ih =>
    intro listed a w hl inv
    rw [show f + 1 + (ops.size - n) = (f + (ops.size - n)) + 1 by omega]
    -- one of the head is yet to come
    have hex : ∃ i, i < n ∧ listed.getD i true = false := by
      have h1 : 0 < ((List.range n).filter fun i => !listed.getD i true).length := by unfold left at hl; omega
      obtain ⟨i, hi⟩ := List.exists_mem_of_length_pos h1
      simp only [List.mem_filter, List.mem_range] at hi
      exact ⟨i, hi.1, by simpa using hi.2⟩
    have hready : ∃ i, i < n ∧ i ∈ Region.ready .any ops listed := by
      obtain ⟨i, hi, hu⟩ := hex
      revert hi hu
      induction i using Nat.strongRecOn with
      | _ i ihh =>
        intro hi hu
        have hlt : i < ops.size := by omega
        by_cases hr : i ∈ Region.ready .any ops listed
        · exact ⟨i, hi, hr⟩
        · have ho : ops[i]? = some ops[i] := Array.getElem?_eq_getElem hlt
          have hb := List.all_eq_true.1 hback i (List.mem_range.2 hlt)
          rw [ho] at hb
          simp only [Option.map_some, Option.getD_some] at hb
          have : ∃ e ∈ ops[i].after, Region.binds .any e = true ∧ listed.getD e.on false = false := by
            apply Classical.byContradiction
            intro hno
            apply hr
            rw [mem_ready]
            refine ⟨hu, ops[i], ho, fun e he hbd => ?_⟩
            cases hq : listed.getD e.on false with
            | true => rfl
            | false => exact absurd ⟨e, he, hbd, hq⟩ hno
          obtain ⟨e, he, hbd, hq⟩ := this
          have hlt2 := Array.all_eq_true'.1 hb e he
          simp only [hbd, Bool.not_true, Bool.false_or, decide_eq_true_eq] at hlt2
          exact ihh e.on hlt2 (by omega) (getD_in (by rw [inv.head.size]; omega) hq)
    refine ⟨fun h0 => ?_, fun i hi => ?_⟩
    · obtain ⟨i, _, hr⟩ := hready
      rw [h0] at hr; cases hr
    · have hin : i < n := by
        rcases Nat.lt_or_ge i n with h | h
        · exact h
        · exfalso
          rcases htail with h2 | ⟨⟨hlt, hsk⟩, hch⟩
          · obtain ⟨_, o, ho, _⟩ := mem_ready.1 hi
            have := (Array.getElem?_eq_some_iff.1 ho).1
            omega
          · obtain ⟨j, hj, hu⟩ := hex
            exact tail_waits hsk hch hlt inv.head _ j rfl hj hu i h hi
      obtain ⟨hu, o, ho, hw⟩ := mem_ready.1 hi
      obtain ⟨xs, ha, hj, hx⟩ := inv.fill
      have hoi : (ops.toList.take n)[i]? = some o := by simp [hin, ho]
      have hst := oblI_get hs i o hoi
      rw [Nat.zero_add] at hst
      have hui : listed.getD i false = false := getD_both hu
      have hkn : knowsI K V (zOf K listed xs) xs (D.getD i []) := knowsI_of fun j hj => by
        have h1 := List.all_eq_true.1 hdeps i (List.mem_range.2 (by omega))
        have h2 := List.all_eq_true.1 h1 j hj
        obtain ⟨o', ho', e, he, hb, hon⟩ := Region.waitsFor_spec h2
        have : o' = o := Option.some.inj (ho'.symm.trans ho)
        subst this
        have h3 := hw e he hb
        rw [hon] at h3
        have hjn : j < n := by
          have hb1 := List.all_eq_true.1 hback i (List.mem_range.2 (by omega))
          rw [ho] at hb1
          simp only [Option.map_some, Option.getD_some] at hb1
          have h4 := Array.all_eq_true'.1 hb1 e he
          simp only [hb, Bool.not_true, Bool.false_or, decide_eq_true_eq] at h4
          omega
        cases hkj : K.getD j false with
        | true => simp only [if_true, zOf, hkj, h3, Bool.and_self]
        | false => simpa using hx j hjn h3 hkj
      have hnext : ∀ u w', J (zOf K (listed.setIfInBounds i true) (upd xs i u)) w' → (K.getD i false = false → getP V i u) → wpAny P .any ops Q (f + (ops.size - n)) (listed.setIfInBounds i true) (a.put o.dst u) w' := fun u w' h1 h2 => by
        refine ih (listed.setIfInBounds i true) (a.put o.dst u) w' ?_ ⟨inv.head.set hi hin, upd xs i u, ?_, h1, ?_⟩
        · have := left_set hin hu
          omega
        · rw [ha, fill_put xs u (ops.toList.take n) 0 i a0 o hnd hoi, Nat.zero_add]
        · intro j hjn hlj hkj
          by_cases hji : j = i
          · subst hji; simpa [upd] using h2 hkj
          · rw [getD_set_ne false (Ne.symm hji)] at hlj
            simp only [upd, hji, if_false]
            exact hx j hjn hlj hkj
      have hisz : i < listed.size := by
        obtain ⟨hi2, _⟩ := Array.getElem?_eq_some_iff.1 ho
        rw [inv.head.size]; exact hi2
      have hself : (listed.setIfInBounds i true).getD i false = true := by simp [hisz]
      cases hki : K.getD i false with
      | true =>
        rw [hki] at hst
        have hz0 : zOf K listed xs i = none := by simp only [zOf, hui, Bool.and_false, Bool.false_eq_true, if_false]
        have hzz : ∀ u, zOf K (listed.setIfInBounds i true) (upd xs i u) = zSet (zOf K listed xs) i u := fun u => by
          funext j
          by_cases hji : j = i
          · subst hji; simp only [zOf, zSet, hki, hself, Bool.and_self, if_true, upd]
          · simp only [zOf, zSet, hji, if_false, upd, getD_set_ne false (Ne.symm hji)]
        have hstep := hst xs _ w hj hz0 hkn (fun u w' => J (zSet (zOf K listed xs) i u) w') (fun u w' h => h)
        rw [← ha] at hstep
        have hres := wp_of_rel (P := P) (ops := ops) (Q := Q) (K := wpAny P .any ops Q (f + (ops.size - n)) (listed.setIfInBounds i true)) (fun u w' h => hnext u w' (by rw [hzz]; exact h) (fun h => by rw [hki] at h; cases h)) hstep
        unfold wpOp
        simp only [ho]
        exact hres
      | false =>
        rw [hki] at hst
        have hzz : ∀ u, zOf K (listed.setIfInBounds i true) (upd xs i u) = zOf K listed xs := fun u => by
          funext j
          by_cases hji : j = i
          · subst hji; simp only [zOf, hki, Bool.false_and, Bool.false_eq_true, if_false]
          · simp only [zOf, hji, if_false, upd, getD_set_ne false (Ne.symm hji)]
        have hstep := hst xs _ w hj hkn (fun u w' => J (zOf K listed xs) w' ∧ getP V i u) (fun u w' h h2 => ⟨h, h2⟩)
        rw [← ha] at hstep
        have hres := wp_of_rel (P := P) (ops := ops) (Q := Q) (K := wpAny P .any ops Q (f + (ops.size - n)) (listed.setIfInBounds i true)) (fun u w' h => hnext u w' (by rw [hzz]; exact h.1) (fun _ => h.2)) hstep
        unfold wpOp
        simp only [ho]
        exact hres

/-- Of each operation that is not marked: a value ('none': the one of the list), or what is known of it. -/
def mixP : List Value → List (Option (Value → Prop)) → List (Value → Prop)
  | c :: cs, none :: l => (fun u => u = c) :: mixP cs l
  | _ :: cs, some V :: l => V :: mixP cs l
  | _, _ => []
def heldI : List Bool → List Value → List (Option (Value → Prop)) → Nat → (Nat → Value) → Prop
  | true :: ks, _ :: cs, _ :: l, k, xs => heldI ks cs l (k + 1) xs
  | false :: ks, c :: cs, none :: l, k, xs => xs k = c ∧ heldI ks cs l (k + 1) xs
  | false :: ks, _ :: cs, some V :: l, k, xs => V (xs k) ∧ heldI ks cs l (k + 1) xs
  | _, _, _, _, _ => True
theorem heldI_of (xs : Nat → Value) : ∀ (ks : List Bool) (cs : List Value) (l : List (Option (Value → Prop))) (k : Nat), (∀ j, j < ks.length → ks.getD j false = false → getP (mixP cs l) j (xs (k + j))) → heldI ks cs l k xs := by
  intro ks
  induction ks with
  | nil => intro cs l k _; simp [heldI]
  | cons b ks ih =>
    intro cs l k h
    cases cs with
    | nil => cases b <;> simp [heldI]
    | cons c cs =>
      cases l with
      | nil => cases b <;> simp [heldI]
      | cons o l =>
        have hr : heldI ks cs l (k + 1) xs := ih cs l (k + 1) fun j hj hk => by
          have := h (j + 1) (by simp; omega) (by simpa using hk)
          rw [show k + (j + 1) = k + 1 + j by omega] at this
          cases o <;> simpa [getP, mixP] using this
        cases b with
        | true => simpa [heldI] using hr
        | false =>
          have h0 := h 0 (by simp) (by simp)
          cases o with
          | none => exact ⟨by simpa [getP, mixP] using h0, hr⟩
          | some V => exact ⟨by simpa [getP, mixP] using h0, hr⟩

/-- A region that draws its order: its head by each operation alone, its tail in the text's order. -/
theorem wp_region_inv {id : Nat} {Q : Exit → Act → World → Prop} {a : Act} {w : World} {l : List Oper} (n : Nat) (J : (Nat → Option Value) → World → Prop) (K : List Bool) (cs : List Value) (W : List (Option (Value → Prop))) (D : List (List Nat))
    (hm : P.follows .mixedOrders = true) (hB : relB l.toArray n D = true) (hK : K.length = n) (hJ : J (fun _ => none) { w with drawn := w.drawn + 1 })
    (hs : oblI P J l.toArray K (mixP cs W) D (l.take n) a (l.take n) K 0)
    (hQ : ∀ xs w', J (zAll K xs) w' → heldI K cs W 0 xs → wpList P l.toArray Q (l.drop n) (fillFrom xs (l.take n) 0 a) w') :
    (Code.region id l.toArray true).wp P Q a w := by
  refine wp_region_any hm ?_
  have hn : n ≤ l.toArray.size := by
    simp only [relB, Bool.and_eq_true, decide_eq_true_eq] at hB
    exact hB.1.1.1.1.1
  obtain ⟨xs0, h0⟩ := fill_self (l.take n) 0 a
  have hl : left n (Array.replicate l.toArray.size false) = n := by
    unfold left
    rw [List.filter_eq_self.2]
    · simp
    · intro i hi
      have : i < l.toArray.size := by have := List.mem_range.1 hi; omega
      simp at this
      simp [this]
  have hz0 : zOf K (Array.replicate l.toArray.size false) xs0 = fun _ => none := by
    funext j
    unfold zOf
    rw [getD_replicate_false, Bool.and_false]
    rfl
  have H := wpAny_inv (P := P) (J := J) (Q := Q) (a0 := a) hK hB (by simpa using hs) (by
      intro xs w' h1 h2
      have := hQ xs w' h1 (heldI_of xs K cs W 0 fun j hj hk => by rw [Nat.zero_add]; exact h2 j (by omega) hk)
      simpa using this) n (Array.replicate l.toArray.size false) a { w with drawn := w.drawn + 1 } hl
    ⟨⟨by simp, fun j oj _ hl => (by rw [getD_replicate_false] at hl; cases hl), fun t _ ht => getD_in (by simpa using ht) (getD_replicate_false _ _)⟩,
      xs0, by simpa using (h0 xs0 (fun _ _ => rfl)).symm, by rw [hz0]; exact hJ, fun j _ hl => (by rw [getD_replicate_false] at hl; cases hl)⟩
  rw [show n + (l.toArray.size - n) = l.toArray.size by omega] at H
  exact H
end

end Go.Proofs.YtfimfbdlegookaaGreatDoor

/-! store: Open, place, read. Conditions: as each theorem states. -/
namespace Go.Proofs.YtfimfbdlegookaaGreatDoor
open Go Go.RowKit
set_option linter.unusedVariables false
set_option linter.unusedSimpArgs false
set_option linter.unusedSectionVars false

/-- What a caller wants kept besides: blocks and what they hold. -/
structure KeptW where
  blk : Nat → Option Obj
def keptW [KW : Inhabited KeptW] : Nat → Option Obj := (default : KeptW).blk
variable [KW : Inhabited KeptW]
/-- A store over a file system, both of the call's own. -/
structure St (w0 : World) (S O : Nat → Prop) (w : World) (f : Value) (gs gc : Nat) (m : Fs) (n : Int) : Prop where
  one : One w0 S O w f m
  row : w.heap[gs]? = some (.cells #[f, .pointer (some ⟨gc, 0, none⟩)] 150 (0, 0))
  cnt : w.heap[gc]? = some (.cells #[.int .i64 n] 189 (0, 0))
  lo : w0.heap.size ≤ gs ∧ w0.heap.size ≤ gc ∧ gs ≠ gc
  out : ¬ O gs ∧ ¬ O gc ∧ ¬ S gs ∧ ¬ S gc
  kp : ∀ k o, keptW k = some o → w.heap[k]? = some o ∧ ¬ O k ∧ k ≠ gs ∧ k ≠ gc
section
variable {w0 w w' : World} {S O : Nat → Prop} {f : Value} {gs gc : Nat} {m m' : Fs} {n : Int}
theorem St.more (h : St w0 S O w f gs gc m n) (hx : Ext w w') : St w0 S O w' f gs gc m n := ⟨h.one.more hx, Ext.row hx h.row, Ext.row hx h.cnt, h.lo, h.out, fun k o hk => ⟨Ext.row hx (h.kp k o hk).1, (h.kp k o hk).2⟩⟩
theorem St.lt (h : St w0 S O w f gs gc m n) : gs < w.heap.size ∧ gc < w.heap.size := ⟨(Array.getElem?_eq_some_iff.1 h.row).1, (Array.getElem?_eq_some_iff.1 h.cnt).1⟩
theorem St.post (h : St w0 S O w f gs gc m n) (hp : FsPost S O (fun k => k < w.heap.size) w f m' w') : St w0 S (Nw O w w') w' f gs gc m' n := by
  have hl := h.lt
  refine ⟨h.one.post hp, hp.fr.row h.row h.out.1, hp.fr.row h.cnt h.out.2.1, h.lo, ⟨fun ho => ?_, fun ho => ?_, h.out.2.2⟩, fun k o hk => ?_⟩
  · rcases ho with ho | ho
    · exact h.out.1 ho
    · omega
  · rcases ho with ho | ho
    · exact h.out.2.1 ho
    · omega
  · obtain ⟨k1, k2, k3⟩ := h.kp k o hk
    have hlt := (Array.getElem?_eq_some_iff.1 k1).1
    refine ⟨hp.fr.row k1 k2, fun ho => ?_, k3⟩
    rcases ho with ho | ho
    · exact k2 ho
    · omega
end
theorem placeO_any (l : B8) (w : World) (hl : l.length ≤ 1000000) : Calls Tryz.prog 118 #[S8 l] w fun e w' => e = .returned (S8 (placeO l)) ∧ w' = w := by
  go_enter Tryz.func118, Tryz.ntmps118
  go_wp2
  go_ret
  exact ⟨rfl, rfl⟩
theorem alloc_size (w : World) (o : Obj) : (w.alloc o).heap.size = w.heap.size + 1 := Array.size_push ..
variable [Inhabited BaseW]
theorem St.count {w0 w w' : World} {S O : Nat → Prop} {f : Value} {gs gc : Nat} {m : Fs} {n k : Int} (h : St w0 S O w f gs gc m n) (hg : w'.heap[gc]? = some (.cells #[.int .i64 k] 189 (0, 0))) (hw : w.grownBy w' (some gc)) : St w0 S O w' f gs gc m k :=
  ⟨h.one.grown hw h.lo.2.1 h.out.2.1 h.out.2.2.2 (cells_u8 h.cnt (by kernel_rfl)), but_row hw h.row h.lo.2.2, hg, h.lo, h.out, fun k o hk => ⟨but_row hw (h.kp k o hk).1 (h.kp k o hk).2.2.2, (h.kp k o hk).2⟩⟩
set_option maxRecDepth 100000 in
theorem open_any {w0 w : World} {S O : Nat → Prop} {f : Value} {m : Fs} (h : One w0 S O w f m) (hkp : ∀ k, keptW k = none) :
    Calls Tryz.prog 40 #[f] w fun e w' => ∃ gs gc, e = .returned (.pointer (some ⟨gs, 0, none⟩)) ∧ St w0 S O w' f gs gc m 0 ∧ w'.heap.size = gs + 1 := by
  have H : Hid (One w0 S O w f m) := h
  obtain ⟨g, rfl⟩ : ∃ g, f = .pointer (some ⟨g, 0, none⟩) := by
    obtain ⟨g, gm, gd, vp, vl, vu, L, c0, hpe, -⟩ := h.fs
    exact ⟨g, hpe⟩
  clear h
  go_enter Tryz.func40, Tryz.ntmps40
  go_wp2_with fail
  go_at_call 113
  refine (newCounter_any w).mono ?_
  rintro e w1 ⟨rfl, hg1, hx1⟩
  have HG1 : Hid _ := hg1
  have HX1 : Hid (Ext w w1) := hx1
  clear hg1 hx1
  go_wp2
  go_ret
  have h1 := One.more H.out HX1.out
  have hx2 : Ext w1 (w1.alloc (.cells #[.pointer (some ⟨g, 0, none⟩), .pointer (some ⟨w.heap.size, 0, none⟩)] 150)) := (Ext.refl _).alloc _
  have hs := HX1.out.size
  have hlt := (Array.getElem?_eq_some_iff.1 HG1.out).1
  have hs0 := H.out.ext.size
  refine ⟨w1.heap.size, w.heap.size, rfl, ⟨h1.more hx2, alloc_at _ _, Ext.row hx2 HG1.out, ⟨by omega, hs0, by omega⟩, ⟨fun ho => ?_, fun ho => ?_, fun ho => ?_, fun ho => ?_⟩, fun k o hk => by rw [hkp] at hk; cases hk⟩, alloc_size _ _⟩
  · have := (H.out.lo _ ho).2; omega
  · have := (H.out.lo _ ho).2; omega
  · have := (H.out.loS _ ho).2; omega
  · have := (H.out.loS _ ho).2; omega

/-- A block of the call's own, apart from the store, is written. -/
theorem St.but {w0 w w' : World} {S O : Nat → Prop} {f : Value} {gs gc b : Nat} {m : Fs} {n : Int} (h : St w0 S O w f gs gc m n) (hw : w.grownBy w' (some b)) (hb : w0.heap.size ≤ b) (hO : ¬ O b) (hS : ¬ S b) (hu : ¬ IsU8 w b) (h1 : gs ≠ b) (h2 : gc ≠ b) (h3 : keptW b = none) : St w0 S O w' f gs gc m n :=
  ⟨h.one.grown hw hb hO hS hu, but_row hw h.row h1, but_row hw h.cnt h2, h.lo, h.out, fun k o hk => ⟨but_row hw (h.kp k o hk).1 (fun e => by rw [e, h3] at hk; cases hk), (h.kp k o hk).2⟩⟩
/-- read's second region: what the call (6), its parts (7, 8) and the new variable (10) have handed back. -/
structure RdJ (w0 w1 : World) (S O : Nat → Prop) (f : Value) (gs gc : Nat) (m m1 : Fs) (n : Int) (fx : Fi) (er : Int) (z6 z7 z8 z10 z11 : Option Value) (w : World) : Prop where
  base : St w0 S O w1 f gs gc m n
  pre : z6 = none → Ext w1 w
  post : ∀ u, z6 = some u → ∃ v O' R, u = .tuple #[fiV fx v, .int .i64 er] ∧ IsData R w v fx.data ∧ St w0 S O' w f gs gc m1 n ∧ KeepB w1 w ∧ ∀ b, w1.heap.size ≤ b → z10 = some (.pointer (some ⟨b, 0, none⟩)) → ¬ O' b
  n7 : z7 ≠ none → z7 = z6
  n8 : ∀ u, z8 = some u → ∃ q, z6 = some (.tuple #[u, q])
  bl : ∀ u, z10 = some u → ∃ b cs, u = .pointer (some ⟨b, 0, none⟩) ∧ w.heap[b]? = some (.cells cs 76 (0, 0)) ∧ cs.size = 3 ∧ w1.heap.size ≤ b
  fl : z11 ≠ none → ∃ v b, z8 = some (fiV fx v) ∧ z10 = some (.pointer (some ⟨b, 0, none⟩)) ∧ w.heap[b]? = some (.cells #[.int .i64 fx.mode, v, .int .i64 fx.time] 76 (0, 0))
section
variable {w0 w1 w w' : World} {S O : Nat → Prop} {f : Value} {gs gc : Nat} {m m1 : Fs} {n er : Int} {fx : Fi} {z6 z7 z8 z10 z11 : Option Value}
theorem RdJ.start (h : St w0 S O w1 f gs gc m n) (hx : Ext w1 w) : RdJ w0 w1 S O f gs gc m m1 n fx er none none none none none w :=
  ⟨h, fun _ => hx, fun u hu => (by cases hu), fun h => absurd rfl h, fun u hu => (by cases hu), fun u hu => (by cases hu), fun h => absurd rfl h⟩
theorem RdJ.st (h : RdJ w0 w1 S O f gs gc m m1 n fx er none z7 z8 z10 z11 w) : St w0 S O w f gs gc m n := h.base.more (h.pre rfl)
theorem RdJ.cell (h : RdJ w0 w1 S O f gs gc m m1 n fx er z6 z7 z8 z10 z11 w) : w.cell? ⟨gs, 0, none⟩ = some f := by
  cases hz : z6 with
  | none => rw [hz] at h; exact (cell_of_row _ _ 0 _ _ _ h.st.row).trans rfl
  | some u =>
    obtain ⟨v, O', R, -, -, hs, -⟩ := h.post u hz
    exact (cell_of_row _ _ 0 _ _ _ hs.row).trans rfl
theorem RdJ.low (h : RdJ w0 w1 S O f gs gc m m1 n fx er z6 z7 z8 z10 z11 w) (k : Nat) (hk : w1.heap.size ≤ k) : ¬ O k ∧ ¬ S k ∧ gs ≠ k ∧ gc ≠ k ∧ w0.heap.size ≤ k ∧ keptW k = none := by
  have h1 := h.base.lt
  have h2 := h.base.one.ext.size
  exact ⟨fun ho => by have := (h.base.one.lo _ ho).2; omega, fun ho => by have := (h.base.one.loS _ ho).2; omega, by omega, by omega, by omega, by
    cases hq : keptW k with
    | none => rfl
    | some o => have := (Array.getElem?_eq_some_iff.1 (h.base.kp k o hq).1).1; omega⟩
theorem RdJ.set10 (h : RdJ w0 w1 S O f gs gc m m1 n fx er z6 z7 z8 none z11 w) (cs : Array Value) (hc : cs.size = 3) : RdJ w0 w1 S O f gs gc m m1 n fx er z6 z7 z8 (some (.pointer (some ⟨w.heap.size, 0, none⟩))) z11 (w.alloc (.cells cs 76)) := by
  have hx : Ext w (w.alloc (.cells cs 76)) := (Ext.refl w).alloc _
  have hsz : w1.heap.size ≤ w.heap.size := by
    cases hz : z6 with
    | none => exact (h.pre hz).size
    | some u =>
      exact (h.post u hz).choose_spec.choose_spec.choose_spec.2.2.2.1.1
  refine ⟨h.base, fun hz => (h.pre hz).trans hx, fun u hu => ?_, h.n7, h.n8, fun u hu => ?_, fun h11 => (by obtain ⟨v, b, -, h10, -⟩ := h.fl h11; cases h10)⟩
  · obtain ⟨v, O', R, e, hd, hs, hz1, -⟩ := h.post u hu
    have hz2 := hx.size
    refine ⟨v, O', R, e, hd.ext hx, hs.more hx, hz1.trans (KeepB.of_ext hx), fun b hb he ho => ?_⟩
    cases he
    have := (hs.one.lo _ ho).2
    omega
  · cases hu
    exact ⟨_, cs, rfl, alloc_at _ _, hc, hsz⟩
theorem RdJ.set6 {v : Value} (h : RdJ w0 w1 S O f gs gc m m1 n fx er none z7 z8 z10 z11 w) (hp : FsPost S O (fun k => k < w.heap.size) w f m1 w') (hd : IsData (Nu w w') w' v fx.data) :
    RdJ w0 w1 S O f gs gc m m1 n fx er (some (.tuple #[fiV fx v, .int .i64 er])) z7 z8 z10 z11 w' := by
  have h7 : z7 = none := by
    cases hz : z7 with
    | none => rfl
    | some u => have := h.n7 (by rw [hz]; simp); rw [hz] at this; cases this
  have h8 : z8 = none := by
    cases hz : z8 with
    | none => rfl
    | some u => obtain ⟨q, hq⟩ := h.n8 u hz; cases hq
  subst h7; subst h8
  refine ⟨h.base, fun hz => (by cases hz), fun u hu => ?_, fun hz => absurd rfl hz, fun u hu => (by cases hu), fun u hu => ?_, fun h11 => (by obtain ⟨v, b, h8, -⟩ := h.fl h11; cases h8)⟩
  · cases hu
    refine ⟨v, _, _, rfl, hd, h.st.post hp, (KeepB.of_ext (h.pre rfl)).trans hp.fr.keep, fun b hb he ho => ?_⟩
    obtain ⟨b', cs, e, hrow, -, -⟩ := h.bl _ he
    cases e
    have hlt := (Array.getElem?_eq_some_iff.1 hrow).1
    rcases ho with ho | ho
    · exact (h.low _ hb).1 ho
    · omega
  · obtain ⟨b, cs, e, hrow, hc, hb⟩ := h.bl u hu
    exact ⟨b, cs, e, hp.fr.row hrow (h.low _ hb).1, hc, hb⟩
theorem RdJ.set7 {u : Value} (h : RdJ w0 w1 S O f gs gc m m1 n fx er z6 z7 z8 z10 z11 w) (hk : z6 = some u) : RdJ w0 w1 S O f gs gc m m1 n fx er z6 (some u) z8 z10 z11 w :=
  ⟨h.base, h.pre, h.post, fun _ => hk.symm, h.n8, h.bl, h.fl⟩
theorem RdJ.seven {u : Value} (h : RdJ w0 w1 S O f gs gc m m1 n fx er z6 z7 z8 z10 z11 w) (hk : z7 = some u) : ∃ v, u = .tuple #[fiV fx v, .int .i64 er] := by
  have h6 := h.n7 (by rw [hk]; simp)
  obtain ⟨v, O', R, e, -⟩ := h.post u (h6.symm.trans hk)
  exact ⟨v, e⟩
theorem RdJ.set8 {u q : Value} (h : RdJ w0 w1 S O f gs gc m m1 n fx er z6 z7 none z10 z11 w) (hk : z7 = some (.tuple #[u, q])) : RdJ w0 w1 S O f gs gc m m1 n fx er z6 z7 (some u) z10 z11 w :=
  ⟨h.base, h.pre, h.post, h.n7, fun x hx => (by cases hx; exact ⟨q, (h.n7 (by rw [hk]; simp)).symm.trans hk⟩), h.bl, fun h11 => (by obtain ⟨v, b, h8, -⟩ := h.fl h11; cases h8)⟩
theorem RdJ.mid {u8 u10 : Value} (h : RdJ w0 w1 S O f gs gc m m1 n fx er z6 z7 z8 z10 z11 w) (h8 : z8 = some u8) (h10 : z10 = some u10) : ∃ v b cs, u8 = fiV fx v ∧ u10 = .pointer (some ⟨b, 0, none⟩) ∧ w.heap[b]? = some (.cells cs 76 (0, 0)) ∧ cs.size = 3 ∧ v.oneCell' = true := by
  obtain ⟨q, hq⟩ := h.n8 _ h8
  obtain ⟨v, O', R, e, hd, -⟩ := h.post _ hq
  obtain ⟨b, cs, e10, hrow, hc, hb⟩ := h.bl _ h10
  simp only [Value.tuple.injEq, Array.mk.injEq, List.cons.injEq, and_true] at e
  obtain ⟨s1, t1, rfl, -⟩ := hd.bytes
  exact ⟨_, b, cs, e.1, e10, hrow, hc, rfl⟩
theorem RdJ.set11 {v x : Value} {b : Nat} {cs : Array Value} (h : RdJ w0 w1 S O f gs gc m m1 n fx er z6 z7 z8 z10 none w) (h8 : z8 = some (fiV fx v)) (h10 : z10 = some (.pointer (some ⟨b, 0, none⟩))) (hrow : w.heap[b]? = some (.cells cs 76 (0, 0)))
    (hg : w'.heap[b]? = some (.cells #[.int .i64 fx.mode, v, .int .i64 fx.time] 76 (0, 0))) (hw : w.grownBy w' (some b)) : RdJ w0 w1 S O f gs gc m m1 n fx er z6 z7 z8 z10 (some x) w' := by
  have hu : ¬ IsU8 w b := cells_u8 hrow (by kernel_rfl)
  have hs := hw.size
  obtain ⟨b', cs', e10, -, -, hb⟩ := h.bl _ h10
  cases e10
  have hl := h.low b hb
  refine ⟨h.base, fun hz => ?_, fun u hu6 => ?_, h.n7, h.n8, fun u hu10 => ?_, fun _ => ⟨v, b, h8, h10, hg⟩⟩
  · obtain ⟨q, hq⟩ := h.n8 _ h8
    rw [hz] at hq
    cases hq
  · obtain ⟨v', O', R, e, hd, hst, hz1, ho⟩ := h.post u hu6
    refine ⟨v', O', R, e, hd.keepR (grown_keepR hw hu), hst.but hw hl.2.2.2.2.1 (ho b hb h10) hl.2.1 hu hl.2.2.1 hl.2.2.2.1 hl.2.2.2.2.2, hz1.trans (KeepB.of_grown hw hrow (by kernel_rfl)), ho⟩
  · rw [h10] at hu10
    cases hu10
    exact ⟨b, _, rfl, hg, rfl, hb⟩
theorem RdJ.fin {u6 u7 u8 u10 u11 : Value} (h : RdJ w0 w1 S O f gs gc m m1 n fx er (some u6) (some u7) (some u8) (some u10) (some u11) w) : ∃ v O' b, u10 = .pointer (some ⟨b, 0, none⟩) ∧ KeepB w1 w ∧ IsBytes w v fx.data ∧ St w0 S O' w f gs gc m1 n ∧ w.heap[b]? = some (.cells #[.int .i64 fx.mode, v, .int .i64 fx.time] 76 (0, 0)) := by
  obtain ⟨v', O', R, e, hd, hs, hk, -⟩ := h.post _ rfl
  obtain ⟨q, hq⟩ := h.n8 _ rfl
  obtain ⟨v, b, h8, h10, hrow⟩ := h.fl (by simp)
  cases h8
  cases h10
  cases hq
  simp only [Value.tuple.injEq, Array.mk.injEq, List.cons.injEq, and_true, fiV, Value.agg.injEq, true_and] at e
  obtain ⟨rfl, -⟩ := e
  exact ⟨_, O', b, rfl, hk, hd.bytes, hs, hrow⟩
end
theorem size_file : (Tryz.prog.info? 76).map (·.size) = some 3 := by kernel_rfl
theorem rel_store_all {c : Prop} [Decidable c] {ev : Operand → Value} {R : Value → World → Prop} {o : Oper} {w : World} (ty : TypeId) (x y : Operand) {g : Nat} {vs : Array Value} {t : TypeId} {cur : Array Value} (hc : c) (ho : o.op = .store ty x y) (hx : ev x = .pointer (some ⟨g, 0, none⟩)) (hy : ev y = .agg vs)
    (h1 : ∀ v ∈ vs.toList, v.oneCell' = true) (hg : w.heap[g]? = some (.cells cur t (0, 0))) (hj : cur.size = vs.size) (hi : (Tryz.prog.info? ty).map (·.size) = some vs.size) (h : ∀ w', w'.heap[g]? = some (.cells vs t (0, 0)) → w.grownBy w' (some g) → R undef w') :
    if c then relUpon Tryz.prog R ((execOp ev o).run Tryz.prog w) else R undef w := by
  rw [if_pos hc]
  have hs := run_storeCells_at (P := Tryz.prog) g 0 t vs.toList 0 cur w hg (by simp [hj]) h1
  have hr : (storeVar ty ⟨g, 0, none⟩ (.agg vs)).run Tryz.prog w = .ok () (w.setRow g vs) := by
    cases hq : Tryz.prog.info? ty with
    | none => simp [hq] at hi
    | some i =>
      have hs1 : i.size = vs.size := by simpa [hq] using hi
      have hdr : cur.toList.drop vs.size = [] := List.drop_eq_nil_of_le (by simp [hj])
      simp only [Nat.add_zero, Array.length_toList, List.take_zero, List.nil_append, Nat.zero_add, hdr, List.append_nil, Array.toArray_toList] at hs
      simp [storeVar, sizeOf, typeInfo, hq, Value.cells, hs1, hs]
  unfold execOp
  simp only [ho, hx, hy, Instr.storeAt, Instr.sureAddr, Sem.run_bind, Sem.run_pure, Result.andThen_ok, hr]
  exact h _ (setRow_heap _ _ _ _ _ _ hg) (setRow_grown _ _ _)
set_option maxRecDepth 100000 in
set_option maxHeartbeats 2000000 in
theorem readO_any {w0 w : World} {S O : Nat → Prop} {f : Value} {gs gc : Nat} {m : Fs} {n : Int} {k : Nat} (id : B8) (h : St w0 S O w f gs gc m n) (hE : Env w0) (hg : Good k m) (hk : k ≤ 990) (hn0 : 0 ≤ n) (hn1 : n ≤ 100000) (hid : id.length ≤ 100) :
    Calls Tryz.prog 116 #[.pointer (some ⟨gs, 0, none⟩), S8 id] w fun e w' => ∃ (v : Value) (O' : Nat → Prop), e = .returned (.tuple #[v, .int .i64 (readM m (placeO id)).2.2]) ∧ IsBytes w' v (readM m (placeO id)).2.1.data ∧ KeepB w w' ∧ St w0 S O' w' f gs gc (readM m (placeO id)).1 (n + 1) := by
  have H : Hid (St w0 S O w f gs gc m n) := h
  have HE : Hid (Env w0) := hE
  have HG : Hid (Good k m) := hg
  have hpl : (placeO id).length ≤ 400 := by unfold placeO; simp; omega
  have HPL : Hid _ := hpl
  obtain ⟨g, rfl⟩ : ∃ g, f = .pointer (some ⟨g, 0, none⟩) := by
    obtain ⟨g, gm, gd, vp, vl, vu, L, c0, hpe, -⟩ := h.one.fs
    exact ⟨g, hpe⟩
  have c1 : w.cell? ⟨gs, 1, none⟩ = some (.pointer (some ⟨gc, 0, none⟩)) := (cell_of_row _ _ 1 _ _ _ h.row).trans rfl
  obtain ⟨⟨m1, fx, er⟩, hr⟩ : ∃ q, readM m (placeO id) = q := ⟨_, rfl⟩
  have HR : Hid _ := hr
  rw [hr]
  clear h hE hg hpl hr
  go_enter Tryz.func116, Tryz.ntmps116
  go_wp2_with fail
  go_at_call 168
  refine (counterAdd_any H.out.cnt hn0 (by omega)).mono ?_
  rintro e w1 ⟨rfl, hc1, hw1⟩
  have H1 : Hid (St w0 S O w1 (.pointer (some ⟨g, 0, none⟩)) gs gc m (n + 1)) := St.count H.out hc1 hw1
  have d0 : w1.cell? ⟨gs, 0, none⟩ = some (.pointer (some ⟨g, 0, none⟩)) := (cell_of_row _ _ 0 _ _ _ H1.out.row).trans rfl
  have HK1 : Hid (KeepB w w1) := KeepB.of_grown hw1 H.out.cnt (by kernel_rfl)
  clear hc1 hw1 c1
  go_upto_region 2 with fail
  have hrd : ∀ w2, St w0 S O w2 (.pointer (some ⟨g, 0, none⟩)) gs gc m (n + 1) → Calls Tryz.prog 68 #[.pointer (some ⟨g, 0, none⟩), S8 (placeO id)] w2 fun e w' => (∃ v, e = .returned (.tuple #[fiV fx v, .int .i64 er]) ∧ IsData (Nu w2 w') w' v fx.data) ∧ FsPost S O (fun k => k < w2.heap.size) w2 (.pointer (some ⟨g, 0, none⟩)) m1 w' := fun w2 h2 => by
    have hq := read_any (placeO id) (One.fin h2.one HE.out HG.out (by omega)) HPL.out
    rw [HR.out] at hq
    exact hq
  have HRD : Hid _ := hrd
  clear hrd d0
  apply wp_region_inv 12 (fun z w' => RdJ w0 w1 S O (.pointer (some ⟨g, 0, none⟩)) gs gc m m1 (n + 1) fx er (z 6) (z 7) (z 8) (z 10) (z 11) w') [false, false, false, false, false, false, true, true, true, false, true, true] [_, _, _, .pointer (some ⟨g, 0, none⟩), _, S8 (placeO id), undef, undef, undef, .int .i64 er, undef, undef] [none, none, none, none, none, none, none, none, none, none, none, none] [[], [0], [1], [2], [], [4], [3, 5], [6], [7], [7], [], [8, 10]] (by kernel_rfl) (by kernel_rfl) rfl
  · exact RdJ.start H1.out ⟨rfl, rfl, rfl, Nat.le_refl _, fun _ _ => rfl⟩
  · simp (maxSteps := 1000000) only [oblI, stepI, knowsI, getP, mixP, List.getD_cons_zero, List.getD_cons_succ, Bool.false_eq_true, if_false, if_true, and_true, true_and, forall_const, Nat.zero_add, Nat.reduceAdd, List.take_succ_cons, List.take_zero, fillFrom, Act.put, List.setIfInBounds_toArray, List.set_cons_zero, List.set_cons_succ]
    refine ⟨?_, ?_, ?_, ?_, ?_, ?_, ?_, ?_, ?_, ?_, ?_, ?_⟩
    · intro xs z wq hj R hR
      have f0 := hj.cell
      go_simp
      exact hR _ _ hj rfl
    · intro xs z wq hj hk R hR
      have f0 := hj.cell
      go_simp
      exact hR _ _ hj rfl
    · intro xs z wq hj hk R hR
      have f0 := hj.cell
      go_simp
      exact hR _ _ hj rfl
    · intro xs z wq hj hk R hR
      have f0 := hj.cell
      go_simp
      exact hR _ _ hj rfl
    · intro xs z wq hj R hR
      have f0 := hj.cell
      go_simp
      exact hR _ _ hj rfl
    · intro xs z wq hj hk R hR
      go_simp
      exact (placeO_any id _ (by omega)).mono (by rintro e' w4 ⟨rfl, rfl⟩; exact ⟨_, rfl, hR _ _ hj rfl⟩)
    · intro xs z wq hj hz hk R hR
      obtain ⟨hk0, hk1⟩ := hk
      rw [hz] at hj
      go_simp
      exact (HRD.out _ hj.st).mono (by rintro e' w4 ⟨⟨v, rfl, hd⟩, hp⟩; exact ⟨_, rfl, hR _ _ (RdJ.set6 hj hp hd)⟩)
    · intro xs z wq hj hz hk R hR
      go_simp
      exact hR _ _ (RdJ.set7 hj hk)
    · intro xs z wq hj hz hk R hR
      rw [hz] at hj
      obtain ⟨v, hv⟩ := RdJ.seven hj hk
      rw [hv] at hk ⊢
      go_simp
      exact hR _ _ (RdJ.set8 hj hk)
    · intro xs z wq hj hk R hR
      obtain ⟨v, hv⟩ := RdJ.seven hj hk
      rw [hv]
      go_simp
      exact hR _ _ hj rfl
    · intro xs z wq hj hz R hR
      rw [hz] at hj
      go_simp
      exact hR _ _ (RdJ.set10 hj _ rfl)
    · intro xs z wq hj hz hk R hR
      obtain ⟨hk0, hk1⟩ := hk
      rw [hz] at hj
      obtain ⟨v, b, cs, e8, e10, hrow, hcs, h1v⟩ := RdJ.mid hj hk0 hk1
      rw [e8] at hk0
      rw [e10] at hk1
      apply rel_store_all 76 (.tmp 6) (.tmp 21) (g := b) (vs := #[.int .i64 fx.mode, v, .int .i64 fx.time]) (t := 76) (cur := cs)
      · rfl
      · rfl
      · exact e10
      · exact e8
      · intro u hu; simp at hu; rcases hu with rfl | rfl | rfl <;> first | exact h1v | rfl
      · exact hrow
      · exact hcs
      · exact size_file
      · intro w' hg hgr; exact hR _ _ (RdJ.set11 hj hk0 hk1 hrow hg hgr)
  intro xs w2 hj2 hk
  simp only [zAll, List.getD_cons_zero, List.getD_cons_succ, Bool.false_eq_true, if_false, if_true] at hj2
  simp only [heldI, Nat.zero_add, Nat.reduceAdd, and_true] at hk
  obtain ⟨q0, q1, q2, q3, q4, q5, q9⟩ := hk
  simp (maxSteps := 1000000) only [List.drop_succ_cons, List.drop_zero, Nat.zero_add, Nat.reduceAdd, List.take_succ_cons, List.take_zero, fillFrom, Act.put, List.setIfInBounds_toArray, List.set_cons_zero, List.set_cons_succ, q0, q1, q2, q3, q4, q5, q9]
  clear q0 q1 q2 q3 q4 q5 q9
  generalize xs 6 = x6 at *
  generalize xs 7 = x7 at *
  generalize xs 8 = x8 at *
  generalize xs 10 = x10 at *
  generalize xs 11 = x11 at *
  obtain ⟨v, O', b, e10, hk2, hd2, hs2, hrow2⟩ := RdJ.fin hj2
  have HK2 : Hid _ := HK1.out.trans hk2
  have HS2 : Hid _ := hs2
  have HD2 : Hid _ := hd2
  obtain ⟨c0, c1, c2⟩ := cellsAt3 hrow2
  clear hk2 hd2 hs2 hrow2
  subst e10
  go_wp2
  go_ret2
  exact ⟨_, _, rfl, HD2.out, HK2.out, HS2.out⟩

end Go.Proofs.YtfimfbdlegookaaGreatDoor

/-! marref5: without, with: lists of files in new blocks. Conditions: at most 1000000 files; short paths. -/
namespace Go.Proofs.YtfimfbdlegookaaGreatDoor
open Go Go.RowKit

/-- Rows in a new block. -/
def OwnRows (base : Nat) (R : Nat → Prop) (w : World) (v : Value) (l : Files) : Prop := ∃ css : List (List Value), w.ownsRow base 182 4 v l.length css.flatten ∧ Each (IsRowR R w) css l
theorem OwnRows.rows {base : Nat} {R : Nat → Prop} {w : World} {v : Value} {l : Files} (h : OwnRows base R w v l) (hl : l.length ≤ 10000000) : IsRows R w v l := by
  obtain ⟨css, h1, h2⟩ := h
  exact ⟨css, Row.of_owns h1 (by omega), Typed.of_owns h1, h2⟩
theorem OwnRows.lt {base : Nat} {R : Nat → Prop} {w : World} {v : Value} {l : Files} (h : OwnRows base R w v l) {k : Nat} (hk : v.ownBlock = some k) : base ≤ k ∧ k < w.heap.size := by
  obtain ⟨css, h1, h2⟩ := h
  exact h1.lt k hk
theorem Each.len {α : Type} {p : List Value → α → Prop} {css : List (List Value)} {xs : List α} (h : Each p css xs) {n : Nat} (hp : ∀ c x, p c x → c.length = n) : ∀ c ∈ css, c.length = n := fun c hc => by
  obtain ⟨i, hi, rfl⟩ := List.mem_iff_getElem.1 hc
  have hi2 : i < xs.length := by rw [← h.1]; exact hi
  exact hp _ _ (h.2 i css[i] xs[i] (List.getElem?_eq_getElem hi) (List.getElem?_eq_getElem hi2))
theorem Each.one {α : Type} {p : List Value → α → Prop} {css : List (List Value)} {xs : List α} (h : Each p css xs) (hp : ∀ c x, p c x → c.all (·.oneCell') = true) : ∀ u ∈ css.flatten, u.oneCell' = true := fun u hu => by
  obtain ⟨c, hc, hu⟩ := List.mem_flatten.1 hu
  obtain ⟨i, hi, rfl⟩ := List.mem_iff_getElem.1 hc
  have hi2 : i < xs.length := by rw [← h.1]; exact hi
  exact List.all_eq_true.1 (hp _ _ (h.2 i css[i] xs[i] (List.getElem?_eq_getElem hi) (List.getElem?_eq_getElem hi2))) u hu
theorem Each.take {α : Type} {p : List Value → α → Prop} {css : List (List Value)} {xs : List α} (h : Each p css xs) (k : Nat) : Each p (css.take k) (xs.take k) := by
  refine ⟨by simp [h.1], fun i c x hc hx => ?_⟩
  rw [List.getElem?_take] at hc hx
  split at hc
  · rename_i hi
    rw [if_pos hi] at hx
    exact h.2 i c x hc hx
  · cases hc
theorem Each.drop {α : Type} {p : List Value → α → Prop} {css : List (List Value)} {xs : List α} (h : Each p css xs) (k : Nat) : Each p (css.drop k) (xs.drop k) := by
  refine ⟨by simp [h.1], fun i c x hc hx => ?_⟩
  rw [List.getElem?_drop] at hc hx
  exact h.2 _ c x hc hx
theorem Each.append {α : Type} {p : List Value → α → Prop} {css ds : List (List Value)} {xs ys : List α} (h : Each p css xs) (k : Each p ds ys) : Each p (css ++ ds) (xs ++ ys) := by
  refine ⟨by simp [h.1, k.1], fun i c x hc hx => ?_⟩
  rw [List.getElem?_append] at hc hx
  by_cases hi : i < css.length
  · rw [if_pos hi] at hc
    rw [if_pos (by rw [← h.1]; exact hi)] at hx
    exact h.2 i c x hc hx
  · rw [if_neg hi] at hc
    rw [if_neg (by rw [← h.1]; exact hi)] at hx
    rw [← h.1] at hx
    exact k.2 _ c x hc hx
section
variable {ops : Array Oper} {rest : List Oper} {o : Oper} {a : Act} {Q : Exit → Act → World → Prop} {w : World}
end
end Go.Proofs.YtfimfbdlegookaaGreatDoor

/-! marref5: with: a file put in its place, in a new list. Conditions: at most 1000000 files; short paths. -/
namespace Go.Proofs.YtfimfbdlegookaaGreatDoor
open Go Go.RowKit

/-- What holds while the three appends are done, of which have been done. -/
structure WithJ (w0 : World) (nA nC : Nat) (A rowc C : List Value) (z0 z4 z8 z9 z13 : Option Value) (w : World) : Prop where
  ext : Ext w0 w
  o13 : z13 ≠ none → z9 ≠ none
  o9 : z9 ≠ none → z4 ≠ none ∧ z8 ≠ none
  f13 : ∀ v, z13 = some v → w.ownsRow w0.heap.size 182 4 v (nA + 1 + nC) (A ++ rowc ++ C)
  f9 : z13 = none → ∀ v, z9 = some v → w.ownsRow w0.heap.size 182 4 v (nA + 1) (A ++ rowc)
  f4 : z9 = none → ∀ v, z4 = some v → w.ownsRow w0.heap.size 182 4 v nA A
  f8 : z9 = none → ∀ v, z8 = some v → ∃ g, v = .slice (some ⟨g, 0, none⟩) 1 1 ∧ w.heap[g]? = some (.cells rowc.toArray 182 (0, 0))
  f0 : z4 = none → ∀ v, z0 = some v → ∃ g, v = .slice (some ⟨g, 0, none⟩) 0 0 ∧ w.heap[g]? = some (.cells #[] 182 (0, 0)) ∧ w0.heap.size ≤ g

section
variable {w0 : World} {nA nC : Nat} {A rowc C : List Value} {z0 z4 z8 z9 z13 : Option Value} {w w' : World} {u : Value}
theorem WithJ.more (h : WithJ w0 nA nC A rowc C z0 z4 z8 z9 z13 w) (hx : Ext w w') : WithJ w0 nA nC A rowc C z0 z4 z8 z9 z13 w' :=
  ⟨h.ext.trans hx, h.o13, h.o9, fun v hv => owns_ext (h.f13 v hv) hx, fun h1 v hv => owns_ext (h.f9 h1 v hv) hx, fun h1 v hv => owns_ext (h.f4 h1 v hv) hx,
   fun h1 v hv => by obtain ⟨g, h2, h3⟩ := h.f8 h1 v hv; exact ⟨g, h2, hx.row h3⟩, fun h1 v hv => by obtain ⟨g, h2, h3, h4⟩ := h.f0 h1 v hv; exact ⟨g, h2, hx.row h3, h4⟩⟩
theorem WithJ.start (hx : Ext w0 w) : WithJ w0 nA nC A rowc C none none none none none w :=
  ⟨hx, fun h => absurd rfl h, fun h => absurd rfl h, fun v hv => (by cases hv), fun _ v hv => (by cases hv), fun _ v hv => (by cases hv), fun _ v hv => (by cases hv), fun _ v hv => (by cases hv)⟩
theorem WithJ.set8 (h : WithJ w0 nA nC A rowc C z0 z4 z8 z9 z13 w) : WithJ w0 nA nC A rowc C z0 z4 (some (.slice (some ⟨w.heap.size, 0, none⟩) 1 1)) z9 z13 (w.alloc (.cells rowc.toArray 182)) := by
  have k := h.more ((Ext.refl w).alloc (.cells rowc.toArray 182))
  exact ⟨k.ext, k.o13, fun h9 => ⟨(k.o9 h9).1, by simp⟩, k.f13, k.f9, k.f4, fun _ v hv => by cases hv; exact ⟨_, rfl, alloc_at _ _⟩, k.f0⟩
end

theorem Row.takeN {w : World} {a : Option Addr} {n k cap : Nat} {cs : List Value} (m : Nat) (h : Row w (.slice a n cap) n cs) (hk : k ≤ n) (hl : cs.length = n * m) : Row w (.slice a k cap) k (cs.take (k * m)) := by
  obtain ⟨a', cap', he, h1, h2, h3, h4⟩ := h
  simp only [Value.slice.injEq, true_and] at he
  obtain ⟨rfl, rfl⟩ := he
  refine ⟨a, cap, rfl, by omega, h2, by omega, fun hne => ?_⟩
  obtain ⟨b, o, ha, hc⟩ := h4 (by rintro rfl; simp at hne)
  refine ⟨b, o, ha, fun i u hu => hc i u ?_⟩
  rw [List.getElem?_take] at hu
  split at hu
  · exact hu
  · cases hu
end Go.Proofs.YtfimfbdlegookaaGreatDoor

/-! marref5.apply: a change of a list of files. Conditions: at most 1000000 files; short paths. -/
namespace Go.Proofs.YtfimfbdlegookaaGreatDoor
open Go Go.RowKit

/-- What a change hands back: a new list, or the one that it was given. -/
def NewOr (w : World) (v v' : Value) : Prop := ∀ k, v'.ownBlock = some k → v.ownBlock = some k ∨ w.heap.size ≤ k
def ApplyPost (R : Nat → Prop) (w : World) (v : Value) (l : Files) (e : Ending) (w' : World) : Prop := (∃ v', e = .returned v' ∧ IsRows R w' v' l ∧ NewOr w v v') ∧ Ext w w'
theorem OwnRows.low {base base' : Nat} {R : Nat → Prop} {w : World} {v : Value} {l : Files} (h : OwnRows base R w v l) (hb : base' ≤ base) : OwnRows base' R w v l := by
  obtain ⟨css, h1, h2⟩ := h
  exact ⟨css, owns_low h1 hb, h2⟩
theorem OwnRows.ext {base : Nat} {R : Nat → Prop} {w w' : World} {v : Value} {l : Files} (h : OwnRows base R w v l) (hx : Ext w w') : OwnRows base R w' v l := by
  obtain ⟨css, h1, h2⟩ := h
  exact ⟨css, owns_ext h1 hx, Each.imp h2 (fun c x hc => IsRowR.keepR hc (KeepR.of_keep (KeepB.of_ext hx)))⟩
theorem ApplyPost.own {R : Nat → Prop} {w wx w' : World} {v v' : Value} {l : Files} (h : OwnRows wx.heap.size R w' v' l) (hx : w.heap.size ≤ wx.heap.size) (hl : l.length ≤ 10000000) (hw : Ext w w') : ApplyPost R w v l (.returned v') w' :=
  ⟨⟨_, rfl, h.rows hl, fun k hk => .inr (Nat.le_trans hx (h.lt hk).1)⟩, hw⟩

end Go.Proofs.YtfimfbdlegookaaGreatDoor

/-! marref5.FS: change: a change is done. Conditions: at most 1000000 files, changes, ticks. -/
namespace Go.Proofs.YtfimfbdlegookaaGreatDoor
open Go Go.RowKit
variable [Inhabited BaseW]

section
variable {ops : Array Oper} {rest : List Oper} {o : Oper} {a : Act} {Q : Exit → Act → World → Prop} {w : World}
end

/-- A change, in its cells: its kind, two paths, a file. -/
theorem IsOp.shape {R : Nat → Prop} {w : World} {cs : List Value} {c : Ch} (h : IsOp R w cs c) : ∃ (kind : Int) (p q : B8) (mode time : Int) (a : Option Addr) (n cap : Nat), cs = [.int .i64 kind, S8 p, S8 q, .int .i64 mode, .slice a n cap, .int .i64 time] ∧ ((kind = 1 ∧ ∃ f, c = .put q f ∧ p = [] ∧ f.mode = mode ∧ f.data.length = n ∧ f.time = time) ∨ (kind ≠ 1 ∧ ∀ t, c.at t = c)) := by
  cases c with
  | put p f =>
    obtain ⟨_, v, rfl, h3⟩ := h
    obtain ⟨a, cap, rfl, _⟩ := h3.bytes
    exact ⟨_, _, _, _, _, _, _, _, rfl, .inl ⟨rfl, f, rfl, rfl, rfl, rfl, rfl⟩⟩
  | mv s d => obtain ⟨_, _, rfl⟩ := h; exact ⟨_, _, _, _, _, _, _, _, rfl, .inr ⟨by omega, fun _ => rfl⟩⟩
  | del p => obtain ⟨_, rfl⟩ := h; exact ⟨_, _, _, _, _, _, _, _, rfl, .inr ⟨by omega, fun _ => rfl⟩⟩

theorem IsOp.ext {R : Nat → Prop} {w w' : World} {cs : List Value} {c : Ch} (h : IsOp R w cs c) (hx : Ext w w') : IsOp R w' cs c := h.keepR (KeepR.of_keep (KeepB.of_ext hx))
end Go.Proofs.YtfimfbdlegookaaGreatDoor

/-! marref1.Under: what it answers. Conditions: texts of at most 1000000 signs. -/
namespace Go.Proofs.YtfimfbdlegookaaGreatDoor
open Go Go.RowKit

end Go.Proofs.YtfimfbdlegookaaGreatDoor

/-! marref5.may: may a file stand at a path? Conditions: all paths may be. -/
namespace Go.Proofs.YtfimfbdlegookaaGreatDoor
open Go Go.RowKit

end Go.Proofs.YtfimfbdlegookaaGreatDoor

/-! marref5.FS: safe, drop. Conditions: at most 900000 ticks; short paths. -/
namespace Go.Proofs.YtfimfbdlegookaaGreatDoor
open Go Go.RowKit
variable [Inhabited BaseW]

section
variable {ops : Array Oper} {rest : List Oper} {o : Oper} {a : Act} {Q : Exit → Act → World → Prop} {w : World}
end
end Go.Proofs.YtfimfbdlegookaaGreatDoor
