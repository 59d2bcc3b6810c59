/- wire: Get; slices.Equal of bytes. Conditions: as each theorem states. -/
import Derived.Test.YtdhgmpibjneplaaGreatDoorZag
import Derived.Test.YtdhgmpibjneplaaGreatDoorZaa
import Derived.Test.YtdhgmpibjneplaaGreatDoorZae
import Derived.Test.YtdhgmpibjneplaaGreatDoorZaf
import Derived.Deep.Upon
import Derived.Test.YtdhgmpibjneplaaGreatDoorZab
import Derived.Lib.EndianBits
import Derived.Deep.DeepCutAuto

set_option linter.unusedVariables false
set_option linter.unusedSimpArgs false
set_option linter.unusedSectionVars false

/-! What the document's lists of files are, in plain Lean: places, files put in their places, what may be. No conditions. -/
namespace Go.Proofs.YtdhgmpibjneplaaGreatDoor
open Go Go.RowKit

/-- The place of a path. -/
def PlaceOf (l : Files) (p : B8) (i : Int) : Prop := (look l p = none ∧ i = -1) ∨ ∃ (k : Nat) (f : Fi), i = k ∧ l[k]? = some (p, f) ∧ look l p = some f
theorem ltB_asymm {a b : B8} (h : ltB a b = true) : ltB b a = false := by
  cases hb : ltB b a with
  | false => rfl
  | true => exact absurd rfl (ltB_ne (ltB_trans h hb))
def mayR (l : Files) (path : B8) : Bool := !(l.any fun e => isUnder path e.1 || isUnder e.1 path)
end Go.Proofs.YtdhgmpibjneplaaGreatDoor

/-! marref5: find, used: what is read of a list of files. Conditions: at most 100000000 files; short paths. -/
namespace Go.Proofs.YtdhgmpibjneplaaGreatDoor
open Go Go.RowKit

theorem Row.stayN {w w' : World} {v : Value} {n : Nat} {cs : List Value} (h : Row w v n cs) (hb : cs ≠ [] → ∀ k, v.ownBlock = some k → w'.heap[k]? = w.heap[k]?) : Row w' v n cs := by
  obtain ⟨a, cap, rfl, h1, h2, h3, h4⟩ := h
  refine ⟨a, cap, rfl, h1, h2, h3, fun hn => ?_⟩
  obtain ⟨b, o, rfl, hc⟩ := h4 hn
  refine ⟨b, o, rfl, fun i u hu => ?_⟩
  rw [World.cell?_of_block (w := w) (w' := w') (a := ⟨b, o + i, none⟩) (hb hn b rfl)]
  exact hc i u hu
/-- A slice of another's, that is read alone: its block's type is not told. -/
def ReadO {α : Type} (w : World) (p : List Value → α → Prop) (v : Value) (xs : List α) : Prop := ∃ css : List (List Value), Row w v xs.length css.flatten ∧ (xs ≠ [] → ∀ k, v.ownBlock = some k → k < w.heap.size) ∧ Each p css xs
theorem ReadO.mono {α : Type} {w : World} {p q : List Value → α → Prop} {v : Value} {xs : List α} (h : ReadO w p v xs) (hpq : ∀ c x, p c x → q c x) : ReadO w q v xs := by
  obtain ⟨css, h1, h2, h3⟩ := h
  exact ⟨css, h1, h2, h3.imp hpq⟩
theorem ReadO.lt {α : Type} {w : World} {p : List Value → α → Prop} {v : Value} {xs : List α} (h : ReadO w p v xs) (hn : xs ≠ []) : ∀ k, v.ownBlock = some k → k < w.heap.size := by
  obtain ⟨css, h1, h2, h3⟩ := h
  exact h2 hn
theorem ReadO.stay {α : Type} {w w' : World} {p : List Value → α → Prop} {v : Value} {xs : List α} (h : ReadO w p v xs) (hs : w.heap.size ≤ w'.heap.size) (hb : xs ≠ [] → ∀ k, v.ownBlock = some k → w'.heap[k]? = w.heap[k]?) : ReadO w' p v xs := by
  obtain ⟨css, h1, h2, h3⟩ := h
  refine ⟨css, h1.stayN (fun hn => hb fun hx => hn ?_), fun hn k hk => Nat.lt_of_lt_of_le (h2 hn k hk) hs, h3⟩
  have : css = [] := List.eq_nil_of_length_eq_zero (by rw [h3.1, hx]; rfl)
  rw [this]; rfl
theorem readO_get {α : Type} {w : World} {p : List Value → α → Prop} {v : Value} {xs : List α} (n : Nat) (hp : ∀ c x, p c x → c.length = n) (hn0 : 0 < n) (h : ReadO w p v xs) : ∃ a cap, v = .slice a xs.length cap ∧ xs.length ≤ cap ∧ xs.length ≤ 140737488355328 ∧ cap ≤ 9223372036854775807 ∧
    ∀ (k : Nat) x, xs[k]? = some x → ∃ b o cs, a = some ⟨b, o, none⟩ ∧ p cs x ∧ ∀ j u, cs[j]? = some u → w.cell? ⟨b, o + k * n + j, none⟩ = some u := by
  obtain ⟨css, ⟨a, cap, rfl, h1, h2, h3, h4⟩, ht, he⟩ := h
  refine ⟨a, cap, rfl, h1, h3, h2, fun k x hk => ?_⟩
  have h7 : ∀ c ∈ css, c.length = n := fun c hc => by
    obtain ⟨i, hi, rfl⟩ := List.mem_iff_getElem.1 hc
    have hi2 : i < xs.length := by rw [← he.1]; exact hi
    exact hp _ _ (he.2 i css[i] xs[i] (List.getElem?_eq_getElem hi) (List.getElem?_eq_getElem hi2))
  have hkl : k < css.length := by rw [he.1]; exact (List.getElem?_eq_some_iff.1 hk).1
  have hev := he.2 k _ x (List.getElem?_eq_getElem hkl) hk
  have hf := fun j u hu => flat_get n css k j _ u h7 (List.getElem?_eq_getElem hkl) hu
  obtain ⟨b, o, rfl, hc⟩ := h4 (by
    intro hnil
    have h0 : (css[k])[0]? = some ((css[k])[0]'(by rw [hp _ _ hev]; exact hn0)) := List.getElem?_eq_getElem _
    have := hf 0 _ h0
    rw [hnil] at this
    simp at this)
  refine ⟨b, o, css[k], rfl, hev, fun j u hu => ?_⟩
  have := hc _ _ (hf j u hu)
  rwa [Nat.add_assoc, Nat.mul_comm k n]

theorem tl (l : B8) : (⟨l.toArray⟩ : ByteArray).toList = l := Lib.toList_data _

end Go.Proofs.YtdhgmpibjneplaaGreatDoor

/-! names.Under; a block of the call's own is written. Conditions: as each theorem states. -/
namespace Go.Proofs.YtdhgmpibjneplaaGreatDoor
open Go Go.RowKit
set_option linter.unusedVariables false
set_option linter.unusedSimpArgs false
set_option linter.unusedSectionVars false

def underB (d s : B8) : Bool := pathB d && (pathB s && isUnder d s)
variable [Inhabited BaseW]
/-- A block of the call's own that lies apart is written. -/
theorem One.grown {w0 w w' : World} {S O : Nat → Prop} {f : Value} {m : Fs} {b : Nat} (h : One w0 S O w f m) (hg : w.grownBy w' (some b)) (hb : w0.heap.size ≤ b) (hO : ¬ O b) (hS : ¬ S b) (hu : ¬ IsU8 w b) : One w0 S O w' f m := by
  have hs := hg.size
  have hne : ∀ k, k ≠ b → k < w.heap.size → w'.heap[k]? = w.heap[k]? := fun k hk hlt => hg.block k hlt (fun e => hk (Option.some.inj e))
  refine ⟨Ext.of_fr h.ext (Fr.of_grown (O := fun k => k = b) hg rfl hu) (fun k hk => by omega), (h.fs.stay (fun k hk hlt => hne k (fun e => hO (e ▸ hk)) hlt) (fun k hk hlt => hne k (fun e => hS (e ▸ hk)) hlt) (grown_keepR hg hu)).mono (fun _ h => h) (fun k hk => by omega), fun k hk => by have := h.lo k hk; omega, fun k hk => by have := h.loS k hk; omega, h.disS⟩
end Go.Proofs.YtdhgmpibjneplaaGreatDoor

/-! A region that draws its order and whose operations write: what holds of the world is said of each set of those operations that have been done. Conditions: each operation of the head goes on from each such set. -/
namespace Go.Proofs.YtdhgmpibjneplaaGreatDoor
open Go Go.RowKit

def getP (V : List (Value → Prop)) (k : Nat) : Value → Prop := V.getD k (fun _ => True)
/-- What the marked operations have handed back so far. -/
def zOf (K : List Bool) (listed : Array Bool) (xs : Nat → Value) : Nat → Option Value := fun j => if K.getD j false && listed.getD j false then some (xs j) else none
def zAll (K : List Bool) (xs : Nat → Value) : Nat → Option Value := fun j => if K.getD j false then some (xs j) else none
def zSet (z : Nat → Option Value) (k : Nat) (u : Value) : Nat → Option Value := fun j => if j = k then some u else z j
def knowsI (K : List Bool) (V : List (Value → Prop)) (z : Nat → Option Value) (xs : Nat → Value) : List Nat → Prop
  | [] => True
  | j :: l => (if K.getD j false then z j = some (xs j) else getP V j (xs j)) ∧ knowsI K V z xs l
theorem knowsI_of {K : List Bool} {V : List (Value → Prop)} {z : Nat → Option Value} {xs : Nat → Value} : ∀ {l : List Nat}, (∀ j ∈ l, if K.getD j false then z j = some (xs j) else getP V j (xs j)) → knowsI K V z xs l
  | [], _ => trivial
  | j :: l, h => ⟨h j (by simp), knowsI_of fun i hi => h i (by simp [hi])⟩

section
variable {P : Program} {J : (Nat → Option Value) → World → Prop}
def stepI (P : Program) (J : (Nat → Option Value) → World → Prop) (ops : Array Oper) (K : List Bool) (V : List (Value → Prop)) (head : List Oper) (a0 : Act) (k : Nat) (d : List Nat) (o : Oper) : Bool → Prop
  | true => ∀ (xs : Nat → Value) (z : Nat → Option Value) (w : World), J z w → z k = none → knowsI K V z xs d → ∀ R : Value → World → Prop, (∀ u w', J (zSet z k u) w' → R u w') →
    if Region.wanted o (yielded ops (fillFrom xs head 0 a0).tmps) then relUpon P R ((execOp (fillFrom xs head 0 a0).eval o).run P w) else R undef w
  | false => ∀ (xs : Nat → Value) (z : Nat → Option Value) (w : World), J z w → knowsI K V z xs d → ∀ R : Value → World → Prop, (∀ u w', J z w' → getP V k u → R u w') →
    if Region.wanted o (yielded ops (fillFrom xs head 0 a0).tmps) then relUpon P R ((execOp (fillFrom xs head 0 a0).eval o).run P w) else R undef w
def oblI (P : Program) (J : (Nat → Option Value) → World → Prop) (ops : Array Oper) (K : List Bool) (V : List (Value → Prop)) (D : List (List Nat)) (head : List Oper) (a0 : Act) : List Oper → List Bool → Nat → Prop
  | [], _, _ => True
  | _ :: _, [], _ => False
  | o :: l, b :: ks, k => stepI P J ops K V head a0 k (D.getD k []) o b ∧ oblI P J ops K V D head a0 l ks (k + 1)
theorem oblI_get {ops : Array Oper} {K : List Bool} {V : List (Value → Prop)} {D : List (List Nat)} {head : List Oper} {a0 : Act} :
    ∀ {l : List Oper} {ks : List Bool} {k : Nat}, oblI P J ops K V D head a0 l ks k → ∀ i o, l[i]? = some o → stepI P J ops K V head a0 (k + i) (D.getD (k + i) []) o (ks.getD i false)
  | [], _, _, _, i, o, h => by simp at h
  | _ :: _, [], _, h, _, _, _ => h.elim
  | p :: l, b :: ks, k, h, 0, o, ho => by
    have : p = o := by simpa using ho
    subst this
    simpa using h.1
  | p :: l, b :: ks, k, h, i + 1, o, ho => by
    have := oblI_get h.2 i o (by simpa using ho)
    rw [show k + 1 + i = k + (i + 1) by omega] at this
    simpa using this

structure IInv (J : (Nat → Option Value) → World → Prop) (ops : Array Oper) (n : Nat) (K : List Bool) (V : List (Value → Prop)) (a0 : Act) (listed : Array Bool) (a : Act) (w : World) : Prop where
  head : HeadInv .any ops n listed
  fill : ∃ xs : Nat → Value, a = fillFrom xs (ops.toList.take n) 0 a0 ∧ J (zOf K listed xs) w ∧ ∀ j, j < n → listed.getD j false = true → K.getD j false = false → getP V j (xs j)

theorem wpAny_inv {ops : Array Oper} {n : Nat} {K : List Bool} {V : List (Value → Prop)} {D : List (List Nat)} {a0 : Act} {Q : Exit → Act → World → Prop} (hK : K.length = n)
    (hB : relB ops n D = true) (hs : oblI P J ops K V D (ops.toList.take n) a0 (ops.toList.take n) K 0)
    (hQ : ∀ xs w, J (zAll K xs) w → (∀ j, j < n → K.getD j false = false → getP V j (xs j)) → wpList P ops Q (ops.toList.drop n) (fillFrom xs (ops.toList.take n) 0 a0) w) :
    ∀ (f : Nat) (listed : Array Bool) (a : Act) (w : World), left n listed = f → IInv J ops n K V a0 listed a w → wpAny P .any ops Q (f + (ops.size - n)) listed a w := by
  simp only [relB, Bool.and_eq_true, Bool.or_eq_true, decide_eq_true_eq] at hB
  obtain ⟨⟨⟨⟨⟨hn, hback⟩, hdeps⟩, hnd⟩, htail⟩, hseq⟩ := hB
  intro f
  induction f with
  | zero =>
    intro listed a w hl inv
    have hall := left_zero hl
    have hall2 : ∀ j, j < n → listed.getD j false = true := fun j hj => by
      have := hall j hj
      rwa [getD_of_size (by rw [inv.head.size]; omega) true false] at this
    have harr : listed = headArr ops.size n := by
      apply Array.ext_getElem?
      intro i
      have hsz := inv.head.size
      unfold headArr
      by_cases h1 : i < n
      · have := hall i h1
        have hi : i < listed.size := by omega
        simp only [hi, Array.getD_eq_getD_getElem?, Array.getElem?_eq_getElem, Option.getD_some] at this
        rw [Array.getElem?_append_left (by simpa using h1)]
        simp [hi, h1, this]
      · by_cases h2 : i < ops.size
        · have := inv.head.tail i (by omega) h2
          have hi : i < listed.size := by omega
          simp only [hi, Array.getD_eq_getD_getElem?, Array.getElem?_eq_getElem, Option.getD_some] at this
          rw [Array.getElem?_append_right (by simpa using h1)]
          simp only [hi, Array.getElem?_eq_getElem, this]
          rw [Array.getElem?_replicate, if_pos (by simp; omega)]
        · rw [Array.getElem?_eq_none (by omega), Array.getElem?_eq_none (by simp; omega)]
    obtain ⟨xs, ha, hj, hx⟩ := inv.fill
    have hz : zOf K listed xs = zAll K xs := by
      funext j
      unfold zOf zAll
      by_cases hjn : j < n
      · rw [hall2 j hjn, Bool.and_true]
      · have : K.getD j false = false := by
          rw [List.getD_eq_getElem?_getD, List.getElem?_eq_none (by omega)]; rfl
        rw [this, Bool.false_and]
    rw [hz] at hj
    have := hQ xs w hj (fun j hjn hkj => hx j hjn (hall2 j hjn) hkj)
    rw [← ha] at this
    rw [Nat.zero_add]
    have h2 := wpAny_of_seq (md := .any) (Q' := Q) (ops.toList.drop n) n listed a w (fun j => by simp [List.getElem?_drop]) (by rw [harr]; simpa using hseq) this
    simpa using h2
  | succ f ih =>
    intro listed a w hl inv
    rw [show f + 1 + (ops.size - n) = (f + (ops.size - n)) + 1 by omega]
    -- one of the head is yet to come
    have hex : ∃ i, i < n ∧ listed.getD i true = false := by
      have h1 : 0 < ((List.range n).filter fun i => !listed.getD i true).length := by unfold left at hl; omega
      obtain ⟨i, hi⟩ := List.exists_mem_of_length_pos h1
      simp only [List.mem_filter, List.mem_range] at hi
      exact ⟨i, hi.1, by simpa using hi.2⟩
    have hready : ∃ i, i < n ∧ i ∈ Region.ready .any ops listed := by
      obtain ⟨i, hi, hu⟩ := hex
      revert hi hu
      induction i using Nat.strongRecOn with
      | _ i ihh =>
        intro hi hu
        have hlt : i < ops.size := by omega
        by_cases hr : i ∈ Region.ready .any ops listed
        · exact ⟨i, hi, hr⟩
        · have ho : ops[i]? = some ops[i] := Array.getElem?_eq_getElem hlt
          have hb := List.all_eq_true.1 hback i (List.mem_range.2 hlt)
          rw [ho] at hb
          simp only [Option.map_some, Option.getD_some] at hb
          have : ∃ e ∈ ops[i].after, Region.binds .any e = true ∧ listed.getD e.on false = false := by
            apply Classical.byContradiction
            intro hno
            apply hr
            rw [mem_ready]
            refine ⟨hu, ops[i], ho, fun e he hbd => ?_⟩
            cases hq : listed.getD e.on false with
            | true => rfl
            | false => exact absurd ⟨e, he, hbd, hq⟩ hno
          obtain ⟨e, he, hbd, hq⟩ := this
          have hlt2 := Array.all_eq_true'.1 hb e he
          simp only [hbd, Bool.not_true, Bool.false_or, decide_eq_true_eq] at hlt2
          exact ihh e.on hlt2 (by omega) (getD_in (by rw [inv.head.size]; omega) hq)
    refine ⟨fun h0 => ?_, fun i hi => ?_⟩
    · obtain ⟨i, _, hr⟩ := hready
      rw [h0] at hr; cases hr
    · have hin : i < n := by
        rcases Nat.lt_or_ge i n with h | h
        · exact h
        · exfalso
          rcases htail with h2 | ⟨⟨hlt, hsk⟩, hch⟩
          · obtain ⟨_, o, ho, _⟩ := mem_ready.1 hi
            have := (Array.getElem?_eq_some_iff.1 ho).1
            omega
          · obtain ⟨j, hj, hu⟩ := hex
            exact tail_waits hsk hch hlt inv.head _ j rfl hj hu i h hi
      obtain ⟨hu, o, ho, hw⟩ := mem_ready.1 hi
      obtain ⟨xs, ha, hj, hx⟩ := inv.fill
      have hoi : (ops.toList.take n)[i]? = some o := by simp [hin, ho]
      have hst := oblI_get hs i o hoi
      rw [Nat.zero_add] at hst
      have hui : listed.getD i false = false := getD_both hu
      have hkn : knowsI K V (zOf K listed xs) xs (D.getD i []) := knowsI_of fun j hj => by
        have h1 := List.all_eq_true.1 hdeps i (List.mem_range.2 (by omega))
        have h2 := List.all_eq_true.1 h1 j hj
        obtain ⟨o', ho', e, he, hb, hon⟩ := Region.waitsFor_spec h2
        have : o' = o := Option.some.inj (ho'.symm.trans ho)
        subst this
        have h3 := hw e he hb
        rw [hon] at h3
        have hjn : j < n := by
          have hb1 := List.all_eq_true.1 hback i (List.mem_range.2 (by omega))
          rw [ho] at hb1
          simp only [Option.map_some, Option.getD_some] at hb1
          have h4 := Array.all_eq_true'.1 hb1 e he
          simp only [hb, Bool.not_true, Bool.false_or, decide_eq_true_eq] at h4
          omega
        cases hkj : K.getD j false with
        | true => simp only [if_true, zOf, hkj, h3, Bool.and_self]
        | false => simpa using hx j hjn h3 hkj
      have hnext : ∀ u w', J (zOf K (listed.setIfInBounds i true) (upd xs i u)) w' → (K.getD i false = false → getP V i u) → wpAny P .any ops Q (f + (ops.size - n)) (listed.setIfInBounds i true) (a.put o.dst u) w' := fun u w' h1 h2 => by
        refine ih (listed.setIfInBounds i true) (a.put o.dst u) w' ?_ ⟨inv.head.set hi hin, upd xs i u, ?_, h1, ?_⟩
        · have := left_set hin hu
          omega
        · rw [ha, fill_put xs u (ops.toList.take n) 0 i a0 o hnd hoi, Nat.zero_add]
        · intro j hjn hlj hkj
          by_cases hji : j = i
          · subst hji; simpa [upd] using h2 hkj
          · rw [getD_set_ne false (Ne.symm hji)] at hlj
            simp only [upd, hji, if_false]
            exact hx j hjn hlj hkj
      have hisz : i < listed.size := by
        obtain ⟨hi2, _⟩ := Array.getElem?_eq_some_iff.1 ho
        rw [inv.head.size]; exact hi2
      have hself : (listed.setIfInBounds i true).getD i false = true := by simp [hisz]
      cases hki : K.getD i false with
      | true =>
        rw [hki] at hst
        have hz0 : zOf K listed xs i = none := by simp only [zOf, hui, Bool.and_false, Bool.false_eq_true, if_false]
        have hzz : ∀ u, zOf K (listed.setIfInBounds i true) (upd xs i u) = zSet (zOf K listed xs) i u := fun u => by
          funext j
          by_cases hji : j = i
          · subst hji; simp only [zOf, zSet, hki, hself, Bool.and_self, if_true, upd]
          · simp only [zOf, zSet, hji, if_false, upd, getD_set_ne false (Ne.symm hji)]
        have hstep := hst xs _ w hj hz0 hkn (fun u w' => J (zSet (zOf K listed xs) i u) w') (fun u w' h => h)
        rw [← ha] at hstep
        have hres := wp_of_rel (P := P) (ops := ops) (Q := Q) (K := wpAny P .any ops Q (f + (ops.size - n)) (listed.setIfInBounds i true)) (fun u w' h => hnext u w' (by rw [hzz]; exact h) (fun h => by rw [hki] at h; cases h)) hstep
        unfold wpOp
        simp only [ho]
        exact hres
      | false =>
        rw [hki] at hst
        have hzz : ∀ u, zOf K (listed.setIfInBounds i true) (upd xs i u) = zOf K listed xs := fun u => by
          funext j
          by_cases hji : j = i
          · subst hji; simp only [zOf, hki, Bool.false_and, Bool.false_eq_true, if_false]
          · simp only [zOf, hji, if_false, upd, getD_set_ne false (Ne.symm hji)]
        have hstep := hst xs _ w hj hkn (fun u w' => J (zOf K listed xs) w' ∧ getP V i u) (fun u w' h h2 => ⟨h, h2⟩)
        rw [← ha] at hstep
        have hres := wp_of_rel (P := P) (ops := ops) (Q := Q) (K := wpAny P .any ops Q (f + (ops.size - n)) (listed.setIfInBounds i true)) (fun u w' h => hnext u w' (by rw [hzz]; exact h.1) (fun _ => h.2)) hstep
        unfold wpOp
        simp only [ho]
        exact hres

/-- Of each operation that is not marked: a value ('none': the one of the list), or what is known of it. -/
def mixP : List Value → List (Option (Value → Prop)) → List (Value → Prop)
  | c :: cs, none :: l => (fun u => u = c) :: mixP cs l
  | _ :: cs, some V :: l => V :: mixP cs l
  | _, _ => []
def heldI : List Bool → List Value → List (Option (Value → Prop)) → Nat → (Nat → Value) → Prop
  | true :: ks, _ :: cs, _ :: l, k, xs => heldI ks cs l (k + 1) xs
  | false :: ks, c :: cs, none :: l, k, xs => xs k = c ∧ heldI ks cs l (k + 1) xs
  | false :: ks, _ :: cs, some V :: l, k, xs => V (xs k) ∧ heldI ks cs l (k + 1) xs
  | _, _, _, _, _ => True
theorem heldI_of (xs : Nat → Value) : ∀ (ks : List Bool) (cs : List Value) (l : List (Option (Value → Prop))) (k : Nat), (∀ j, j < ks.length → ks.getD j false = false → getP (mixP cs l) j (xs (k + j))) → heldI ks cs l k xs := by
  intro ks
  induction ks with
  | nil => intro cs l k _; simp [heldI]
  | cons b ks ih =>
    intro cs l k h
    cases cs with
    | nil => cases b <;> simp [heldI]
    | cons c cs =>
      cases l with
      | nil => cases b <;> simp [heldI]
      | cons o l =>
        have hr : heldI ks cs l (k + 1) xs := ih cs l (k + 1) fun j hj hk => by
          have := h (j + 1) (by simp; omega) (by simpa using hk)
          rw [show k + (j + 1) = k + 1 + j by omega] at this
          cases o <;> simpa [getP, mixP] using this
        cases b with
        | true => simpa [heldI] using hr
        | false =>
          have h0 := h 0 (by simp) (by simp)
          cases o with
          | none => exact ⟨by simpa [getP, mixP] using h0, hr⟩
          | some V => exact ⟨by simpa [getP, mixP] using h0, hr⟩

/-- A region that draws its order: its head by each operation alone, its tail in the text's order. -/
theorem wp_region_inv {id : Nat} {Q : Exit → Act → World → Prop} {a : Act} {w : World} {l : List Oper} (n : Nat) (J : (Nat → Option Value) → World → Prop) (K : List Bool) (cs : List Value) (W : List (Option (Value → Prop))) (D : List (List Nat))
    (hm : P.follows .mixedOrders = true) (hB : relB l.toArray n D = true) (hK : K.length = n) (hJ : J (fun _ => none) { w with drawn := w.drawn + 1 })
    (hs : oblI P J l.toArray K (mixP cs W) D (l.take n) a (l.take n) K 0)
    (hQ : ∀ xs w', J (zAll K xs) w' → heldI K cs W 0 xs → wpList P l.toArray Q (l.drop n) (fillFrom xs (l.take n) 0 a) w') :
    (Code.region id l.toArray true).wp P Q a w := by
  refine wp_region_any hm ?_
  have hn : n ≤ l.toArray.size := by
    simp only [relB, Bool.and_eq_true, decide_eq_true_eq] at hB
    exact hB.1.1.1.1.1
  obtain ⟨xs0, h0⟩ := fill_self (l.take n) 0 a
  have hl : left n (Array.replicate l.toArray.size false) = n := by
    unfold left
    rw [List.filter_eq_self.2]
    · simp
    · intro i hi
      have : i < l.toArray.size := by have := List.mem_range.1 hi; omega
      simp at this
      simp [this]
  have hz0 : zOf K (Array.replicate l.toArray.size false) xs0 = fun _ => none := by
    funext j
    unfold zOf
    rw [getD_replicate_false, Bool.and_false]
    rfl
  have H := wpAny_inv (P := P) (J := J) (Q := Q) (a0 := a) hK hB (by simpa using hs) (by
      intro xs w' h1 h2
      have := hQ xs w' h1 (heldI_of xs K cs W 0 fun j hj hk => by rw [Nat.zero_add]; exact h2 j (by omega) hk)
      simpa using this) n (Array.replicate l.toArray.size false) a { w with drawn := w.drawn + 1 } hl
    ⟨⟨by simp, fun j oj _ hl => (by rw [getD_replicate_false] at hl; cases hl), fun t _ ht => getD_in (by simpa using ht) (getD_replicate_false _ _)⟩,
      xs0, by simpa using (h0 xs0 (fun _ _ => rfl)).symm, by rw [hz0]; exact hJ, fun j _ hl => (by rw [getD_replicate_false] at hl; cases hl)⟩
  rw [show n + (l.toArray.size - n) = l.toArray.size by omega] at H
  exact H
end

end Go.Proofs.YtdhgmpibjneplaaGreatDoor

/-! store: Open, place, read. Conditions: as each theorem states. -/
namespace Go.Proofs.YtdhgmpibjneplaaGreatDoor
open Go Go.RowKit
set_option linter.unusedVariables false
set_option linter.unusedSimpArgs false
set_option linter.unusedSectionVars false

/-- What a caller wants kept besides: blocks and what they hold. -/
structure KeptW where
  blk : Nat → Option Obj
def keptW [KW : Inhabited KeptW] : Nat → Option Obj := (default : KeptW).blk
variable [KW : Inhabited KeptW]
/-- A store over a file system, both of the call's own. -/
structure St (w0 : World) (S O : Nat → Prop) (w : World) (f : Value) (gs gc : Nat) (m : Fs) (n : Int) : Prop where
  one : One w0 S O w f m
  row : w.heap[gs]? = some (.cells #[f, .pointer (some ⟨gc, 0, none⟩)] 88 (0, 0))
  cnt : w.heap[gc]? = some (.cells #[.int .i64 n] 128 (0, 0))
  lo : w0.heap.size ≤ gs ∧ w0.heap.size ≤ gc ∧ gs ≠ gc
  out : ¬ O gs ∧ ¬ O gc ∧ ¬ S gs ∧ ¬ S gc
  kp : ∀ k o, keptW k = some o → w.heap[k]? = some o ∧ ¬ O k ∧ k ≠ gs ∧ k ≠ gc
section
variable {w0 w w' : World} {S O : Nat → Prop} {f : Value} {gs gc : Nat} {m m' : Fs} {n : Int}
theorem St.more (h : St w0 S O w f gs gc m n) (hx : Ext w w') : St w0 S O w' f gs gc m n := ⟨h.one.more hx, Ext.row hx h.row, Ext.row hx h.cnt, h.lo, h.out, fun k o hk => ⟨Ext.row hx (h.kp k o hk).1, (h.kp k o hk).2⟩⟩
theorem St.lt (h : St w0 S O w f gs gc m n) : gs < w.heap.size ∧ gc < w.heap.size := ⟨(Array.getElem?_eq_some_iff.1 h.row).1, (Array.getElem?_eq_some_iff.1 h.cnt).1⟩
theorem St.post (h : St w0 S O w f gs gc m n) (hp : FsPost S O (fun k => k < w.heap.size) w f m' w') : St w0 S (Nw O w w') w' f gs gc m' n := by
  have hl := h.lt
  refine ⟨h.one.post hp, hp.fr.row h.row h.out.1, hp.fr.row h.cnt h.out.2.1, h.lo, ⟨fun ho => ?_, fun ho => ?_, h.out.2.2⟩, fun k o hk => ?_⟩
  · rcases ho with ho | ho
    · exact h.out.1 ho
    · omega
  · rcases ho with ho | ho
    · exact h.out.2.1 ho
    · omega
  · obtain ⟨k1, k2, k3⟩ := h.kp k o hk
    have hlt := (Array.getElem?_eq_some_iff.1 k1).1
    refine ⟨hp.fr.row k1 k2, fun ho => ?_, k3⟩
    rcases ho with ho | ho
    · exact k2 ho
    · omega
end
theorem placeO_any (l : B8) (w : World) (hl : l.length ≤ 10000000) : Calls Tryz.prog 123 #[S8 l] w fun e w' => e = .returned (S8 (placeO l)) ∧ w' = w := by
  go_enter Tryz.func123, Tryz.ntmps123
  go_wp2
  go_ret
  exact ⟨rfl, rfl⟩
theorem alloc_size (w : World) (o : Obj) : (w.alloc o).heap.size = w.heap.size + 1 := Array.size_push ..
variable [Inhabited BaseW]
theorem St.count {w0 w w' : World} {S O : Nat → Prop} {f : Value} {gs gc : Nat} {m : Fs} {n k : Int} (h : St w0 S O w f gs gc m n) (hg : w'.heap[gc]? = some (.cells #[.int .i64 k] 128 (0, 0))) (hw : w.grownBy w' (some gc)) : St w0 S O w' f gs gc m k :=
  ⟨h.one.grown hw h.lo.2.1 h.out.2.1 h.out.2.2.2 (cells_u8 h.cnt (by kernel_rfl)), but_row hw h.row h.lo.2.2, hg, h.lo, h.out, fun k o hk => ⟨but_row hw (h.kp k o hk).1 (h.kp k o hk).2.2.2, (h.kp k o hk).2⟩⟩
set_option maxRecDepth 100000 in
theorem open_any {w0 w : World} {S O : Nat → Prop} {f : Value} {m : Fs} (h : One w0 S O w f m) (hkp : ∀ k, keptW k = none) :
    Calls Tryz.prog 12 #[f] w fun e w' => ∃ gs gc, e = .returned (.pointer (some ⟨gs, 0, none⟩)) ∧ St w0 S O w' f gs gc m 0 ∧ w'.heap.size = gs + 1 := by
  have H : Hid (One w0 S O w f m) := h
  obtain ⟨g, rfl⟩ : ∃ g, f = .pointer (some ⟨g, 0, none⟩) := by
    obtain ⟨g, gm, gd, vp, vl, vu, L, c0, hpe, -⟩ := h.fs
    exact ⟨g, hpe⟩
  clear h
  go_enter Tryz.func12, Tryz.ntmps12
  go_wp2_with fail
  go_at_call 37
  refine (newCounter_any w).mono ?_
  rintro e w1 ⟨rfl, hg1, hx1⟩
  have HG1 : Hid _ := hg1
  have HX1 : Hid (Ext w w1) := hx1
  clear hg1 hx1
  go_wp2
  go_ret
  have h1 := One.more H.out HX1.out
  have hx2 : Ext w1 (w1.alloc (.cells #[.pointer (some ⟨g, 0, none⟩), .pointer (some ⟨w.heap.size, 0, none⟩)] 88)) := (Ext.refl _).alloc _
  have hs := HX1.out.size
  have hlt := (Array.getElem?_eq_some_iff.1 HG1.out).1
  have hs0 := H.out.ext.size
  refine ⟨w1.heap.size, w.heap.size, rfl, ⟨h1.more hx2, alloc_at _ _, Ext.row hx2 HG1.out, ⟨by omega, hs0, by omega⟩, ⟨fun ho => ?_, fun ho => ?_, fun ho => ?_, fun ho => ?_⟩, fun k o hk => by rw [hkp] at hk; cases hk⟩, alloc_size _ _⟩
  · have := (H.out.lo _ ho).2; omega
  · have := (H.out.lo _ ho).2; omega
  · have := (H.out.loS _ ho).2; omega
  · have := (H.out.loS _ ho).2; omega

/-- A block of the call's own, apart from the store, is written. -/
theorem St.but {w0 w w' : World} {S O : Nat → Prop} {f : Value} {gs gc b : Nat} {m : Fs} {n : Int} (h : St w0 S O w f gs gc m n) (hw : w.grownBy w' (some b)) (hb : w0.heap.size ≤ b) (hO : ¬ O b) (hS : ¬ S b) (hu : ¬ IsU8 w b) (h1 : gs ≠ b) (h2 : gc ≠ b) (h3 : keptW b = none) : St w0 S O w' f gs gc m n :=
  ⟨h.one.grown hw hb hO hS hu, but_row hw h.row h1, but_row hw h.cnt h2, h.lo, h.out, fun k o hk => ⟨but_row hw (h.kp k o hk).1 (fun e => by rw [e, h3] at hk; cases hk), (h.kp k o hk).2⟩⟩
/-- read's second region: what the call (6), its parts (7, 8) and the new variable (10) have handed back. -/
structure RdJ (w0 w1 : World) (S O : Nat → Prop) (f : Value) (gs gc : Nat) (m m1 : Fs) (n : Int) (fx : Fi) (er : Int) (z6 z7 z8 z10 z11 : Option Value) (w : World) : Prop where
  base : St w0 S O w1 f gs gc m n
  pre : z6 = none → Ext w1 w
  post : ∀ u, z6 = some u → ∃ v O' R, u = .tuple #[fiV fx v, .int .i64 er] ∧ IsData R w v fx.data ∧ St w0 S O' w f gs gc m1 n ∧ KeepB w1 w ∧ ∀ b, w1.heap.size ≤ b → z10 = some (.pointer (some ⟨b, 0, none⟩)) → ¬ O' b
  n7 : z7 ≠ none → z7 = z6
  n8 : ∀ u, z8 = some u → ∃ q, z6 = some (.tuple #[u, q])
  bl : ∀ u, z10 = some u → ∃ b cs, u = .pointer (some ⟨b, 0, none⟩) ∧ w.heap[b]? = some (.cells cs 96 (0, 0)) ∧ cs.size = 3 ∧ w1.heap.size ≤ b
  fl : z11 ≠ none → ∃ v b, z8 = some (fiV fx v) ∧ z10 = some (.pointer (some ⟨b, 0, none⟩)) ∧ w.heap[b]? = some (.cells #[.int .i64 fx.mode, v, .int .i64 fx.time] 96 (0, 0))
section
variable {w0 w1 w w' : World} {S O : Nat → Prop} {f : Value} {gs gc : Nat} {m m1 : Fs} {n er : Int} {fx : Fi} {z6 z7 z8 z10 z11 : Option Value}
theorem RdJ.start (h : St w0 S O w1 f gs gc m n) (hx : Ext w1 w) : RdJ w0 w1 S O f gs gc m m1 n fx er none none none none none w :=
  ⟨h, fun _ => hx, fun u hu => (by cases hu), fun h => absurd rfl h, fun u hu => (by cases hu), fun u hu => (by cases hu), fun h => absurd rfl h⟩
theorem RdJ.st (h : RdJ w0 w1 S O f gs gc m m1 n fx er none z7 z8 z10 z11 w) : St w0 S O w f gs gc m n := h.base.more (h.pre rfl)
theorem RdJ.cell (h : RdJ w0 w1 S O f gs gc m m1 n fx er z6 z7 z8 z10 z11 w) : w.cell? ⟨gs, 0, none⟩ = some f := by
  cases hz : z6 with
  | none => rw [hz] at h; exact (cell_of_row _ _ 0 _ _ _ h.st.row).trans rfl
  | some u =>
    obtain ⟨v, O', R, -, -, hs, -⟩ := h.post u hz
    exact (cell_of_row _ _ 0 _ _ _ hs.row).trans rfl
theorem RdJ.low (h : RdJ w0 w1 S O f gs gc m m1 n fx er z6 z7 z8 z10 z11 w) (k : Nat) (hk : w1.heap.size ≤ k) : ¬ O k ∧ ¬ S k ∧ gs ≠ k ∧ gc ≠ k ∧ w0.heap.size ≤ k ∧ keptW k = none := by
  have h1 := h.base.lt
  have h2 := h.base.one.ext.size
  exact ⟨fun ho => by have := (h.base.one.lo _ ho).2; omega, fun ho => by have := (h.base.one.loS _ ho).2; omega, by omega, by omega, by omega, by
    cases hq : keptW k with
    | none => rfl
    | some o => have := (Array.getElem?_eq_some_iff.1 (h.base.kp k o hq).1).1; omega⟩
theorem RdJ.set10 (h : RdJ w0 w1 S O f gs gc m m1 n fx er z6 z7 z8 none z11 w) (cs : Array Value) (hc : cs.size = 3) : RdJ w0 w1 S O f gs gc m m1 n fx er z6 z7 z8 (some (.pointer (some ⟨w.heap.size, 0, none⟩))) z11 (w.alloc (.cells cs 96)) := by
  have hx : Ext w (w.alloc (.cells cs 96)) := (Ext.refl w).alloc _
  have hsz : w1.heap.size ≤ w.heap.size := by
    cases hz : z6 with
    | none => exact (h.pre hz).size
    | some u =>
      exact (h.post u hz).choose_spec.choose_spec.choose_spec.2.2.2.1.1
  refine ⟨h.base, fun hz => (h.pre hz).trans hx, fun u hu => ?_, h.n7, h.n8, fun u hu => ?_, fun h11 => (by obtain ⟨v, b, -, h10, -⟩ := h.fl h11; cases h10)⟩
  · obtain ⟨v, O', R, e, hd, hs, hz1, -⟩ := h.post u hu
    have hz2 := hx.size
    refine ⟨v, O', R, e, hd.ext hx, hs.more hx, hz1.trans (KeepB.of_ext hx), fun b hb he ho => ?_⟩
    cases he
    have := (hs.one.lo _ ho).2
    omega
  · cases hu
    exact ⟨_, cs, rfl, alloc_at _ _, hc, hsz⟩
theorem RdJ.set6 {v : Value} (h : RdJ w0 w1 S O f gs gc m m1 n fx er none z7 z8 z10 z11 w) (hp : FsPost S O (fun k => k < w.heap.size) w f m1 w') (hd : IsData (Nu w w') w' v fx.data) :
    RdJ w0 w1 S O f gs gc m m1 n fx er (some (.tuple #[fiV fx v, .int .i64 er])) z7 z8 z10 z11 w' := by
  have h7 : z7 = none := by
    cases hz : z7 with
    | none => rfl
    | some u => have := h.n7 (by rw [hz]; simp); rw [hz] at this; cases this
  have h8 : z8 = none := by
    cases hz : z8 with
    | none => rfl
    | some u => obtain ⟨q, hq⟩ := h.n8 u hz; cases hq
  subst h7; subst h8
  refine ⟨h.base, fun hz => (by cases hz), fun u hu => ?_, fun hz => absurd rfl hz, fun u hu => (by cases hu), fun u hu => ?_, fun h11 => (by obtain ⟨v, b, h8, -⟩ := h.fl h11; cases h8)⟩
  · cases hu
    refine ⟨v, _, _, rfl, hd, h.st.post hp, (KeepB.of_ext (h.pre rfl)).trans hp.fr.keep, fun b hb he ho => ?_⟩
    obtain ⟨b', cs, e, hrow, -, -⟩ := h.bl _ he
    cases e
    have hlt := (Array.getElem?_eq_some_iff.1 hrow).1
    rcases ho with ho | ho
    · exact (h.low _ hb).1 ho
    · omega
  · obtain ⟨b, cs, e, hrow, hc, hb⟩ := h.bl u hu
    exact ⟨b, cs, e, hp.fr.row hrow (h.low _ hb).1, hc, hb⟩
theorem RdJ.set7 {u : Value} (h : RdJ w0 w1 S O f gs gc m m1 n fx er z6 z7 z8 z10 z11 w) (hk : z6 = some u) : RdJ w0 w1 S O f gs gc m m1 n fx er z6 (some u) z8 z10 z11 w :=
  ⟨h.base, h.pre, h.post, fun _ => hk.symm, h.n8, h.bl, h.fl⟩
theorem RdJ.seven {u : Value} (h : RdJ w0 w1 S O f gs gc m m1 n fx er z6 z7 z8 z10 z11 w) (hk : z7 = some u) : ∃ v, u = .tuple #[fiV fx v, .int .i64 er] := by
  have h6 := h.n7 (by rw [hk]; simp)
  obtain ⟨v, O', R, e, -⟩ := h.post u (h6.symm.trans hk)
  exact ⟨v, e⟩
theorem RdJ.set8 {u q : Value} (h : RdJ w0 w1 S O f gs gc m m1 n fx er z6 z7 none z10 z11 w) (hk : z7 = some (.tuple #[u, q])) : RdJ w0 w1 S O f gs gc m m1 n fx er z6 z7 (some u) z10 z11 w :=
  ⟨h.base, h.pre, h.post, h.n7, fun x hx => (by cases hx; exact ⟨q, (h.n7 (by rw [hk]; simp)).symm.trans hk⟩), h.bl, fun h11 => (by obtain ⟨v, b, h8, -⟩ := h.fl h11; cases h8)⟩
theorem RdJ.mid {u8 u10 : Value} (h : RdJ w0 w1 S O f gs gc m m1 n fx er z6 z7 z8 z10 z11 w) (h8 : z8 = some u8) (h10 : z10 = some u10) : ∃ v b cs, u8 = fiV fx v ∧ u10 = .pointer (some ⟨b, 0, none⟩) ∧ w.heap[b]? = some (.cells cs 96 (0, 0)) ∧ cs.size = 3 ∧ v.oneCell' = true := by
  obtain ⟨q, hq⟩ := h.n8 _ h8
  obtain ⟨v, O', R, e, hd, -⟩ := h.post _ hq
  obtain ⟨b, cs, e10, hrow, hc, hb⟩ := h.bl _ h10
  simp only [Value.tuple.injEq, Array.mk.injEq, List.cons.injEq, and_true] at e
  obtain ⟨s1, t1, rfl, -⟩ := hd.bytes
  exact ⟨_, b, cs, e.1, e10, hrow, hc, rfl⟩
theorem RdJ.set11 {v x : Value} {b : Nat} {cs : Array Value} (h : RdJ w0 w1 S O f gs gc m m1 n fx er z6 z7 z8 z10 none w) (h8 : z8 = some (fiV fx v)) (h10 : z10 = some (.pointer (some ⟨b, 0, none⟩))) (hrow : w.heap[b]? = some (.cells cs 96 (0, 0)))
    (hg : w'.heap[b]? = some (.cells #[.int .i64 fx.mode, v, .int .i64 fx.time] 96 (0, 0))) (hw : w.grownBy w' (some b)) : RdJ w0 w1 S O f gs gc m m1 n fx er z6 z7 z8 z10 (some x) w' := by
  have hu : ¬ IsU8 w b := cells_u8 hrow (by kernel_rfl)
  have hs := hw.size
  obtain ⟨b', cs', e10, -, -, hb⟩ := h.bl _ h10
  cases e10
  have hl := h.low b hb
  refine ⟨h.base, fun hz => ?_, fun u hu6 => ?_, h.n7, h.n8, fun u hu10 => ?_, fun _ => ⟨v, b, h8, h10, hg⟩⟩
  · obtain ⟨q, hq⟩ := h.n8 _ h8
    rw [hz] at hq
    cases hq
  · obtain ⟨v', O', R, e, hd, hst, hz1, ho⟩ := h.post u hu6
    refine ⟨v', O', R, e, hd.keepR (grown_keepR hw hu), hst.but hw hl.2.2.2.2.1 (ho b hb h10) hl.2.1 hu hl.2.2.1 hl.2.2.2.1 hl.2.2.2.2.2, hz1.trans (KeepB.of_grown hw hrow (by kernel_rfl)), ho⟩
  · rw [h10] at hu10
    cases hu10
    exact ⟨b, _, rfl, hg, rfl, hb⟩
theorem RdJ.fin {u6 u7 u8 u10 u11 : Value} (h : RdJ w0 w1 S O f gs gc m m1 n fx er (some u6) (some u7) (some u8) (some u10) (some u11) w) : ∃ v O' b, u10 = .pointer (some ⟨b, 0, none⟩) ∧ KeepB w1 w ∧ (IsBytes w v fx.data ∧ TypB w v) ∧ St w0 S O' w f gs gc m1 n ∧ w.heap[b]? = some (.cells #[.int .i64 fx.mode, v, .int .i64 fx.time] 96 (0, 0)) := by
  obtain ⟨v', O', R, e, hd, hs, hk, -⟩ := h.post _ rfl
  obtain ⟨q, hq⟩ := h.n8 _ rfl
  obtain ⟨v, b, h8, h10, hrow⟩ := h.fl (by simp)
  cases h8
  cases h10
  cases hq
  simp only [Value.tuple.injEq, Array.mk.injEq, List.cons.injEq, and_true, fiV, Value.agg.injEq, true_and] at e
  obtain ⟨rfl, -⟩ := e
  exact ⟨_, O', b, rfl, hk, ⟨hd.bytes, hd.typed⟩, hs, hrow⟩
end
theorem size_file : (Tryz.prog.info? 96).map (·.size) = some 3 := by kernel_rfl
theorem rel_store_all {c : Prop} [Decidable c] {ev : Operand → Value} {R : Value → World → Prop} {o : Oper} {w : World} (ty : TypeId) (x y : Operand) {g : Nat} {vs : Array Value} {t : TypeId} {cur : Array Value} (hc : c) (ho : o.op = .store ty x y) (hx : ev x = .pointer (some ⟨g, 0, none⟩)) (hy : ev y = .agg vs)
    (h1 : ∀ v ∈ vs.toList, v.oneCell' = true) (hg : w.heap[g]? = some (.cells cur t (0, 0))) (hj : cur.size = vs.size) (hi : (Tryz.prog.info? ty).map (·.size) = some vs.size) (h : ∀ w', w'.heap[g]? = some (.cells vs t (0, 0)) → w.grownBy w' (some g) → R undef w') :
    if c then relUpon Tryz.prog R ((execOp ev o).run Tryz.prog w) else R undef w := by
  rw [if_pos hc]
  have hs := run_storeCells_at (P := Tryz.prog) g 0 t vs.toList 0 cur w hg (by simp [hj]) h1
  have hr : (storeVar ty ⟨g, 0, none⟩ (.agg vs)).run Tryz.prog w = .ok () (w.setRow g vs) := by
    cases hq : Tryz.prog.info? ty with
    | none => simp [hq] at hi
    | some i =>
      have hs1 : i.size = vs.size := by simpa [hq] using hi
      have hdr : cur.toList.drop vs.size = [] := List.drop_eq_nil_of_le (by simp [hj])
      simp only [Nat.add_zero, Array.length_toList, List.take_zero, List.nil_append, Nat.zero_add, hdr, List.append_nil, Array.toArray_toList] at hs
      simp [storeVar, sizeOf, typeInfo, hq, Value.cells, hs1, hs]
  unfold execOp
  simp only [ho, hx, hy, Instr.storeAt, Instr.sureAddr, Sem.run_bind, Sem.run_pure, Result.andThen_ok, hr]
  exact h _ (setRow_heap _ _ _ _ _ _ hg) (setRow_grown _ _ _)
set_option maxRecDepth 100000 in
set_option maxHeartbeats 2000000 in
theorem readT_any {w0 w : World} {S O : Nat → Prop} {f : Value} {gs gc : Nat} {m : Fs} {n : Int} {k : Nat} (id : B8) (h : St w0 S O w f gs gc m n) (hE : Env w0) (hg : Good k m) (hk : k ≤ 79900) (hn0 : 0 ≤ n) (hn1 : n ≤ 100000) (hid : id.length ≤ 100) :
    Calls Tryz.prog 119 #[.pointer (some ⟨gs, 0, none⟩), S8 id] w fun e w' => ∃ (v : Value) (O' : Nat → Prop), e = .returned (.tuple #[v, .int .i64 (readM m (placeO id)).2.2]) ∧ (IsBytes w' v (readM m (placeO id)).2.1.data ∧ TypB w' v) ∧ KeepB w w' ∧ St w0 S O' w' f gs gc (readM m (placeO id)).1 (n + 1) := by
  have H : Hid (St w0 S O w f gs gc m n) := h
  have HE : Hid (Env w0) := hE
  have HG : Hid (Good k m) := hg
  have hpl : (placeO id).length ≤ 400 := by unfold placeO; simp; omega
  have HPL : Hid _ := hpl
  obtain ⟨g, rfl⟩ : ∃ g, f = .pointer (some ⟨g, 0, none⟩) := by
    obtain ⟨g, gm, gd, vp, vl, vu, L, c0, hpe, -⟩ := h.one.fs
    exact ⟨g, hpe⟩
  have c1 : w.cell? ⟨gs, 1, none⟩ = some (.pointer (some ⟨gc, 0, none⟩)) := (cell_of_row _ _ 1 _ _ _ h.row).trans rfl
  obtain ⟨⟨m1, fx, er⟩, hr⟩ : ∃ q, readM m (placeO id) = q := ⟨_, rfl⟩
  have HR : Hid _ := hr
  rw [hr]
  clear h hE hg hpl hr
  go_enter Tryz.func119, Tryz.ntmps119
  go_wp2_with fail
  go_at_call 82
  refine (counterAdd_any H.out.cnt hn0 (by omega)).mono ?_
  rintro e w1 ⟨rfl, hc1, hw1⟩
  have H1 : Hid (St w0 S O w1 (.pointer (some ⟨g, 0, none⟩)) gs gc m (n + 1)) := St.count H.out hc1 hw1
  have d0 : w1.cell? ⟨gs, 0, none⟩ = some (.pointer (some ⟨g, 0, none⟩)) := (cell_of_row _ _ 0 _ _ _ H1.out.row).trans rfl
  have HK1 : Hid (KeepB w w1) := KeepB.of_grown hw1 H.out.cnt (by kernel_rfl)
  clear hc1 hw1 c1
  go_upto_region 2 with fail
  have hrd : ∀ w2, St w0 S O w2 (.pointer (some ⟨g, 0, none⟩)) gs gc m (n + 1) → Calls Tryz.prog 41 #[.pointer (some ⟨g, 0, none⟩), S8 (placeO id)] w2 fun e w' => (∃ v, e = .returned (.tuple #[fiV fx v, .int .i64 er]) ∧ IsData (Nu w2 w') w' v fx.data) ∧ FsPost S O (fun k => k < w2.heap.size) w2 (.pointer (some ⟨g, 0, none⟩)) m1 w' := fun w2 h2 => by
    have hq := read_any (placeO id) (One.fin h2.one HE.out HG.out (by omega)) HPL.out
    rw [HR.out] at hq
    exact hq
  have HRD : Hid _ := hrd
  clear hrd d0
  apply wp_region_inv 12 (fun z w' => RdJ w0 w1 S O (.pointer (some ⟨g, 0, none⟩)) gs gc m m1 (n + 1) fx er (z 6) (z 7) (z 8) (z 10) (z 11) w') [false, false, false, false, false, false, true, true, true, false, true, true] [_, _, _, .pointer (some ⟨g, 0, none⟩), _, S8 (placeO id), undef, undef, undef, .int .i64 er, undef, undef] [none, none, none, none, none, none, none, none, none, none, none, none] [[], [0], [1], [2], [], [4], [3, 5], [6], [7], [7], [], [8, 10]] (by kernel_rfl) (by kernel_rfl) rfl
  · exact RdJ.start H1.out ⟨rfl, rfl, rfl, Nat.le_refl _, fun _ _ => rfl⟩
  · simp (maxSteps := 1000000) only [oblI, stepI, knowsI, getP, mixP, List.getD_cons_zero, List.getD_cons_succ, Bool.false_eq_true, if_false, if_true, and_true, true_and, forall_const, Nat.zero_add, Nat.reduceAdd, List.take_succ_cons, List.take_zero, fillFrom, Act.put, List.setIfInBounds_toArray, List.set_cons_zero, List.set_cons_succ]
    refine ⟨?_, ?_, ?_, ?_, ?_, ?_, ?_, ?_, ?_, ?_, ?_, ?_⟩
    · intro xs z wq hj R hR
      have f0 := hj.cell
      go_simp
      exact hR _ _ hj rfl
    · intro xs z wq hj hk R hR
      have f0 := hj.cell
      go_simp
      exact hR _ _ hj rfl
    · intro xs z wq hj hk R hR
      have f0 := hj.cell
      go_simp
      exact hR _ _ hj rfl
    · intro xs z wq hj hk R hR
      have f0 := hj.cell
      go_simp
      exact hR _ _ hj rfl
    · intro xs z wq hj R hR
      have f0 := hj.cell
      go_simp
      exact hR _ _ hj rfl
    · intro xs z wq hj hk R hR
      go_simp
      exact (placeO_any id _ (by omega)).mono (by rintro e' w4 ⟨rfl, rfl⟩; exact ⟨_, rfl, hR _ _ hj rfl⟩)
    · intro xs z wq hj hz hk R hR
      obtain ⟨hk0, hk1⟩ := hk
      rw [hz] at hj
      go_simp
      exact (HRD.out _ hj.st).mono (by rintro e' w4 ⟨⟨v, rfl, hd⟩, hp⟩; exact ⟨_, rfl, hR _ _ (RdJ.set6 hj hp hd)⟩)
    · intro xs z wq hj hz hk R hR
      go_simp
      exact hR _ _ (RdJ.set7 hj hk)
    · intro xs z wq hj hz hk R hR
      rw [hz] at hj
      obtain ⟨v, hv⟩ := RdJ.seven hj hk
      rw [hv] at hk ⊢
      go_simp
      exact hR _ _ (RdJ.set8 hj hk)
    · intro xs z wq hj hk R hR
      obtain ⟨v, hv⟩ := RdJ.seven hj hk
      rw [hv]
      go_simp
      exact hR _ _ hj rfl
    · intro xs z wq hj hz R hR
      rw [hz] at hj
      go_simp
      exact hR _ _ (RdJ.set10 hj _ rfl)
    · intro xs z wq hj hz hk R hR
      obtain ⟨hk0, hk1⟩ := hk
      rw [hz] at hj
      obtain ⟨v, b, cs, e8, e10, hrow, hcs, h1v⟩ := RdJ.mid hj hk0 hk1
      rw [e8] at hk0
      rw [e10] at hk1
      apply rel_store_all 96 (.tmp 6) (.tmp 21) (g := b) (vs := #[.int .i64 fx.mode, v, .int .i64 fx.time]) (t := 96) (cur := cs)
      · rfl
      · rfl
      · exact e10
      · exact e8
      · intro u hu; simp at hu; rcases hu with rfl | rfl | rfl <;> first | exact h1v | rfl
      · exact hrow
      · exact hcs
      · exact size_file
      · intro w' hg hgr; exact hR _ _ (RdJ.set11 hj hk0 hk1 hrow hg hgr)
  intro xs w2 hj2 hk
  simp only [zAll, List.getD_cons_zero, List.getD_cons_succ, Bool.false_eq_true, if_false, if_true] at hj2
  simp only [heldI, Nat.zero_add, Nat.reduceAdd, and_true] at hk
  obtain ⟨q0, q1, q2, q3, q4, q5, q9⟩ := hk
  simp (maxSteps := 1000000) only [List.drop_succ_cons, List.drop_zero, Nat.zero_add, Nat.reduceAdd, List.take_succ_cons, List.take_zero, fillFrom, Act.put, List.setIfInBounds_toArray, List.set_cons_zero, List.set_cons_succ, q0, q1, q2, q3, q4, q5, q9]
  clear q0 q1 q2 q3 q4 q5 q9
  generalize xs 6 = x6 at *
  generalize xs 7 = x7 at *
  generalize xs 8 = x8 at *
  generalize xs 10 = x10 at *
  generalize xs 11 = x11 at *
  obtain ⟨v, O', b, e10, hk2, hd2, hs2, hrow2⟩ := RdJ.fin hj2
  have HK2 : Hid _ := HK1.out.trans hk2
  have HS2 : Hid _ := hs2
  have HD2 : Hid _ := hd2
  obtain ⟨c0, c1, c2⟩ := cellsAt3 hrow2
  clear hk2 hd2 hs2 hrow2
  subst e10
  go_wp2
  go_ret2
  exact ⟨_, _, rfl, HD2.out, HK2.out, HS2.out⟩

theorem readO_any {w0 w : World} {S O : Nat → Prop} {f : Value} {gs gc : Nat} {m : Fs} {n : Int} {k : Nat} (id : B8) (h : St w0 S O w f gs gc m n) (hE : Env w0) (hg : Good k m) (hk : k ≤ 79900) (hn0 : 0 ≤ n) (hn1 : n ≤ 100000) (hid : id.length ≤ 100) :
    Calls Tryz.prog 119 #[.pointer (some ⟨gs, 0, none⟩), S8 id] w fun e w' => ∃ (v : Value) (O' : Nat → Prop), e = .returned (.tuple #[v, .int .i64 (readM m (placeO id)).2.2]) ∧ IsBytes w' v (readM m (placeO id)).2.1.data ∧ KeepB w w' ∧ St w0 S O' w' f gs gc (readM m (placeO id)).1 (n + 1) := by
  refine (readT_any id h hE hg hk hn0 hn1 hid).mono ?_
  rintro e w' ⟨v, O', he, hd, hk, hs⟩
  exact ⟨v, O', he, hd.1, hk, hs⟩

end Go.Proofs.YtdhgmpibjneplaaGreatDoor

/-! marref5: without, with: lists of files in new blocks. Conditions: at most 10000000 files; short paths. -/
namespace Go.Proofs.YtdhgmpibjneplaaGreatDoor
open Go Go.RowKit

theorem Each.len {α : Type} {p : List Value → α → Prop} {css : List (List Value)} {xs : List α} (h : Each p css xs) {n : Nat} (hp : ∀ c x, p c x → c.length = n) : ∀ c ∈ css, c.length = n := fun c hc => by
  obtain ⟨i, hi, rfl⟩ := List.mem_iff_getElem.1 hc
  have hi2 : i < xs.length := by rw [← h.1]; exact hi
  exact hp _ _ (h.2 i css[i] xs[i] (List.getElem?_eq_getElem hi) (List.getElem?_eq_getElem hi2))
theorem Each.one {α : Type} {p : List Value → α → Prop} {css : List (List Value)} {xs : List α} (h : Each p css xs) (hp : ∀ c x, p c x → c.all (·.oneCell') = true) : ∀ u ∈ css.flatten, u.oneCell' = true := fun u hu => by
  obtain ⟨c, hc, hu⟩ := List.mem_flatten.1 hu
  obtain ⟨i, hi, rfl⟩ := List.mem_iff_getElem.1 hc
  have hi2 : i < xs.length := by rw [← h.1]; exact hi
  exact List.all_eq_true.1 (hp _ _ (h.2 i css[i] xs[i] (List.getElem?_eq_getElem hi) (List.getElem?_eq_getElem hi2))) u hu
theorem Each.take {α : Type} {p : List Value → α → Prop} {css : List (List Value)} {xs : List α} (h : Each p css xs) (k : Nat) : Each p (css.take k) (xs.take k) := by
  refine ⟨by simp [h.1], fun i c x hc hx => ?_⟩
  rw [List.getElem?_take] at hc hx
  split at hc
  · rename_i hi
    rw [if_pos hi] at hx
    exact h.2 i c x hc hx
  · cases hc
theorem Each.drop {α : Type} {p : List Value → α → Prop} {css : List (List Value)} {xs : List α} (h : Each p css xs) (k : Nat) : Each p (css.drop k) (xs.drop k) := by
  refine ⟨by simp [h.1], fun i c x hc hx => ?_⟩
  rw [List.getElem?_drop] at hc hx
  exact h.2 _ c x hc hx
theorem Each.append {α : Type} {p : List Value → α → Prop} {css ds : List (List Value)} {xs ys : List α} (h : Each p css xs) (k : Each p ds ys) : Each p (css ++ ds) (xs ++ ys) := by
  refine ⟨by simp [h.1, k.1], fun i c x hc hx => ?_⟩
  rw [List.getElem?_append] at hc hx
  by_cases hi : i < css.length
  · rw [if_pos hi] at hc
    rw [if_pos (by rw [← h.1]; exact hi)] at hx
    exact h.2 i c x hc hx
  · rw [if_neg hi] at hc
    rw [if_neg (by rw [← h.1]; exact hi)] at hx
    rw [← h.1] at hx
    exact k.2 _ c x hc hx
section
variable {ops : Array Oper} {rest : List Oper} {o : Oper} {a : Act} {Q : Exit → Act → World → Prop} {w : World}
end
end Go.Proofs.YtdhgmpibjneplaaGreatDoor

/-! marref5: with: a file put in its place, in a new list. Conditions: at most 10000000 files; short paths. -/
namespace Go.Proofs.YtdhgmpibjneplaaGreatDoor
open Go Go.RowKit

section
variable {w0 : World} {nA nC : Nat} {A rowc C : List Value} {z0 z4 z8 z9 z13 : Option Value} {w w' : World} {u : Value}
end

theorem less_ltB : ∀ a b : B8, Op.bytesLess a b = ltB a b
  | [], [] => by simp [Op.bytesLess, ltB]
  | _ :: _, [] => by simp [Op.bytesLess, ltB]
  | [], _ :: _ => by simp [Op.bytesLess, ltB]
  | a :: r, b :: s => by
    rw [Op.bytesLess, less_ltB r s]
    unfold ltB
    rw [Bool.eq_iff_iff]
    simp [List.cons_lt_cons_iff]
theorem Row.takeN {w : World} {a : Option Addr} {n k cap : Nat} {cs : List Value} (m : Nat) (h : Row w (.slice a n cap) n cs) (hk : k ≤ n) (hl : cs.length = n * m) : Row w (.slice a k cap) k (cs.take (k * m)) := by
  obtain ⟨a', cap', he, h1, h2, h3, h4⟩ := h
  simp only [Value.slice.injEq, true_and] at he
  obtain ⟨rfl, rfl⟩ := he
  refine ⟨a, cap, rfl, by omega, h2, by omega, fun hne => ?_⟩
  obtain ⟨b, o, ha, hc⟩ := h4 (by rintro rfl; simp at hne)
  refine ⟨b, o, ha, fun i u hu => hc i u ?_⟩
  rw [List.getElem?_take] at hu
  split at hu
  · exact hu
  · cases hu
/-- append, as an operation of a region. -/
theorem rel_append {c : Prop} [Decidable c] {ev : Operand → Value} {R : Value → World → Prop} {o : Oper} {w : World} (s x : Operand) (t : TypeId) {v xv v' : Value} {w' : World} (hw : c) (ho : o.op = .call { callee := .builtin .append, args := #[s, x], argTypes := #[t, t] }) 
    (hs : ev s = v) (hx : ev x = xv) (hr : (Builtin.append_ #[t, t] o.type #[v, xv]).run Tryz.prog w = .ok v' w') (h : R v' w') :
    if c then relUpon Tryz.prog R ((execOp ev o).run Tryz.prog w) else R undef w := by
  rw [if_pos hw]
  unfold execOp
  simp only [ho, resolve, invoke, builtin, Sem.run_bind, Sem.run_pure, Result.andThen_ok, List.map_toArray, List.map_cons, List.map_nil, hs, hx, hr]
  exact h

end Go.Proofs.YtdhgmpibjneplaaGreatDoor

/-! marref5.apply: a change of a list of files. Conditions: at most 10000000 files; short paths. -/
namespace Go.Proofs.YtdhgmpibjneplaaGreatDoor
open Go Go.RowKit

/-- What a change hands back: a new list, or the one that it was given. -/
def NewOr (w : World) (v v' : Value) : Prop := ∀ k, v'.ownBlock = some k → v.ownBlock = some k ∨ w.heap.size ≤ k
end Go.Proofs.YtdhgmpibjneplaaGreatDoor

/-! marref5.FS: change: a change is done. Conditions: at most 10000000 files, changes, ticks. -/
namespace Go.Proofs.YtdhgmpibjneplaaGreatDoor
open Go Go.RowKit
variable [Inhabited BaseW]

section
variable {ops : Array Oper} {rest : List Oper} {o : Oper} {a : Act} {Q : Exit → Act → World → Prop} {w : World}
end

/-- A change, in its cells: its kind, two paths, a file. -/
theorem IsOp.shape {R : Nat → Prop} {w : World} {cs : List Value} {c : Ch} (h : IsOp R w cs c) : ∃ (kind : Int) (p q : B8) (mode time : Int) (a : Option Addr) (n cap : Nat), cs = [.int .i64 kind, S8 p, S8 q, .int .i64 mode, .slice a n cap, .int .i64 time] ∧ ((kind = 1 ∧ ∃ f, c = .put q f ∧ p = [] ∧ f.mode = mode ∧ f.data.length = n ∧ f.time = time) ∨ (kind ≠ 1 ∧ ∀ t, c.at t = c)) := by
  cases c with
  | put p f =>
    obtain ⟨_, v, rfl, h3⟩ := h
    obtain ⟨a, cap, rfl, _⟩ := h3.bytes
    exact ⟨_, _, _, _, _, _, _, _, rfl, .inl ⟨rfl, f, rfl, rfl, rfl, rfl, rfl⟩⟩
  | mv s d => obtain ⟨_, _, rfl⟩ := h; exact ⟨_, _, _, _, _, _, _, _, rfl, .inr ⟨by omega, fun _ => rfl⟩⟩
  | del p => obtain ⟨_, rfl⟩ := h; exact ⟨_, _, _, _, _, _, _, _, rfl, .inr ⟨by omega, fun _ => rfl⟩⟩

theorem IsOp.ext {R : Nat → Prop} {w w' : World} {cs : List Value} {c : Ch} (h : IsOp R w cs c) (hx : Ext w w') : IsOp R w' cs c := h.keepR (KeepR.of_keep (KeepB.of_ext hx))
/-- A change with its stamp. -/
theorem IsOp.stamp {R : Nat → Prop} {w : World} {kind : Int} {p q : B8} {mode time t2 : Int} {a : Option Addr} {n cap : Nat} {c : Ch} {t : Nat} (h : IsOp R w [.int .i64 kind, S8 p, S8 q, .int .i64 mode, .slice a n cap, .int .i64 time] c)
    (hk : (kind = 1 ∧ ∃ f, c = .put q f ∧ p = [] ∧ f.mode = mode ∧ f.data.length = n ∧ f.time = time) ∨ (kind ≠ 1 ∧ ∀ t, c.at t = c)) (ht : t2 = if kind = 1 then (t : Int) else time) :
    IsOp R w [.int .i64 kind, S8 p, S8 q, .int .i64 mode, .slice a n cap, .int .i64 t2] (c.at t) := by
  rcases hk with ⟨rfl, f, rfl, rfl, rfl, rfl, rfl⟩ | ⟨hk, hat⟩
  · obtain ⟨h1, v, he, hd⟩ := h
    rw [if_pos rfl] at ht
    subst ht
    simp only [List.cons.injEq, true_and, and_true] at he
    exact ⟨h1, _, rfl, he ▸ hd⟩
  · rw [if_neg hk] at ht
    rw [hat, ht]
    exact h

end Go.Proofs.YtdhgmpibjneplaaGreatDoor

/-! marref1.Under: what it answers. Conditions: texts of at most 10000000 signs. -/
namespace Go.Proofs.YtdhgmpibjneplaaGreatDoor
open Go Go.RowKit

theorem cut_snoc (c : UInt8) : ∀ l : B8, cut c (l ++ [c]) = cut c l ++ [[]]
  | [] => by simp [cut]
  | x :: l => by
    have ih := cut_snoc c l
    rw [List.cons_append, cut, cut]
    split
    · rw [ih]; rfl
    · rw [ih]
      cases hc : cut c l with
      | nil => exact absurd hc (cut_ne c l)
      | cons h t => rfl
theorem path_end {l : B8} (h : pathB (l ++ [47]) = true) : False := by
  unfold pathB at h
  simp only [Bool.and_eq_true, List.all_eq_true] at h
  have := h.2.1 [] (by rw [cut_snoc]; simp)
  revert this; decide
theorem under_eq {d s : B8} (hs : pathB s = true) : isUnder d s = true ↔ d.length + 1 < s.length ∧ s.take d.length = d ∧ s[d.length]? = some 47 := by
  unfold isUnder
  rw [List.isPrefixOf_iff_prefix]
  constructor
  · rintro ⟨t, rfl⟩
    have ht : t ≠ [] := by
      rintro rfl
      rw [List.append_nil] at hs
      exact path_end hs
    have h1 := List.length_pos_iff.2 ht
    refine ⟨by simp; omega, by simp, by simp⟩
  · rintro ⟨h1, h2, h3⟩
    refine ⟨s.drop (d.length + 1), ?_⟩
    have e := List.take_append_drop (d.length + 1) s
    rw [List.take_add_one, h2, h3] at e
    exact e

set_option maxRecDepth 100000 in
set_option maxHeartbeats 1000000 in
theorem runder_any (d s : B8) (w : World) (hd : d.length ≤ 10000000) (hs : s.length ≤ 10000000) :
    Calls Tryz.prog 29 #[S8 d, S8 s] w fun e w' => e = .returned (.bool (pathB d && (pathB s && isUnder d s))) ∧ Ext w w' := by
  have hts : (⟨s.toArray⟩ : ByteArray).toList = s := Lib.toList_data _
  have htd : (⟨d.toArray⟩ : ByteArray).toList = d := Lib.toList_data _
  go_enter Tryz.func29, Tryz.ntmps29
  go_wp2_with fail
  go_at_call 56
  refine (rpath_any d _ hd).mono ?_
  rintro e w1 ⟨rfl, hx1⟩
  cases hp1 : pathB d
  · have HP1 : Hid _ := hp1
    clear hp1
    go_wp2
    go_ret
    exact ⟨ret_b (by rw [HP1.out]; rfl), hx1⟩
  have HP1 : Hid _ := hp1
  clear hp1
  go_wp2_with fail
  go_at_call 56
  refine (rpath_any s _ hs).mono ?_
  rintro e w2 ⟨rfl, hx2⟩
  cases hp2 : pathB s
  · have HP2 : Hid _ := hp2
    clear hp2
    go_wp2
    go_ret
    exact ⟨ret_b (by rw [HP1.out, HP2.out]; rfl), hx1.trans hx2⟩
  have HP2 : Hid _ := hp2
  have HU : Hid _ := @under_eq d s hp2
  clear hp2
  by_cases h1 : d.length + 1 < s.length
  · have h1i : (d.length : Int) + 1 < (s.length : Int) := by omega
    have hidx : d.length < s.length := by omega
    have hex : ((⟨s.toArray⟩ : ByteArray).extract 0 d.length).toList = s.take d.length := by
      rw [extract_list ⟨s.toArray⟩ 0 d.length (Nat.zero_le _) (by show d.length ≤ s.length; omega)]
      simp [Lib.toList_data]
    have hget : (⟨s.toArray⟩ : ByteArray)[d.length]'(by show d.length < s.length; exact hidx) = s[d.length] := rfl
    obtain ⟨bq, hbq⟩ : ∃ bq, (((⟨s.toArray⟩ : ByteArray).extract 0 d.length).toList == d) = bq := ⟨_, rfl⟩
    have HB : Hid ((s.take d.length == d) = bq) := by unfold Hid; rw [← hex]; exact hbq
    have HG : Hid _ := hget
    clear hex hget
    cases bq with
    | true =>
      go_wp2
      go_ret
      refine ⟨ret_b ?_, hx1.trans hx2⟩
      rw [HP1.out, HP2.out, Bool.true_and, Bool.true_and]
      have h2 : s.take d.length = d := by simpa using HB.out
      rw [Bool.eq_iff_iff, HU.out, HG.out]
      constructor
      · intro h3
        have h4 : s[d.length].toNat = 47 := by have := beq_iff_eq.1 h3; omega
        refine ⟨h1, h2, ?_⟩
        rw [List.getElem?_eq_getElem hidx]
        exact congrArg some (UInt8.toNat_inj.1 h4)
      · rintro ⟨_, _, h3⟩
        rw [List.getElem?_eq_getElem hidx] at h3
        rw [Option.some.inj h3]
        rfl
    | false =>
      have HF : Hid (isUnder d s = false) := by
        unfold Hid
        cases hu : isUnder d s with
        | false => rfl
        | true =>
          have := HB.out
          rw [(HU.out.1 hu).2.1] at this
          simp at this
      go_wp2
      go_ret
      exact ⟨ret_b (by rw [HP1.out, HP2.out, HF.out]; rfl), hx1.trans hx2⟩
  · have h1i : ¬ (d.length : Int) + 1 < (s.length : Int) := by omega
    have HF : Hid (isUnder d s = false) := by
      unfold Hid
      cases hu : isUnder d s with
      | false => rfl
      | true => exact absurd (HU.out.1 hu).1 h1
    go_wp2
    go_ret
    exact ⟨ret_b (by rw [HP1.out, HP2.out, HF.out]; rfl), hx1.trans hx2⟩

end Go.Proofs.YtdhgmpibjneplaaGreatDoor

/-! marref5.may: may a file stand at a path? Conditions: all paths may be. -/
namespace Go.Proofs.YtdhgmpibjneplaaGreatDoor
open Go Go.RowKit

end Go.Proofs.YtdhgmpibjneplaaGreatDoor

/-! marref5.FS: safe, drop. Conditions: at most 9000000 ticks; short paths. -/
namespace Go.Proofs.YtdhgmpibjneplaaGreatDoor
open Go Go.RowKit
variable [Inhabited BaseW]

section
variable {ops : Array Oper} {rest : List Oper} {o : Oper} {a : Act} {Q : Exit → Act → World → Prop} {w : World}
end
end Go.Proofs.YtdhgmpibjneplaaGreatDoor

/-! marref.CopyBytes; marref5.FS: put. Conditions: at most 8000000 ticks; short paths. -/
namespace Go.Proofs.YtdhgmpibjneplaaGreatDoor
open Go Go.RowKit
variable [Inhabited BaseW]

def putRM (m : Fs) (path : B8) (mode : Int) (data : B8) (only full : Bool) (room : Int) : Fs × Int :=
  if wrongE path mode data ≠ 0 then (m, wrongE path mode data) else if only = true ∧ (look m.now path).isSome then (m, 8)
  else putsM m path mode data (!full && decide ((data.length : Int) ≤ room - usedF m.now + oldLen m.now path))

end Go.Proofs.YtdhgmpibjneplaaGreatDoor

/-! marref5.FS: Crash. Conditions: at most 8000000 ticks. -/
namespace Go.Proofs.YtdhgmpibjneplaaGreatDoor
open Go Go.RowKit
variable [Inhabited BaseW]

theorem NewOr.inn {O : Nat → Prop} {w w' : World} {v v' : Value} (h : NewOr w v v') (hi : Inn O v) (hl : ∀ k, v'.ownBlock = some k → k < w'.heap.size) : Inn (Nw O w w') v' := fun k hk => (h k hk).imp (hi k) (fun h1 => ⟨h1, hl k hk⟩)
end Go.Proofs.YtdhgmpibjneplaaGreatDoor

/-! marref5.FS: UserWrite, UserRemove. Conditions: at most 7000000 ticks; short paths. -/
namespace Go.Proofs.YtdhgmpibjneplaaGreatDoor
open Go Go.RowKit
variable [Inhabited BaseW]

section
variable {ops : Array Oper} {rest : List Oper} {o : Oper} {a : Act} {Q : Exit → Act → World → Prop} {w : World}
end

end Go.Proofs.YtdhgmpibjneplaaGreatDoor

/-! marref5.FS: begin: a call begins. Conditions: at most 6000000 ticks; a plan that is few. -/
namespace Go.Proofs.YtdhgmpibjneplaaGreatDoor
open Go Go.RowKit
variable [Inhabited BaseW]

end Go.Proofs.YtdhgmpibjneplaaGreatDoor

/-! marref5.FS: Create, Write, Remove, Sync. Conditions: what holds of a file system at all times; short paths. -/
namespace Go.Proofs.YtdhgmpibjneplaaGreatDoor
open Go Go.RowKit
variable [Inhabited BaseW]

end Go.Proofs.YtdhgmpibjneplaaGreatDoor

/-! marref5.FS: move, Move, MoveNew. Conditions: what holds of a file system at all times; short paths. -/
namespace Go.Proofs.YtdhgmpibjneplaaGreatDoor
open Go Go.RowKit
variable [Inhabited BaseW]

end Go.Proofs.YtdhgmpibjneplaaGreatDoor

/-! marref5.FS: Peek, Paths, Read, List. Conditions: what holds of a file system at all times; short paths. -/
namespace Go.Proofs.YtdhgmpibjneplaaGreatDoor
open Go Go.RowKit
variable [Inhabited BaseW]

end Go.Proofs.YtdhgmpibjneplaaGreatDoor

/-! marref5.FS: List, New, Plan, User, and what each tells of itself. Conditions: what holds of a file system at all times; short paths. -/
namespace Go.Proofs.YtdhgmpibjneplaaGreatDoor
open Go Go.RowKit
variable [Inhabited BaseW]

def inDir (dir q : B8) : Bool := dir == [] || isUnder dir q
end Go.Proofs.YtdhgmpibjneplaaGreatDoor

/-! marref5.FS: New, Plan, User, and what each tells of itself. Conditions: what holds of a file system at all times. -/
namespace Go.Proofs.YtdhgmpibjneplaaGreatDoor
open Go Go.RowKit
variable [Inhabited BaseW]

section
variable {O R : Nat → Prop} {w : World} {p : Value} {m : Fs}
end

end Go.Proofs.YtdhgmpibjneplaaGreatDoor

/-! marref5.FS: User. Conditions: at most 10000000 events. -/
namespace Go.Proofs.YtdhgmpibjneplaaGreatDoor
open Go Go.RowKit
variable [Inhabited BaseW]

section
variable {ops : Array Oper} {rest : List Oper} {o : Oper} {a : Act} {Q : Exit → Act → World → Prop} {w : World}
end

end Go.Proofs.YtdhgmpibjneplaaGreatDoor

/-! marref: Bytes, Texts, Has; marlaw5: flag, file. Conditions: at most 10000000 texts. -/
namespace Go.Proofs.YtdhgmpibjneplaaGreatDoor
open Go Go.RowKit

def FilePost (f g : Fi) (w : World) (e : Ending) (w' : World) : Prop := (∃ r : Bool, e = .returned (.bool r) ∧ (f = g → r = true)) ∧ Ext w w'
end Go.Proofs.YtdhgmpibjneplaaGreatDoor

/-! store: Put. Conditions: as each theorem states. -/
namespace Go.Proofs.YtdhgmpibjneplaaGreatDoor
open Go Go.RowKit
set_option linter.unusedVariables false
set_option linter.unusedSimpArgs false
set_option linter.unusedSectionVars false

theorem bytesEqual_any (a b : Value) (la lb : B8) (w : World) (ha : IsBytes w a la) (hb : IsBytes w b lb) :
    Calls Tryz.prog 120 #[a, b] w fun e w' => e = .returned (.bool (la == lb)) ∧ w' = w := by
  have h1 := conv_bytes ha
  have h2 := conv_bytes hb
  have t1 := tl la
  have t2 := tl lb
  obtain ⟨a1, c1, rfl, -⟩ := ha
  obtain ⟨a2, c2, rfl, -⟩ := hb
  obtain ⟨bq, hbq⟩ : ∃ bq, (la == lb) = bq := ⟨_, rfl⟩
  rw [hbq]
  go_enter Tryz.func120, Tryz.ntmps120
  go_wp2
  go_ret
  exact ⟨by first | rfl | exact ret_b (by assumption), rfl⟩
theorem old_out {O : Nat → Prop} {w0 w : World} {v : Value} {l : B8} (h : IsBytes w0 v l) (hO : ∀ k, O k → w0.heap.size ≤ k) : Out O w v := by
  obtain ⟨a, cap, rfl, h1, h2, h3, h4⟩ := h
  intro a' n c he hn
  cases he
  refine .inl fun ho => ?_
  cases hl : l with
  | nil => rw [hl] at hn; exact hn rfl
  | cons x r =>
    obtain ⟨b, o, e, hc⟩ := h4 (by rw [hl]; simp)
    cases e
    have := World.block_lt_of_cell? _ _ (hc 0 (.int .u8 x.toNat) (by rw [hl]; rfl))
    have h9 := hO _ ho
    simp only at this h9
    omega
/-- Bytes that a call is handed: old ones, or typed ones. -/
def Arg (w0 w : World) (v : Value) (b : B8) : Prop := IsBytes w0 v b ∨ IsBytes w v b ∧ TypB w v
theorem Arg.keep {w0 w w' : World} {v : Value} {b : B8} (h : Arg w0 w v b) (hk : KeepB w w') : Arg w0 w' v b := by
  rcases h with h | ⟨h1, h2⟩
  · exact .inl h
  · exact .inr ⟨Row.keepB h1 h2 hk, h2.keep hk⟩
theorem Arg.bytes {w0 w : World} {v : Value} {b : B8} (h : Arg w0 w v b) (hx : Ext w0 w) : IsBytes w v b := by
  rcases h with h | h
  · exact IsBytes.ext h hx
  · exact h.1
theorem Arg.out {O : Nat → Prop} {w0 w : World} {v : Value} {b : B8} (h : Arg w0 w v b) (hO : ∀ k, O k → w0.heap.size ≤ k) : Out O w v := by
  rcases h with h | h
  · exact old_out h hO
  · exact fun a n c he _ => .inr (h.2 a n c he)
variable [Inhabited BaseW] [KW : Inhabited KeptW]
set_option maxRecDepth 100000 in
set_option maxHeartbeats 4000000 in
theorem storePut_any {w0 w : World} {S O : Nat → Prop} {f : Value} {gs gc : Nat} {m : Fs} {n : Int} {k : Nat} (v : Value) (b : B8) (h : St w0 S O w f gs gc m n) (hE : Env w0) (hS : EnvS w0) (hg : Good k m) (hk : k ≤ 79800) (hn0 : 0 ≤ n) (hn1 : n ≤ 100000) (hv : Arg w0 w v b) (hb : b.length ≤ 140737488355328) :
    Calls Tryz.prog 72 #[.pointer (some ⟨gs, 0, none⟩), v] w fun e w' => ∃ (O' : Nat → Prop) (n' : Int), e = .returned (.tuple #[S8 (putO m b).2.1, .int .i64 (putO m b).2.2]) ∧ (n ≤ n' ∧ n' ≤ n + 1) ∧ St w0 S O' w' f gs gc (putO m b).1 n' := by
  have H : Hid (St w0 S O w f gs gc m n) := h
  have HE : Hid (Env w0) := hE
  have HS : Hid (EnvS w0) := hS
  have HG : Hid (Good k m) := hg
  have HA : Hid (Arg w0 w v b) := hv
  have hsl : (shaM b).length ≤ 100 := by rw [sha_len]; omega
  have hpl : (placeO (shaM b)).length ≤ 400 := by unfold placeO; simp; omega
  obtain ⟨g, rfl⟩ : ∃ g, f = .pointer (some ⟨g, 0, none⟩) := by
    obtain ⟨g, gm, gd, vp, vl, vu, L, c0, hpe, -⟩ := h.one.fs
    exact ⟨g, hpe⟩
  obtain ⟨s0, t0, rfl, -⟩ := id (hv.bytes h.one.ext)
  clear h hE hS hg hv
  go_enter Tryz.func72, Tryz.ntmps72
  by_cases hl : 20000 < b.length
  case pos =>
    have hl1 : decide ((20000 : Int) < (b.length : Int)) = true := decide_eq_true (by omega)
    have q : putO m b = (m, [], 3) := by unfold putO; rw [if_pos hl]
    have Q : Hid _ := q
    clear q
    go_wp2
    go_ret2
    rw [Q.out]
    exact ⟨_, _, rfl, ⟨by omega, by omega⟩, H.out⟩
  have hl1 : decide ((20000 : Int) < (b.length : Int)) = false := decide_eq_false (by omega)
  go_wp2_with fail
  go_at_call 117
  refine (newLazy_any _ b w (HA.out.bytes H.out.one.ext) (by omega)).mono ?_
  rintro e w1 ⟨⟨u1, rfl, hz1⟩, hx1⟩
  have HZ1 : Hid _ := hz1
  have HX1 : Hid _ := hx1
  have hw2 : 3 ≤ w.heap.size := by have := H.out.one.ext.size; have := HS.out.two; omega
  clear hz1 hx1
  go_wp2_with fail
  go_at_call 118
  refine (lazyID_any w w1 b u1 (EnvS.ext HS.out (H.out.one.ext.trans HX1.out)) hw2 HX1.out HZ1.out (by omega)).mono ?_
  rintro e w2 ⟨rfl, hx2⟩
  have H2 : Hid (St w0 S O w2 (.pointer (some ⟨g, 0, none⟩)) gs gc m n) := St.more H.out hx2
  have HA2 : Hid (Arg w0 w2 (.slice s0 b.length t0) b) := Arg.keep HA.out (KeepB.of_ext hx2)
  clear hx2 HZ1 HX1 H
  go_wp2_with fail
  go_at_call 119
  obtain ⟨⟨m1, fx, er⟩, hr⟩ : ∃ q, readM m (placeO (shaM b)) = q := ⟨_, rfl⟩
  have HR : Hid _ := hr
  have hrd := readO_any (shaM b) H2.out HE.out HG.out (by omega) hn0 hn1 hsl
  rw [hr] at hrd
  refine hrd.mono ?_
  rintro e w3 ⟨v3, O3, rfl, hd3, hk3, h3⟩
  have HA3 : Hid (Arg w0 w3 (.slice s0 b.length t0) b) := Arg.keep HA2.out hk3
  clear hk3
  obtain ⟨n', hn'⟩ : ∃ n', n + 1 = n' := ⟨_, rfl⟩
  have HN : Hid (n ≤ n' ∧ n' ≤ n + 1) := ⟨by omega, by omega⟩
  rw [hn'] at h3
  have H3 : Hid (St w0 S O3 w3 (.pointer (some ⟨g, 0, none⟩)) gs gc m1 n') := h3
  have HD3 : Hid (IsBytes w3 v3 fx.data) := hd3
  clear hr hrd hd3 h3 H2
  try dsimp only
  by_cases her : er = 0
  case pos =>
    subst her
    by_cases hq : fx.data = b
    case pos =>
      have hqb : (fx.data == b) = true := by simpa using hq
      have q : putO m b = (m1, shaM b, 0) := by
        unfold putO
        rw [if_neg hl, HR.out, if_pos ⟨rfl, hq⟩]
      have Q : Hid _ := q
      clear q hq
      go_wp2_with fail
      go_at_call 120
      refine (bytesEqual_any _ _ _ _ _ HD3.out (HA3.out.bytes H3.out.one.ext)).mono ?_
      rintro e w4 ⟨rfl, rfl⟩
      rw [hqb]
      go_wp2
      go_ret2
      rw [Q.out]
      exact ⟨_, _, rfl, HN.out, H3.out⟩
    have hqb : (fx.data == b) = false := by simpa using hq
    go_wp2_with fail
    go_at_call 120
    refine (bytesEqual_any _ _ _ _ _ HD3.out (HA3.out.bytes H3.out.one.ext)).mono ?_
    rintro e w4 ⟨rfl, rfl⟩
    rw [hqb]
    go_wp2_with fail
    have hdl : fx.data.length ≤ 10000000 := by have := read_len (p := placeO (shaM b)) HG.out.ok HG.out.plan; rw [HR.out] at this; simp only at this; omega
    go_at_call 117
    refine (newLazy_any _ fx.data w4 HD3.out hdl).mono ?_
    rintro e w5 ⟨⟨u5, rfl, hz5⟩, hx5⟩
    have HZ5 : Hid _ := hz5
    have HX5 : Hid _ := hx5
    have hw5 : 3 ≤ w4.heap.size := by have := H3.out.one.ext.size; have := env_ltR HE.out; have := HS.out.two; omega
    clear hz5 hx5
    go_wp2_with fail
    go_at_call 118
    refine (lazyID_any w4 w5 fx.data u5 (EnvS.ext HS.out (H3.out.one.ext.trans HX5.out)) hw5 HX5.out HZ5.out hdl).mono ?_
    rintro e w6 ⟨rfl, hx6⟩
    have H6 : Hid (St w0 S O3 w6 (.pointer (some ⟨g, 0, none⟩)) gs gc m1 n') := St.more H3.out hx6
    have HA6 : Hid (Arg w0 w6 (.slice s0 b.length t0) b) := Arg.keep HA3.out (KeepB.of_ext hx6)
    clear hx6 HZ5 HX5 H3 HD3 HA3
    have HA3 : Hid (Arg w0 w6 (.slice s0 b.length t0) b) := HA6.out
    clear HA6
    have t1 := tl (shaM b)
    have t2 := tl (shaM fx.data)
    by_cases hs5 : shaM fx.data = shaM b
    case pos =>
      have hsb : (shaM fx.data == shaM b) = true := by simpa using hs5
      have q : putO m b = (m1, [], 5) := by
        unfold putO
        rw [if_neg hl, HR.out, if_neg (fun h => hq h.2), if_pos ⟨rfl, hs5⟩]
      have Q : Hid _ := q
      clear q hs5 hq
      go_wp2
      go_ret2
      rw [Q.out]
      exact ⟨_, _, rfl, HN.out, H6.out⟩
    have hsb : (shaM fx.data == shaM b) = false := by simpa using hs5
    have HPUT : Hid (putO m b = putEnd (writeM m1 tempP 1 b) (shaM b)) := by
      unfold Hid putO
      rw [if_neg hl, HR.out, if_neg (fun h => hq h.2), if_neg (fun h => hs5 h.2), if_neg (fun h => h.1 rfl)]
    have H3 : Hid (St w0 S O3 w6 (.pointer (some ⟨g, 0, none⟩)) gs gc m1 n') := H6
    clear H6 hq hs5
    have HG1 : Hid (Good (k + 1) m1) := by have := good_read HG.out (placeO (shaM b)); rw [HR.out] at this; exact this
    clear HR
    have d1 : w6.cell? ⟨gs, 0, none⟩ = some (.pointer (some ⟨g, 0, none⟩)) := (cell_of_row _ _ 0 _ _ _ H3.out.row).trans rfl
    go_wp2_with fail
    go_at_call 121
    refine (write_any tempP 1 _ b (One.fin H3.out.one HE.out HG1.out (by omega)) (by decide) (HA3.out.bytes H3.out.one.ext) (HA3.out.out (fun k hk => (H3.out.one.lo k hk).1))).mono ?_
    rintro e w7 ⟨rfl, hp4⟩
    have h4 := St.post H3.out hp4
    obtain ⟨⟨m2, e2⟩, hq2⟩ : ∃ q, writeM m1 tempP 1 b = q := ⟨_, rfl⟩
    have hput := HPUT.out
    rw [hq2] at h4 hput ⊢
    have HG2 : Hid (Good (k + 2) m2) := by have := good_write HG1.out tempP 1 b; rw [hq2] at this; exact this
    have H4 : Hid (St w0 S _ w7 (.pointer (some ⟨g, 0, none⟩)) gs gc m2 n') := h4
    clear hp4 hq2 h4 HPUT H3
    try dsimp only
    by_cases h5 : e2 = 0
    case neg =>
      have h5n : (e2 == 0) = false := by simpa using h5
      have h5m : (e2 != 0) = true := by simpa using h5
      have q : putO m b = (m2, [], e2) := hput.trans (by unfold putEnd; rw [if_pos h5])
      have Q : Hid _ := q
      clear q hput h5
      go_wp2
      go_ret2
      rw [Q.out]
      exact ⟨_, _, rfl, HN.out, H4.out⟩
    subst h5
    have d0 : w7.cell? ⟨gs, 0, none⟩ = some (.pointer (some ⟨g, 0, none⟩)) := (cell_of_row _ _ 0 _ _ _ H4.out.row).trans rfl
    have HPUT : Hid _ := hput
    clear hput
    go_upto_region 14 with fail
    apply wp_region_mix 6 [_, _, _, .pointer (some ⟨g, 0, none⟩), _, S8 (placeO (shaM b))] [none, none, none, none, none, none] [[], [0], [1], [2], [], [4]] (by kernel_rfl) (by kernel_rfl) (by simp [mixV])
    · trivial
    · simp (maxSteps := 1000000) only [List.take_succ_cons, List.take_zero, oblFrom, stepObl, fillFrom, Act.put, List.setIfInBounds_toArray, List.set_cons_zero, List.set_cons_succ, knows, getV, mixV, List.getD_cons_zero, List.getD_cons_succ, and_true, true_and, forall_const]
      refine ⟨?_, ?_, ?_, ?_, ?_, ?_⟩
      · intro xs wq hq R hR
        have f0 := hq.cell d0
        go_simp
        exact hR _ _ (Ext.refl _) rfl
      · intro xs wq hq hk R hR
        have f0 := hq.cell d0
        go_simp
        exact hR _ _ (Ext.refl _) rfl
      · intro xs wq hq hk R hR
        have f0 := hq.cell d0
        go_simp
        exact hR _ _ (Ext.refl _) rfl
      · intro xs wq hq hk R hR
        have f0 := hq.cell d0
        go_simp
        exact hR _ _ (Ext.refl _) rfl
      · intro xs wq hq R hR
        have f0 := hq.cell d0
        go_simp
        exact hR _ _ (Ext.refl _) rfl
      · intro xs wq hq hk R hR
        go_simp
        exact (placeO_any (shaM b) _ (by omega)).mono (by rintro e' w7 ⟨rfl, rfl⟩; exact ⟨_, rfl, hR _ _ (Ext.refl _) rfl⟩)
    intro xs w8 hx5 hk
    simp only [heldV, Nat.zero_add, Nat.reduceAdd, and_true] at hk
    obtain ⟨q0, q1, q2, q3, q4, q5⟩ := hk
    simp (maxSteps := 1000000) only [List.take_succ_cons, List.take_zero, List.drop_succ_cons, List.drop_zero, fillFrom, Act.put, List.setIfInBounds_toArray, List.set_cons_zero, List.set_cons_succ, Nat.zero_add, Nat.reduceAdd, q0, q1, q2, q3, q4, q5]
    clear q0 q1 q2 q3 q4 q5
    have H5 : Hid (St w0 S _ w8 (.pointer (some ⟨g, 0, none⟩)) gs gc m2 n') := St.more H4.out hx5
    clear hx5 d0 H4
    go_wp2_with fail
    go_at_call 122
    refine (move_any tempP (placeO (shaM b)) (One.fin H5.out.one HE.out HG2.out (by omega)) (by decide) (by omega)).mono ?_
    rintro e w9 ⟨rfl, hp6⟩
    have h6 := St.post H5.out hp6
    obtain ⟨⟨m3, e3⟩, hq3⟩ : ∃ q, moveM m2 tempP (placeO (shaM b)) false = q := ⟨_, rfl⟩
    have hput := HPUT.out
    unfold putEnd at hput
    rw [if_neg (by simp)] at hput
    simp only [] at hput
    rw [hq3] at h6 hput ⊢
    have H6 : Hid (St w0 S _ w9 (.pointer (some ⟨g, 0, none⟩)) gs gc m3 n') := h6
    clear hp6 hq3 h6 HPUT H5
    try dsimp only
    by_cases h5 : e3 = 0
    case neg =>
      have h5n : (e3 == 0) = false := by simpa using h5
      have h5m : (e3 != 0) = true := by simpa using h5
      have q : putO m b = (m3, [], e3) := hput.trans (by rw [if_pos h5])
      have Q : Hid _ := q
      clear q hput h5
      go_wp2
      go_ret2
      rw [Q.out]
      exact ⟨_, _, rfl, HN.out, H6.out⟩
    subst h5
    have q : putO m b = (m3, shaM b, 0) := hput.trans (by rw [if_neg (by simp)])
    have Q : Hid _ := q
    clear q hput
    go_wp2
    go_ret2
    rw [Q.out]
    exact ⟨_, _, rfl, HN.out, H6.out⟩
  have her0 : (er == 0) = false := by simpa using her
  have her1 : (er != 0) = true := by simpa using her
  by_cases h7 : er = 7
  case neg =>
    have h71 : (er != 7) = true := by simpa using h7
    have h70 : (er == 7) = false := by simpa using h7
    have q : putO m b = (m1, [], er) := by
      unfold putO
      rw [if_neg hl, HR.out, if_neg (fun h => her h.1), if_neg (fun h => her h.1), if_pos ⟨her, h7⟩]
    have Q : Hid _ := q
    clear q
    go_wp2
    go_ret2
    rw [Q.out]
    exact ⟨_, _, rfl, HN.out, H3.out⟩
  subst h7
  have HPUT : Hid (putO m b = putEnd (writeM m1 tempP 1 b) (shaM b)) := by
    unfold Hid putO
    rw [if_neg hl, HR.out, if_neg (fun h => her h.1), if_neg (fun h => her h.1), if_neg (fun h => h.2 rfl)]
  have HG1 : Hid (Good (k + 1) m1) := by have := good_read HG.out (placeO (shaM b)); rw [HR.out] at this; exact this
  clear HR
  have d1 : w3.cell? ⟨gs, 0, none⟩ = some (.pointer (some ⟨g, 0, none⟩)) := (cell_of_row _ _ 0 _ _ _ H3.out.row).trans rfl
  go_wp2_with fail
  go_at_call 121
  refine (write_any tempP 1 _ b (One.fin H3.out.one HE.out HG1.out (by omega)) (by decide) (HA3.out.bytes H3.out.one.ext) (HA3.out.out (fun k hk => (H3.out.one.lo k hk).1))).mono ?_
  rintro e w4 ⟨rfl, hp4⟩
  have h4 := St.post H3.out hp4
  obtain ⟨⟨m2, e2⟩, hq2⟩ : ∃ q, writeM m1 tempP 1 b = q := ⟨_, rfl⟩
  have hput := HPUT.out
  rw [hq2] at h4 hput ⊢
  have HG2 : Hid (Good (k + 2) m2) := by have := good_write HG1.out tempP 1 b; rw [hq2] at this; exact this
  have H4 : Hid (St w0 S _ w4 (.pointer (some ⟨g, 0, none⟩)) gs gc m2 n') := h4
  clear hp4 hq2 h4 HPUT H3
  try dsimp only
  by_cases h5 : e2 = 0
  case neg =>
    have h5n : (e2 == 0) = false := by simpa using h5
    have h5m : (e2 != 0) = true := by simpa using h5
    have q : putO m b = (m2, [], e2) := hput.trans (by unfold putEnd; rw [if_pos h5])
    have Q : Hid _ := q
    clear q hput h5
    go_wp2
    go_ret2
    rw [Q.out]
    exact ⟨_, _, rfl, HN.out, H4.out⟩
  subst h5
  have d0 : w4.cell? ⟨gs, 0, none⟩ = some (.pointer (some ⟨g, 0, none⟩)) := (cell_of_row _ _ 0 _ _ _ H4.out.row).trans rfl
  have HPUT : Hid _ := hput
  clear hput
  go_upto_region 14 with fail
  apply wp_region_mix 6 [_, _, _, .pointer (some ⟨g, 0, none⟩), _, S8 (placeO (shaM b))] [none, none, none, none, none, none] [[], [0], [1], [2], [], [4]] (by kernel_rfl) (by kernel_rfl) (by simp [mixV])
  · trivial
  · simp (maxSteps := 1000000) only [List.take_succ_cons, List.take_zero, oblFrom, stepObl, fillFrom, Act.put, List.setIfInBounds_toArray, List.set_cons_zero, List.set_cons_succ, knows, getV, mixV, List.getD_cons_zero, List.getD_cons_succ, and_true, true_and, forall_const]
    refine ⟨?_, ?_, ?_, ?_, ?_, ?_⟩
    · intro xs wq hq R hR
      have f0 := hq.cell d0
      go_simp
      exact hR _ _ (Ext.refl _) rfl
    · intro xs wq hq hk R hR
      have f0 := hq.cell d0
      go_simp
      exact hR _ _ (Ext.refl _) rfl
    · intro xs wq hq hk R hR
      have f0 := hq.cell d0
      go_simp
      exact hR _ _ (Ext.refl _) rfl
    · intro xs wq hq hk R hR
      have f0 := hq.cell d0
      go_simp
      exact hR _ _ (Ext.refl _) rfl
    · intro xs wq hq R hR
      have f0 := hq.cell d0
      go_simp
      exact hR _ _ (Ext.refl _) rfl
    · intro xs wq hq hk R hR
      go_simp
      exact (placeO_any (shaM b) _ (by omega)).mono (by rintro e' w4 ⟨rfl, rfl⟩; exact ⟨_, rfl, hR _ _ (Ext.refl _) rfl⟩)
  intro xs w5 hx5 hk
  simp only [heldV, Nat.zero_add, Nat.reduceAdd, and_true] at hk
  obtain ⟨q0, q1, q2, q3, q4, q5⟩ := hk
  simp (maxSteps := 1000000) only [List.take_succ_cons, List.take_zero, List.drop_succ_cons, List.drop_zero, fillFrom, Act.put, List.setIfInBounds_toArray, List.set_cons_zero, List.set_cons_succ, Nat.zero_add, Nat.reduceAdd, q0, q1, q2, q3, q4, q5]
  clear q0 q1 q2 q3 q4 q5
  have H5 : Hid (St w0 S _ w5 (.pointer (some ⟨g, 0, none⟩)) gs gc m2 n') := St.more H4.out hx5
  clear hx5 d0 H4
  go_wp2_with fail
  go_at_call 122
  refine (move_any tempP (placeO (shaM b)) (One.fin H5.out.one HE.out HG2.out (by omega)) (by decide) (by omega)).mono ?_
  rintro e w6 ⟨rfl, hp6⟩
  have h6 := St.post H5.out hp6
  obtain ⟨⟨m3, e3⟩, hq3⟩ : ∃ q, moveM m2 tempP (placeO (shaM b)) false = q := ⟨_, rfl⟩
  have hput := HPUT.out
  unfold putEnd at hput
  rw [if_neg (by simp)] at hput
  simp only [] at hput
  rw [hq3] at h6 hput ⊢
  have H6 : Hid (St w0 S _ w6 (.pointer (some ⟨g, 0, none⟩)) gs gc m3 n') := h6
  clear hp6 hq3 h6 HPUT H5
  try dsimp only
  by_cases h5 : e3 = 0
  case neg =>
    have h5n : (e3 == 0) = false := by simpa using h5
    have h5m : (e3 != 0) = true := by simpa using h5
    have q : putO m b = (m3, [], e3) := hput.trans (by rw [if_pos h5])
    have Q : Hid _ := q
    clear q hput h5
    go_wp2
    go_ret2
    rw [Q.out]
    exact ⟨_, _, rfl, HN.out, H6.out⟩
  subst h5
  have q : putO m b = (m3, shaM b, 0) := hput.trans (by rw [if_neg (by simp)])
  have Q : Hid _ := q
  clear q hput
  go_wp2
  go_ret2
  rw [Q.out]
  exact ⟨_, _, rfl, HN.out, H6.out⟩

end Go.Proofs.YtdhgmpibjneplaaGreatDoor

/-! store: List. Conditions: as each theorem states. -/
namespace Go.Proofs.YtdhgmpibjneplaaGreatDoor
open Go Go.RowKit
set_option linter.unusedVariables false
set_option linter.unusedSimpArgs false
set_option linter.unusedSectionVars false

def dirO : B8 := [115, 47, 111]
def dirS : B8 := [115, 47, 111, 47]
def idsL (l : List B8) : List B8 := (l.map fun p => Lib.trimPrefix p dirS).filter validB
def storeListM (m : Fs) : Fs × List B8 × Int := if (listM m dirO).2.2 ≠ 0 then ((listM m dirO).1, [], (listM m dirO).2.2) else ((listM m dirO).1, idsL (listM m dirO).2.1, 0)
variable [Inhabited BaseW] [KW : Inhabited KeptW]
end Go.Proofs.YtdhgmpibjneplaaGreatDoor

/-! store: what the chapter's examples fix. Conditions: as each theorem states. -/
namespace Go.Proofs.YtdhgmpibjneplaaGreatDoor
open Go Go.RowKit
set_option linter.unusedVariables false
set_option linter.unusedSimpArgs false
set_option linter.unusedSectionVars false

def xB : B8 := shaM [120]
def sm0 : Fs := newM 1000
def sm1 : Fs := (putO sm0 [120]).1
def sm2 : Fs := (putO sm1 [120]).1
theorem good_putEnd {n : Nat} {x : Fs × Int} {id : B8} (h : Good n x.1) : Good (n + 1) (putEnd x id).1 := by
  unfold putEnd
  split
  · exact h.mono (by omega)
  · split
    · exact good_move h _ _ _
    · exact good_move h _ _ _
theorem good_putO {n : Nat} {m : Fs} (h : Good n m) (b : B8) : Good (n + 3) (putO m b).1 := by
  unfold putO
  split
  · exact h.mono (by omega)
  · split
    · exact (good_read h _).mono (by omega)
    · split
      · exact (good_read h _).mono (by omega)
      · split
        · exact (good_read h _).mono (by omega)
        · exact good_putEnd (good_write (good_read h _) _ _ _)
section
variable [Inhabited BaseW] [KW : Inhabited KeptW]
end
end Go.Proofs.YtdhgmpibjneplaaGreatDoor

/-! A scan: how much a file system has done behind it. Conditions: as each theorem states. -/
namespace Go.Proofs.YtdhgmpibjneplaaGreatDoor
open Go Go.RowKit

theorem good_getO {n : Nat} {m : Fs} (h : Good n m) (id : B8) : Good (n + 1) (getO m id).1 := by
  unfold getO
  split
  · exact h.mono (by omega)
  · split
    · exact good_read h _
    · split
      · exact good_read h _
      · exact good_read h _
theorem good_putObjM {n : Nat} {m : Fs} (h : Good n m) (o : Ob) : Good (n + 3) (putObjM m o).1 := by
  unfold putObjM
  split
  · exact h.mono (by omega)
  · exact good_putO h _
theorem good_hash1 {n : Nat} {m : Fs} (h : Good n m) (d : B8) : Good (n + 3) (hashX1 m d).1 := by
  unfold hashX1
  split
  · exact h.mono (by omega)
  · exact good_putObjM h _
theorem good_hash {n : Nat} {m : Fs} (h : Good n m) (ix : Files) (wr : Int) (p : B8) (f : Fi) : Good (n + 4) (hashX m ix wr p f).1 := by
  unfold hashX
  split
  · split
    · exact (good_getO h _).mono (by omega)
    · exact good_hash1 (good_getO h _) _
  · exact (good_hash1 h _).mono (by omega)
theorem good_step {n : Nat} {x : Sc} (h : Good n x.m) (ix : Files) (wr : Int) (pats : List B8) (p : B8) : Good (n + 5) (scanStep ix wr pats x p).1.m := by
  unfold scanStep
  split
  · exact h.mono (by omega)
  · split
    · exact h.mono (by omega)
    · have hr := good_read h p
      split
      · exact hr.mono (by omega)
      · split
        · exact hr.mono (by omega)
        · unfold hashStep
          split
          · exact good_hash hr _ _ _ _
          · exact good_hash hr _ _ _ _
theorem hash1_n (m : Fs) (d : B8) : (hashX1 m d).2.1 ≤ 1 := by
  unfold hashX1
  split
  · exact Nat.zero_le _
  · exact Nat.le_refl _
theorem hash_n (m : Fs) (ix : Files) (wr : Int) (p : B8) (f : Fi) : (hashX m ix wr p f).2.1 ≤ 1 := by
  unfold hashX
  split
  · split
    · exact Nat.zero_le _
    · exact hash1_n _ _
  · exact hash1_n _ _
/-- A row more each time that the store is asked. -/
structure ScN (N : Nat) (x : Sc) : Prop where
  rows : x.rows.length ≤ N
  rows2 : x.rows.length ≤ 256
  ix : x.ix.length ≤ N
  n : x.n ≤ N
theorem step_n {N : Nat} {x : Sc} (h : ScN N x) (ix : Files) (wr : Int) (pats : List B8) (p : B8) : ScN (N + 1) (scanStep ix wr pats x p).1 := by
  have up : ∀ m, ScN (N + 1) { x with m := m } := fun m => ⟨by have := h.rows; show x.rows.length ≤ _; omega, h.rows2, by have := h.ix; show x.ix.length ≤ _; omega, by have := h.n; show x.n ≤ _; omega⟩
  unfold scanStep
  split
  · exact up x.m
  · split
    · exact up x.m
    · rename_i h256
      split
      · exact up _
      · split
        · exact up _
        · unfold hashStep
          split
          · exact up _
          · have h1 := h.rows
            have h2 := h.ix
            have h3 := h.n
            refine ⟨?_, ?_, ?_, ?_⟩
            · show (x.rows ++ [_]).length ≤ _
              rw [List.length_append, List.length_singleton]; omega
            · show (x.rows ++ [_]).length ≤ _
              rw [List.length_append, List.length_singleton]; omega
            · show (putF x.ix _ _).length ≤ _
              exact Nat.le_trans (putF_length _ _ _) (by omega)
            · show x.n + _ ≤ _
              have : (hashX ((readM x.m p).1, (readM x.m p).2.1).1 ix wr (cutW p) ((readM x.m p).1, (readM x.m p).2.1).2).2.1 ≤ 1 := hash_n _ _ _ _ _
              omega
theorem step_plan (ix : Files) (wr : Int) (pats : List B8) (x : Sc) (p : B8) (h : (scanStep ix wr pats x p).2 ≠ 0) (l : List B8) : scanL ix wr pats (p :: l) x = scanStep ix wr pats x p := by
  rw [scanL, if_pos h]
theorem step_next (ix : Files) (wr : Int) (pats : List B8) (x : Sc) (p : B8) (h : (scanStep ix wr pats x p).2 = 0) (l : List B8) : scanL ix wr pats (p :: l) x = scanL ix wr pats l (scanStep ix wr pats x p).1 := by
  rw [scanL, if_neg (by simpa using h)]

theorem good_scanL (ix : Files) (wr : Int) (pats : List B8) : ∀ (l : List B8) {n : Nat} {x : Sc}, Good n x.m → Good (n + 5 * l.length) (scanL ix wr pats l x).1.m
  | [], n, x, h => h
  | p :: l, n, x, h => by
    have hs := good_step h ix wr pats p
    rw [List.length_cons]
    by_cases he : (scanStep ix wr pats x p).2 = 0
    · rw [step_next _ _ _ _ _ he]
      exact (good_scanL ix wr pats l hs).mono (by omega)
    · rw [step_plan _ _ _ _ _ he]
      exact hs.mono (by omega)
theorem good_scan {n : Nat} {m : Fs} (h : Good n m) (ix : Files) (wr : Int) (pats : List B8) : Good (n + 1 + 5 * (listM m wP).2.1.length) (scanGo m ix wr pats).1.m := by
  unfold scanGo
  split
  · exact (good_list h _).mono (by omega)
  · exact good_scanL ix wr pats _ (good_list h _)
theorem good_userW {n : Nat} {m : Fs} (h : Good n m) (path : B8) (mode : Int) (data : B8) : Good (n + 1) (userWrite m path mode data).1 := by
  have k8 := left_hap h.ok ⟨0, 4, mode, 0, 0, path, data⟩
  exact h.left (k8.1.mono (by omega)) (by have := k8.2; show (hapM m ⟨0, 4, mode, 0, 0, path, data⟩).calls ≤ _; omega)
theorem good_userR {n : Nat} {m : Fs} (h : Good n m) (path : B8) : Good (n + 1) (userRemove m path).1 := by
  have k8 := left_hap h.ok ⟨0, 5, 0, 0, 0, path, []⟩
  exact h.left (k8.1.mono (by omega)) (by have := k8.2; show (hapM m ⟨0, 5, 0, 0, 0, path, []⟩).calls ≤ _; omega)

/-! ### What the chapter's examples fix -/
def qs0 : Fs := newM 10000
def qs1 : Fs := (putObjM qs0 (blobO [113])).1
def qs2 : Fs := (userWrite qs1 [119, 47, 97] 1 [113]).1
def qa : Sc × Int := scanGo qs2 [] 0 []
def qb : Sc × Int := scanGo qa.1.m qa.1.ix qa.1.m.time []
def qs5 : Fs := (userWrite qb.1.m [118] 1 []).1
def qc : Sc × Int := scanGo qs5 qb.1.ix qb.1.m.time []
def qd : Sc × Int := scanGo qc.1.m qc.1.ix qc.1.m.time []
theorem q_first : qa.2 = 0 ∧ qb.2 = 0 ∧ qc.2 = 0 ∧ qd.2 = 0 ∧ qa.1.n = 1 ∧ qb.1.n = 1 ∧ qc.1.n = 1 ∧ qd.1.n = 0 := by decide +kernel
theorem q_lens : (listM qs2 wP).2.1.length = 1 ∧ (listM qa.1.m wP).2.1.length = 1 ∧ (listM qs5 wP).2.1.length = 1 ∧ (listM qc.1.m wP).2.1.length = 1 := by decide +kernel

/-! ### How many files of users there are -/
def WN (k : Nat) (m : Fs) : Prop := ((pathsL m.now).filter (isUnder wP)).length ≤ k
theorem WN.goes {k : Nat} {m m' : Fs} (h : WN k m) (hg : Goes m m') : WN k m' := by
  unfold WN at h ⊢
  rw [hg.same.2]
  exact h
theorem WN.mono {k n : Nat} {m : Fs} (h : WN k m) (hn : k ≤ n) : WN n m := Nat.le_trans h hn
theorem wn_ins (x : B8 × Fi) : ∀ l : Files, ((pathsL (insF x l)).filter (isUnder wP)).length ≤ ((pathsL l).filter (isUnder wP)).length + 1
  | [] => by
    unfold insF pathsL
    exact Nat.le_trans (List.length_filter_le _ _) (by simp)
  | y :: l => by
    have ih := wn_ins x l
    unfold insF
    split
    · show ((x.1 :: pathsL (y :: l)).filter (isUnder wP)).length ≤ _
      rw [List.filter_cons]
      split
      · rw [List.length_cons]; omega
      · omega
    · show ((y.1 :: pathsL (insF x l)).filter (isUnder wP)).length ≤ ((y.1 :: pathsL l).filter (isUnder wP)).length + 1
      rw [List.filter_cons, List.filter_cons]
      split
      · rw [List.length_cons, List.length_cons]; omega
      · exact ih
theorem wn_del (l : Files) (p : B8) : ((pathsL (delF l p)).filter (isUnder wP)).length ≤ ((pathsL l).filter (isUnder wP)).length := by
  have h : (pathsL (delF l p)).Sublist (pathsL l) := List.Sublist.map _ List.filter_sublist
  exact (h.filter _).length_le
theorem wn_write {k : Nat} {m : Fs} (h : WN k m) (path : B8) (mode : Int) (data : B8) : WN (k + 1) (userWrite m path mode data).1 := by
  unfold userWrite
  split
  · exact h.mono (by omega)
  · split
    · exact h.mono (by omega)
    · split
      · rename_i h2
        rw [puts_no h2]
        exact h.mono (by omega)
      · rename_i h2
        show WN (k + 1) (settle (putsM m path mode data true).1)
        rw [puts_zero (by simpa using h2)]
        show ((pathsL (putF m.now path _)).filter (isUnder wP)).length ≤ _
        unfold putF
        exact Nat.le_trans (wn_ins _ _) (Nat.succ_le_succ (Nat.le_trans (wn_del _ _) h))
theorem wn_remove {k : Nat} {m : Fs} (h : WN k m) (path : B8) : WN k (userRemove m path).1 := by
  unfold userRemove
  split
  · exact h
  · split
    · rename_i h2
      have : (removesM m path).1 = m := by
        unfold removesM at h2 ⊢
        split
        · rfl
        · split
          · rfl
          · rename_i a b
            rw [if_neg a, if_neg b] at h2
            exact (h2 rfl).elim
      rw [this]
      exact h
    · rename_i h2
      show WN k (settle (removesM m path).1)
      rw [removes_zero (by simpa using h2)]
      exact Nat.le_trans (wn_del _ _) h
theorem wn_list {k : Nat} {m : Fs} (h : Ca m) (hw : WN k m) : (listM m wP).2.1.length ≤ k := by
  have hl : listM m wP = ({ m with calls := m.calls + 1 }, (pathsL m.now).filter (isUnder wP), 0) := by
    unfold listM
    rw [h.call]
    simp only [ne_eq, not_true_eq_false, if_false, show wP ≠ [] by decide, show pathB wP = true by decide, Bool.true_eq_false]
  rw [hl]
  exact hw

end Go.Proofs.YtdhgmpibjneplaaGreatDoor

/-! wire: put, Put. Conditions: as each theorem states. -/
namespace Go.Proofs.YtdhgmpibjneplaaGreatDoor
open Go Go.RowKit
set_option linter.unusedVariables false
set_option linter.unusedSimpArgs false
set_option linter.unusedSectionVars false

theorem or128_all : ∀ r : Fin 256, bits BinOp.or IntKind.u8 (r.val : Int) 128 = (((UInt8.ofNat (r.val % 128 + 128)).toNat : Nat) : Int) := by decide +kernel
theorem or128 (m : Nat) : bits BinOp.or IntKind.u8 ((m : Int) % 256) 128 = (((UInt8.ofNat (m % 128 + 128)).toNat : Nat) : Int) := by
  have h := or128_all ⟨m % 256, by omega⟩
  rw [show (((⟨m % 256, by omega⟩ : Fin 256).val : Nat) : Int) = (m : Int) % 256 by simp] at h
  rw [h]
  show (((UInt8.ofNat (m % 256 % 128 + 128)).toNat : Nat) : Int) = _
  rw [show m % 256 % 128 = m % 128 by omega]
theorem low8 {m : Nat} (h : m ≤ 127) : (m : Int) = (((UInt8.ofNat m).toNat : Nat) : Int) := by
  rw [UInt8.toNat_ofNat']
  omega
set_option maxRecDepth 100000 in
set_option maxHeartbeats 1000000 in
theorem wput_any (n : Nat) (w : World) (hn : n ≤ maxW) :
    Calls Tryz.prog 203 #[.int .i64 n] w fun e w' => (∃ v, e = .returned v ∧ w'.ownsRow w.heap.size 5 1 v (putN n).length ((putN n).map fun x => .int .u8 x.toNat)) ∧ Ext w w' := by
  unfold maxW at hn
  go_enter Tryz.func203, Tryz.ntmps203
  go_wp2
  go_loopw [0, 3] (fun nv v wr => ∃ (m : Nat) (l : B8), nv = .int .i64 m ∧ m ≤ n ∧ Hid (putN n = l ++ putN m) ∧ Hid (wr.ownsRow w.heap.size 5 1 v l.length (l.map fun x => .int .u8 x.toNat)) ∧ Hid (Ext w wr)) (fun nv _ _ => (intOf nv).toNat)
  case atStart => exact ⟨n, [], rfl, Nat.le_refl _, rfl, World.ownsRow_nil _ _ _ _, Ext.refl _⟩
  case round =>
    obtain ⟨m, l, rfl, hm, HP, HO, HX⟩ := hrel
    by_cases hlt : 127 < m
    · have hor := or128 m
      obtain ⟨c, hc⟩ : ∃ c, UInt8.ofNat (m % 128 + 128) = c := ⟨_, rfl⟩
      rw [hc] at hor
      have HC : Hid _ := hc
      have hlen : l.length ≤ 9 := by
        have h1 := putN_len9 (n := n) (by unfold maxW; omega)
        rw [HP.out, List.length_append] at h1
        omega
      clear hc
      go_wp2_with (at_builtin; go_must (refine app_u8 rfl _ _ rfl w.heap.size _ l.length _ rfl (owns_ext HO.out ((Ext.refl _).alloc _)) wr.heap.size 1 1 [c] rfl rfl (alloc_at _ _) (by omega) (by have := HX.out.size; simp; omega) ?_; intro v' w3 hown3 hg3))
      go_roundw
      case rel =>
        refine ⟨m / 128, l ++ [c], ?_, by omega, ?_, ?_, ?_⟩
        · go_num
        · unfold Hid
          rw [HP.out, putN_big hlt, HC.out, List.append_assoc]
          rfl
        · unfold Hid
          simpa using hown3
        · exact owns_ext_app (HX.out.alloc _) (owns_ext HO.out ((Ext.refl _).alloc _)) hg3
      case measure => simp [intOf]; omega
    · have hm7 : m ≤ 127 := by omega
      have hga : (wr.alloc (.cells #[.int .u8 m] 5)).heap[wr.heap.size]? = some (.cells (List.map (fun x : UInt8 => Value.int .u8 x.toNat) [UInt8.ofNat m]).toArray 5 (0, 0)) := by
        rw [alloc_at, List.map_cons, List.map_nil, ← low8 hm7]
      have hlen : l.length ≤ 9 := by
        have h1 := putN_len9 (n := n) (by unfold maxW; omega)
        rw [HP.out, List.length_append] at h1
        omega
      go_wp2_with (at_builtin; go_must (refine app_u8 rfl _ _ rfl w.heap.size _ l.length _ rfl (owns_ext HO.out ((Ext.refl _).alloc _)) wr.heap.size 1 1 [UInt8.ofNat m] rfl rfl hga (by omega) (by have := HX.out.size; simp; omega) ?_; intro v' w3 hown3 hg3))
      go_ret
      have hpe : putN n = l ++ [UInt8.ofNat m] := by rw [HP.out, putN_small hm7]
      rw [hpe]
      exact ⟨⟨_, rfl, by simpa using hown3⟩, owns_ext_app (HX.out.alloc _) (owns_ext HO.out ((Ext.refl _).alloc _)) hg3⟩

set_option maxRecDepth 100000 in
set_option maxHeartbeats 1000000 in
theorem wPut_any (n : Int) (w : World) :
    Calls Tryz.prog 155 #[.int .i64 n] w fun e w' => (∃ v, e = .returned (.tuple #[v, .int .i64 (putW n).2]) ∧ w'.ownsRow w.heap.size 5 1 v (putW n).1.length ((putW n).1.map fun x => .int .u8 x.toNat)) ∧ Ext w w' := by
  obtain ⟨r, hr⟩ : ∃ r, putW n = r := ⟨_, rfl⟩
  rw [hr]
  by_cases h0 : n < 0
  · have hb : r = ([], 1) := by rw [← hr]; unfold putW; rw [if_pos (.inl h0)]
    subst hb
    clear hr
    go_enter Tryz.func155, Tryz.ntmps155
    go_wp2
    go_ret2
    exact ⟨⟨_, rfl, World.ownsRow_nil _ _ _ _⟩, Ext.refl _⟩
  · by_cases h1 : (72057594037927936 : Int) < n
    · have hb : r = ([], 1) := by rw [← hr]; unfold putW; rw [if_pos (.inr h1)]
      subst hb
      clear hr
      go_enter Tryz.func155, Tryz.ntmps155
      go_wp2
      go_ret2
      exact ⟨⟨_, rfl, World.ownsRow_nil _ _ _ _⟩, Ext.refl _⟩
    · obtain ⟨k, rfl⟩ : ∃ k : Nat, n = k := ⟨n.toNat, by omega⟩
      have hb : r = (putN k, 0) := by rw [← hr]; unfold putW; rw [if_neg (by unfold maxW; omega)]; rfl
      subst hb
      clear hr
      go_enter Tryz.func155, Tryz.ntmps155
      go_wp2_with fail
      go_at_call 203
      refine (wput_any k w (by unfold maxW; omega)).mono ?_
      rintro e w1 ⟨⟨v, rfl, hv⟩, hx⟩
      have HV : Hid _ := hv
      have HX : Hid (Ext w w1) := hx
      clear hv hx
      go_wp2
      go_ret2
      exact ⟨⟨_, rfl, HV.out⟩, HX.out⟩

end Go.Proofs.YtdhgmpibjneplaaGreatDoor

/-! wire: Get; slices.Equal of bytes. Conditions: as each theorem states. -/
namespace Go.Proofs.YtdhgmpibjneplaaGreatDoor
open Go Go.RowKit
set_option linter.unusedVariables false
set_option linter.unusedSimpArgs false
set_option linter.unusedSectionVars false

theorem IsBytes.take {w : World} {a : Option Addr} {c : Nat} {b : B8} (h : IsBytes w (.slice a b.length c) b) {j : Nat} (hj : j ≤ b.length) : IsBytes w (.slice a j c) (b.take j) := by
  obtain ⟨a2, c2, he, h1, h2, h3, h4⟩ := h
  cases he
  have hl : (b.take j).length = j := by rw [List.length_take]; omega
  unfold IsBytes
  rw [hl]
  refine ⟨a, c, rfl, by omega, h2, by omega, fun hne => ?_⟩
  obtain ⟨bb, o, rfl, hc⟩ := h4 (by
    intro e
    rw [List.map_eq_nil_iff] at e
    subst e
    simp at hne)
  refine ⟨bb, o, rfl, fun i u hu => ?_⟩
  have hi := (List.getElem?_eq_some_iff.1 hu).1
  rw [List.length_map, hl] at hi
  refine hc i u ?_
  rw [List.getElem?_map] at hu ⊢
  rwa [List.getElem?_take_of_lt hi] at hu
end Go.Proofs.YtdhgmpibjneplaaGreatDoor
