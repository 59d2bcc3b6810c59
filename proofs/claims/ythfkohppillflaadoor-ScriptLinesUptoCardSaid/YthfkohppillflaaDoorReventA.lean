/- marref24.eventOf: what it tells; a text that does not have seven parts. Conditions: a text of at most 1000000 signs. -/
import Derived.Test.YthfkohppillflaaDoorNum
import Derived.Test.YthfkohppillflaaDoorRunhex
import Derived.Test.YthfkohppillflaaDoorEdit
import Derived.Test.YthfkohppillflaaDoorRead
import Derived.Test.YthfkohppillflaaDoorPlain
import Derived.Test.YthfkohppillflaaDoorRevent
import Derived.Test.YthfkohppillflaaDoorRgl
import Derived.BigRegion
namespace Go.Proofs.YthfkohppillflaaDoor
open Go Go.RowKit

structure Evented (l : B8) (e : Ending) (w' : World) : Prop where
  out : ∃ cs ok x, e = .returned (.tuple #[.agg cs.toArray, .bool ok]) ∧ IsEvT w' cs x ∧ x.ok ∧ x.path.length ≤ l.length ∧ x.data.length ≤ l.length ∧ ∀ x', x'.ok → evTold x' = true → l = evS x' → ok = true ∧ x = x'

theorem sizeRe : (Tryd.prog.info? 64).map (·.size) = some 7 := by kernel_rfl
theorem size_str : (Tryd.prog.info? 9).map (·.size) = some 1 := by kernel_rfl
theorem five {α : Type} : ∀ l : List α, l.length = 5 → ∃ a b c d e, l = [a, b, c, d, e]
  | [a, b, c, d, e], _ => ⟨a, b, c, d, e, rfl⟩

theorem evN_get {x : Ev} {k : Nat} {m : Int} (h : (evN x)[k]? = some m) : (evL x).getD k [] = Lib.itoa m := by
  unfold evN at h
  unfold evL
  rcases k with _ | _ | _ | _ | _ | k
  · cases h; rfl
  · cases h; rfl
  · cases h; rfl
  · cases h; rfl
  · cases h; rfl
  · simp at h
theorem evN_ok {x : Ev} (h : x.ok) {k : Nat} {m : Int} (hm : (evN x)[k]? = some m) : I64 m := by
  obtain ⟨h1, h2, h3, h4, h5⟩ := h
  unfold evN at hm
  rcases k with _ | _ | _ | _ | _ | k
  · cases hm; exact h1
  · cases hm; exact h2
  · cases hm; exact h3
  · cases hm; exact h4
  · cases hm; exact h5
  · simp at hm

theorem grown_trans {a b c : World} {g : Nat} (h : a.grownBy b (some g)) (k : b.grownBy c (some g)) : a.grownBy c (some g) :=
  ⟨k.os.trans h.os, k.tape.trans h.tape, k.output.trans h.output, Nat.le_trans h.size k.size, fun i hi hn => (k.block i (Nat.lt_of_lt_of_le hi h.size) hn).trans (h.block i hi hn)⟩
theorem put_get {ns : List Int} {k : Nat} (n : Int) (h : k < ns.length) {j : Nat} (hj : j < k + 1) : (ns.take k ++ [n] ++ ns.drop (k + 1))[j]? = if j = k then some n else ns[j]? := by
  have e : ns.take k ++ [n] ++ ns.drop (k + 1) = ns.set k n := by
    rw [List.set_eq_take_append_cons_drop, if_pos h]
    simp
  rw [e]
  by_cases hjk : j = k
  · subst hjk
    rw [if_pos rfl, List.getElem?_set_self h]
  · rw [if_neg hjk, List.getElem?_set_ne (fun h => hjk h.symm)]
theorem cellsAt5 {w : World} {g : Nat} {v0 v1 v2 v3 v4 : Value} {t : TypeId} {fr : Nat × Nat} (h : w.heap[g]? = some (.cells #[v0, v1, v2, v3, v4] t fr)) :
    w.cell? ⟨g, 0, none⟩ = some v0 ∧ w.cell? ⟨g, 1, none⟩ = some v1 ∧ w.cell? ⟨g, 2, none⟩ = some v2 ∧ w.cell? ⟨g, 3, none⟩ = some v3 ∧ w.cell? ⟨g, 4, none⟩ = some v4 := by
  simp [World.cell?, h]

theorem ev_done {l : B8} {w w8 w9 : World} {vd : Value} {n0 n1 n2 n3 n4 : Int} {p d : B8} (hx : Ext w w8) (hrow : w8.heap[w.heap.size]? = some (.cells zeroEv.toArray 64 (0, 0))) (hb : IsBytes w8 vd d) (ht : Typed 5 w8 vd) {X : Obj} (hl9 : Late w.heap.size X w8 w9)
    (i0 : I64 n0) (i1 : I64 n1) (i2 : I64 n2) (i3 : I64 n3) (i4 : I64 n4) (hp : p.length ≤ l.length) (hd : d.length ≤ l.length) (ok : Bool) (hc : ∀ x' : Ev, x'.ok → evTold x' = true → l = evS x' → ok = true ∧ (⟨n0, n1, n2, n3, n4, p, d⟩ : Ev) = x') :
    Evented l (.returned (.tuple #[.agg #[.int .i64 n0, .int .i64 n1, .int .i64 n2, .int .i64 n3, .int .i64 n4, S8 p, vd], .bool ok])) w9 ∧ Ext w w9 := by
  have hk := Keep.of_grown (e := 5) hl9.grown hrow (by decide)
  exact ⟨⟨[.int .i64 n0, .int .i64 n1, .int .i64 n2, .int .i64 n3, .int .i64 n4, S8 p, vd], ok, ⟨n0, n1, n2, n3, n4, p, d⟩, rfl, ⟨vd, rfl, Row.keep hb ht hk, ht.keep hk⟩, ⟨i0, i1, i2, i3, i4⟩, hp, hd, hc⟩, hx.but hl9.grown (Nat.le_refl _)⟩

set_option maxRecDepth 100000 in
set_option maxHeartbeats 4000000 in
theorem reventOf_no (l : B8) (w : World) (hl : l.length ≤ 1000000) (h7 : (cut 58 l).length ≠ 7) :
    Calls Tryd.prog 28 #[S8 l] w fun e w' => Evented l e w' ∧ Ext w w' := by
  have HN : Hid (∀ x' : Ev, evTold x' = true → l ≠ evS x') := fun x' h e => h7 (by rw [e, cut_ev h]; rfl)
  have hne : (((cut 58 l).length : Int) == 7) = false := by simp; omega
  have hne2 : (((cut 58 l).length : Int) != 7) = true := by simp; omega
  have hx1 : Ext w (w.alloc (.cells zeroEv.toArray 64)) := (Ext.refl _).alloc _
  have hg1 := alloc_at w (.cells zeroEv.toArray 64)
  clear h7
  go_enter Tryd.func28, Tryd.ntmps28
  go_wp2_with (first
    | (go_at_call 23; go_must (refine (rsplit_any ⟨l.toArray⟩ 58 _ hl).mono ?_; rintro e w2 ⟨v, rfl, hv, -, hx2⟩; rw [show (⟨l.toArray⟩ : ByteArray).data.toList = l from rfl] at hv; obtain ⟨a, cap, rfl, -⟩ := hv.get; have hg2 := hx2.row hg1; clear hv))
    | (refine wpList_store_row rfl 64 (.tmp 2) (.tmp 18) rfl w.heap.size zeroEv.toArray rfl rfl 64 _ hg2 sizeRe rfl (by simp [zeroEv, Value.oneCell']) ?_))
  refine bodyPost_ret (results_row_tmp rfl _ _ w.heap.size 64 zeroEv.toArray (0, 0) _ (.bool false) rfl rfl (setRow_heap _ _ _ _ _ _ hg2) Tryd.underlying64 sizeRe) rfl ?_
  refine ⟨⟨zeroEv, false, ⟨0, 0, 0, 0, 0, [], []⟩, rfl, ⟨_, rfl, Row.nil _, Typed.nil _ _ _ _⟩, ?_, Nat.zero_le _, Nat.zero_le _, fun x' _ h e => (HN.out x' h e).elim⟩, (hx1.trans hx2).setRow _ _ (Nat.le_refl _)⟩
  refine ⟨?_, ?_, ?_, ?_, ?_⟩ <;> simp [I64]

theorem typed_ev {w : World} {g : Nat} {vd : Value} {n0 n1 n2 n3 n4 : Int} {p d : B8} (hb : IsBytes w vd d) (ht : Typed 5 w vd) : IsEvT w [.int .i64 n0, .int .i64 n1, .int .i64 n2, .int .i64 n3, .int .i64 n4, S8 p, vd] ⟨n0, n1, n2, n3, n4, p, d⟩ := ⟨vd, rfl, hb, ht⟩

end Go.Proofs.YthfkohppillflaaDoor
