/- A region that draws its order and that stores one row into a block of the call's own somewhere among its operations. Conditions: each other operation leaves what was there as it was. -/
import Derived.Test.YthfkohppillflaaDoorRg
import Derived.Laws.Tables
namespace Go.Proofs.YthfkohppillflaaDoor
open Go Go.RowKit

/-- All is as it was, but for block g, which may come to hold X, and then holds it on. -/
structure Late (g : Nat) (X : Obj) (w w' : World) : Prop where
  grown : w.grownBy w' (some g)
  keep : w'.heap[g]? = w.heap[g]? ∨ w'.heap[g]? = some X
  once : w.heap[g]? = some X → w'.heap[g]? = some X

theorem Late.refl (g : Nat) (X : Obj) (w : World) : Late g X w w := ⟨⟨rfl, rfl, rfl, Nat.le_refl _, fun _ _ _ => rfl⟩, .inl rfl, id⟩
theorem Late.trans {g : Nat} {X : Obj} {a b c : World} (h : Late g X a b) (k : Late g X b c) : Late g X a c := by
  refine ⟨⟨k.grown.os.trans h.grown.os, k.grown.tape.trans h.grown.tape, k.grown.output.trans h.grown.output, Nat.le_trans h.grown.size k.grown.size, fun i hi hn => (k.grown.block i (Nat.lt_of_lt_of_le hi h.grown.size) hn).trans (h.grown.block i hi hn)⟩, ?_, fun h0 => k.once (h.once h0)⟩
  rcases k.keep with e | e
  · rcases h.keep with e2 | e2
    · exact .inl (e.trans e2)
    · exact .inr (e.trans e2)
  · exact .inr e
theorem Late.of_ext {g : Nat} {X : Obj} {w w' : World} (h : Ext w w') (hg : g < w.heap.size) : Late g X w w' :=
  ⟨⟨h.os, h.tape, h.output, h.size, fun k hk _ => h.block k hk⟩, .inl (h.block g hg), fun h0 => (h.block g hg).trans h0⟩
theorem Late.cell {g : Nat} {X : Obj} {w w' : World} (h : Late g X w w') {b o : Nat} {v : Value} (hc : w.cell? ⟨b, o, none⟩ = some v) (hne : b ≠ g) : w'.cell? ⟨b, o, none⟩ = some v := by
  rw [World.cell?_of_block (w := w) (w' := w') (h.grown.block b (World.block_lt_of_cell? _ _ hc) (by simpa using hne))]
  exact hc
theorem Late.row {g : Nat} {X : Obj} {w w' : World} (h : Late g X w w') {k : Nat} {o : Obj} (hk : w.heap[k]? = some o) (hne : k ≠ g) : w'.heap[k]? = some o :=
  (h.grown.block k (Array.getElem?_eq_some_iff.1 hk).1 (by simpa using hne)).trans hk
theorem Late.at {g : Nat} {cs old : Array Value} {t : TypeId} {w w' : World} (h : Late g (.cells cs t (0, 0)) w w') (hg : w.heap[g]? = some (.cells old t (0, 0))) (hs : old.size = cs.size) :
    ∃ cur, w'.heap[g]? = some (.cells cur t (0, 0)) ∧ cur.size = cs.size := by
  rcases h.keep with e | e
  · exact ⟨old, e.trans hg, hs⟩
  · exact ⟨cs, e, rfl⟩
theorem Late.store {g : Nat} {cs cur : Array Value} {t : TypeId} {w : World} (hg : w.heap[g]? = some (.cells cur t (0, 0))) : Late g (.cells cs t (0, 0)) w (w.setRow g cs) := by
  have h1 : (w.setRow g cs).heap[g]? = some (.cells cs t (0, 0)) := setRow_heap _ _ _ _ _ _ hg
  refine ⟨⟨rfl, rfl, rfl, by simp [World.setRow], fun k hk hn => ?_⟩, .inr h1, fun _ => h1⟩
  have hne : g ≠ k := fun e => hn (by rw [e])
  simp [World.setRow, Array.getElem?_modify, hne]

section
variable {P : Program}
def stabL (g : Nat) (X : Obj) : List (Option (Value → World → Prop)) → Prop
  | [] => True
  | none :: l => stabL g X l
  | some V :: l => (∀ u w w', Late g X w w' → V u w → V u w') ∧ stabL g X l
theorem stab_mixL (g : Nat) (X : Obj) : ∀ (cs : List Value) (l : List (Option (Value → World → Prop))), stabL g X l → stableFrom (Late g X) (mixV cs l)
  | [], [], _ => trivial
  | [], _ :: _, _ => trivial
  | _ :: _, [], _ => trivial
  | _ :: cs, none :: l, h => ⟨fun _ _ _ _ hu => hu, stab_mixL g X cs l h⟩
  | _ :: cs, some _ :: l, h => ⟨h.1, stab_mixL g X cs l h.2⟩

theorem wp_region_late {id : Nat} {Q : Exit → Act → World → Prop} {a : Act} {w : World} {l : List Oper} (g : Nat) (X : Obj) (n : Nat) (cs : List Value) (W : List (Option (Value → World → Prop))) (D : List (List Nat))
    (hm : P.follows .mixedOrders = true) (hB : relB l.toArray n D = true) (hn : (mixV cs W).length ≤ n) (hV : stabL g X W)
    (hs : oblFrom P (Late g X w) (Late g X) l.toArray (mixV cs W) D (l.take n) a (l.take n) 0)
    (hQ : ∀ xs w', Late g X w w' → heldV cs W 0 xs w' → wpList P l.toArray Q (l.drop n) (fillFrom xs (l.take n) 0 a) w') :
    (Code.region id l.toArray true).wp P Q a w :=
  wp_region_le (C := Late g X w) (le := Late g X) n (mixV cs W) D hm (fun _ _ h k => h.trans k) ⟨⟨rfl, rfl, rfl, Nat.le_refl _, fun _ _ _ => rfl⟩, .inl rfl, fun h => h⟩ hB (stab_mixL g X cs W hV) hs
    fun xs w' h1 h2 => hQ xs w' h1 (held_of xs w' cs W 0 fun j hj => by
      rw [Nat.zero_add]; exact knows_get h2 j (List.mem_range.2 (by omega)))

/-- The store of a row, among the operations. -/
theorem obl_store_row {o : Oper} {a : Act} {w : World} {R : Value → World → Prop} {ys : Nat → Option Bool} (hgd : o.guard = none) (ty : TypeId) (x y : Operand) (ho : o.op = .store ty x y)
    (g : Nat) (cells : Array Value) (hx : a.eval x = .pointer (some ⟨g, 0, none⟩)) (hy : a.eval y = .agg cells)
    (t : TypeId) (old : Array Value) (hg : w.heap[g]? = some (.cells old t (0, 0))) (hi : (P.info? ty).map (·.size) = some cells.size)
    (hold : old.size = cells.size) (h1 : cells.all (·.oneCell') = true)
    (h : R undef (w.setRow g cells)) : if Region.wanted o ys then relUpon P R ((execOp a.eval o).run P w) else R undef w := by
  rw [if_pos (by simp [Region.wanted, hgd])]
  unfold execOp
  simp only [ho, hx, hy, Instr.storeAt, Instr.sureAddr, Sem.run_bind, Sem.run_pure, Result.andThen_ok, run_storeVar_row w g t ty old cells hg hi hold h1]
  exact h
end

end Go.Proofs.YthfkohppillflaaDoor
