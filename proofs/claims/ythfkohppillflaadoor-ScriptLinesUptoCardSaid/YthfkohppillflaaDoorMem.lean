/- A struct in a block of the call's own: stored whole, loaded whole, handed back. Conditions: as each theorem states. -/
import Derived.Test.YthfkohppillflaaDoorPrint
import Derived.Great.BuildSlice
namespace Go.Proofs.YthfkohppillflaaDoor
open Go Go.RowKit

theorem setRow_grown (w : World) (g : Nat) (cs : Array Value) : w.grownBy (w.setRow g cs) (some g) := by
  refine ⟨rfl, rfl, rfl, by simp [World.setRow], fun k hk hn => ?_⟩
  have hne : g ≠ k := fun e => hn (by rw [e])
  simp [World.setRow, Array.getElem?_modify, hne]

theorem setCell_grown (w : World) (g i : Nat) (v : Value) : w.grownBy (w.setCell ⟨g, i, none⟩ v) (some g) := by
  refine ⟨rfl, rfl, rfl, by simp [World.setCell], fun k hk hn => ?_⟩
  exact Below.heap_setCell _ _ _ _ (by rintro rfl; exact hn rfl)

theorem Ext.but {w w1 w2 : World} {g : Nat} (h : Ext w w1) (hg : w1.grownBy w2 (some g)) (hb : w.heap.size ≤ g) : Ext w w2 :=
  Below.grown h hg h.size (fun k hk => by simp at hk; omega)

theorem Ext.setRow {w w1 : World} (h : Ext w w1) (g : Nat) (cs : Array Value) (hb : w.heap.size ≤ g) : Ext w (w1.setRow g cs) := h.but (setRow_grown _ _ _) hb

theorem Ext.row {w w' : World} (h : Ext w w') {g : Nat} {o : Obj} (hg : w.heap[g]? = some o) : w'.heap[g]? = some o :=
  (h.block g (Array.getElem?_eq_some_iff.1 hg).1).trans hg

theorem but_row {w w' : World} {g k : Nat} {o : Obj} (h : w.grownBy w' (some g)) (hk : w.heap[k]? = some o) (hne : k ≠ g) : w'.heap[k]? = some o :=
  (h.block k (Array.getElem?_eq_some_iff.1 hk).1 (by simpa using hne)).trans hk

/-- Of a slice of the call's own that has an element the address is known. -/
theorem owns_some {w : World} {base : Nat} {e : TypeId} {size : Nat} {v : Value} {n : Nat} {xs : List Value} (h : w.ownsRow base e size v n xs) (hn : 0 < n) : ∃ g cap, v = .slice (some ⟨g, 0, none⟩) n cap := by
  obtain ⟨_, ⟨_, rfl⟩ | ⟨g, cap, cur, rfl, _⟩⟩ := h
  · omega
  · exact ⟨g, cap, rfl⟩

def notU8 : Value → Bool
  | .int .u8 _ => false
  | _ => true

/-- Bytes don't lie in a block that holds other things. -/
theorem IsBytes.but {w w' : World} {v : Value} {l : B8} {g : Nat} {cs : Array Value} {t : TypeId} {fr : Nat × Nat} (h : IsBytes w v l) (hg : w.grownBy w' (some g)) (hb : w.heap[g]? = some (.cells cs t fr)) (hn : cs.toList.all notU8 = true) : IsBytes w' v l := by
  obtain ⟨a, cap, rfl, h1, h2, h3, h4⟩ := h
  refine ⟨a, cap, rfl, h1, h2, h3, fun hne => ?_⟩
  obtain ⟨b, o, rfl, hc⟩ := h4 hne
  refine ⟨b, o, rfl, fun i u hu => ?_⟩
  have hcu := hc i u hu
  have hlt := World.block_lt_of_cell? _ _ hcu
  have hbg : b ≠ g := by
    rintro rfl
    have hcell : cs[o + i]? = some u := by simpa [World.cell?, hb] using hcu
    have hmem : u ∈ cs.toList := by
      have := Array.mem_of_getElem? hcell
      simpa using this
    have := List.all_eq_true.1 hn u hmem
    rw [List.getElem?_map] at hu
    obtain ⟨x, _, rfl⟩ := Option.map_eq_some_iff.1 hu
    simp [notU8] at this
  rw [World.cell?_of_block (w := w) (w' := w') (hg.block b hlt (by simpa using hbg))]
  exact hcu

theorem owns_but {w w' : World} {base : Nat} {e : TypeId} {size : Nat} {v : Value} {n : Nat} {xs : List Value} {g : Nat} {cs : Array Value} {t : TypeId} {fr : Nat × Nat} (h : w.ownsRow base e size v n xs) (hg : w.grownBy w' (some g)) (hb : w.heap[g]? = some (.cells cs t fr)) (hne : t ≠ e) : w'.ownsRow base e size v n xs := by
  refine h.kept hg ?_
  obtain ⟨_, ⟨rfl, _⟩ | ⟨k, cap, cur, rfl, _, hk, _⟩⟩ := h
  · exact .inl rfl
  · refine .inr ?_
    simp only [Value.ownBlock, ne_eq, Option.some.injEq]
    rintro rfl
    rw [hk] at hb
    simp at hb
    exact hne hb.2.1.symm

theorem results_row_tmp {fn : Func} {p u : Tmp} {ty : TypeId} (h : fn.results = #[.cell p ty, .tmp u]) (tmps : Array Value) (w : World) (g : Nat) (t : TypeId) (cs : Array Value) (fr : Nat × Nat) (fs : Array Field) (v : Value)
    (hp : tmps.getD p undef = .pointer (some ⟨g, 0, none⟩)) (hv : tmps.getD u undef = v) (hg : w.heap[g]? = some (.cells cs t fr))
    (hu : Tryd.prog.underlying ty = some (.struct fs)) (hi : (Tryd.prog.info? ty).map (·.size) = some cs.size) :
    (results fn tmps).run Tryd.prog w = .ok (.tuple #[.agg cs, v]) w := by
  rw [results_cell_tmp h, hp, hv]
  simp [asAddr, run_loadVar_row w g t ty cs fr _ hg hu rfl hi, Result.andThen]

theorem info_ev : (Tryd.prog.info? 43).map (fun i => (i.zero, i.size, i.bytes)) = some (some (.agg #[.int .i64 0, .int .i64 0, .int .i64 0, .int .i64 0, .int .i64 0, S8 [], .slice none 0 0]), 7, 80) := by kernel_rfl

section
variable {ops : Array Oper} {rest : List Oper} {o : Oper} {a : Act} {Q : Exit → Act → World → Prop} {w : World}
/-- append of one event. -/
theorem app_ev (hgd : o.guard = none) (s x : Operand) (ho : o.op = .call { callee := .builtin .append, args := #[s, x], argTypes := #[24, 24] })
    (base : Nat) (v : Value) (n : Nat) (xs : List Value) (hs : a.eval s = v) (hown : w.ownsRow base 43 7 v n xs)
    (g c : Nat) (news : List Value) (hx : a.eval x = .slice (some ⟨g, 0, none⟩) 1 c) (hl : news.length = 7) {fr : Nat × Nat} (hg : w.heap[g]? = some (.cells news.toArray 43 fr)) (h1 : news.all (·.oneCell') = true)
    (hb : n ≤ 10000000) (hbase : base ≤ w.heap.size)
    (h : ∀ v' w', w'.ownsRow base 43 7 v' (n + 1) (xs ++ news) → w.grownBy w' v.ownBlock → wpList Tryd.prog ops Q rest (a.put o.dst v') w') : wpList Tryd.prog ops Q (o :: rest) a w :=
  app_any _ _ _ 7 80 Tryd.underlying24 info_ev rfl (by omega) hgd s x ho base v n _ hs hown ⟨g, 0, none⟩ 1 c _ hx (by simpa using hl) (by simpa using news_of_block hg) (fun u hu => List.all_eq_true.1 h1 u hu) (by omega) (by omega) hbase
    (fun v' w' h1 h2 _ => h v' w' h1 h2)
end

end Go.Proofs.YthfkohppillflaaDoor
