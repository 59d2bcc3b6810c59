/- Appends to slices that the call itself made, by element type; a new block's cells. Conditions: as each theorem states. -/
import Derived.Test.YthfkohppillflaaDoorNames
import Derived.BigQuiet
import Derived.Lib.SlBytesRow
namespace Go.Proofs.YthfkohppillflaaDoor
open Go Go.RowKit

theorem news_of_block {w : World} {g : Nat} {cs : Array Value} {t : TypeId} {fr : Nat × Nat} (h : w.heap[g]? = some (.cells cs t fr)) : ∀ j u, cs.toList[j]? = some u → w.cell? ((⟨g, 0, none⟩ : Addr).add j) = some u := by
  intro j u hu
  have hu' : cs[j]? = some u := by simpa using hu
  by_cases hj : j = 0
  · subst hj; simp [World.cell?, h, Addr.add, hu']
  · simp [World.cell?, h, Addr.add, hj, hu']

theorem owns_ext_app {w wr w3 : World} {e : TypeId} {size : Nat} {v : Value} {n : Nat} {xs : List Value} (hx : Ext w wr) (hown : wr.ownsRow w.heap.size e size v n xs) (hg : wr.grownBy w3 v.ownBlock) : Ext w w3 :=
  Below.grown hx hg hx.size (fun k hk => (hown.lt k hk).1)

section
variable {ops : Array Oper} {rest : List Oper} {o : Oper} {a : Act} {Q : Exit → Act → World → Prop} {w : World}

theorem app_any (t e : TypeId) (z : Value) (size bytes : Nat) (ht : Tryd.prog.underlying t = some (.slice e)) (hinfo : (Tryd.prog.info? e).map (fun i => (i.zero, i.size, i.bytes)) = some (some z, size, bytes)) (hzs : z.cells.size = size) (hsz : 0 < size)
    (hgd : o.guard = none) (s x : Operand) (ho : o.op = .call { callee := .builtin .append, args := #[s, x], argTypes := #[t, t] })
    (base : Nat) (v : Value) (n : Nat) (xs : List Value) (hs : a.eval s = v) (hown : w.ownsRow base e size v n xs)
    (ad : Addr) (m c : Nat) (news : List Value) (hx : a.eval x = .slice (some ad) m c) (hl : news.length = m * size) (hnews : ∀ j u, news[j]? = some u → w.cell? (ad.add j) = some u) (h1 : ∀ u ∈ news, u.oneCell' = true)
    (hb : (n + m) * bytes ≤ 140737488355328) (hb2 : n + m ≤ 140737488355328) (hbase : base ≤ w.heap.size)
    (h : ∀ v' w', w'.ownsRow base e size v' (n + m) (xs ++ news) → w.grownBy w' v.ownBlock → (v' = .slice none 0 0 ↔ v = .slice none 0 0 ∧ m = 0) → wpList Tryd.prog ops Q rest (a.put o.dst v') w') : wpList Tryd.prog ops Q (o :: rest) a w := by
  obtain ⟨i0, hi, hz0, hz1, hz2⟩ := info_parts hinfo
  exact wpList_append_own w hgd s x t ho base e i0 z size bytes ht hi hz0 hz1 hz2 hzs hsz v n xs hs hown ad m c news hx hl hnews h1 (by unfold maxLen; omega) hb hbase h
end

theorem info_u8 : (Tryd.prog.info? 5).map (fun i => (i.zero, i.size, i.bytes)) = some (some (.int .u8 0), 1, 1) := by kernel_rfl
theorem info_str : (Tryd.prog.info? 9).map (fun i => (i.zero, i.size, i.bytes)) = some (some (S8 []), 1, 16) := by kernel_rfl
theorem info_int : (Tryd.prog.info? 3).map (fun i => (i.zero, i.size, i.bytes)) = some (some (.int .i64 0), 1, 8) := by kernel_rfl

section
variable {ops : Array Oper} {rest : List Oper} {o : Oper} {a : Act} {Q : Exit → Act → World → Prop} {w : World}
/-- append of bytes that lie in a block known whole. -/
theorem app_u8 (hgd : o.guard = none) (s x : Operand) (ho : o.op = .call { callee := .builtin .append, args := #[s, x], argTypes := #[22, 22] })
    (base : Nat) (v : Value) (n : Nat) (l : B8) (hs : a.eval s = v) (hown : w.ownsRow base 5 1 v n (l.map fun x => .int .u8 x.toNat))
    (g m c : Nat) (news : B8) (hx : a.eval x = .slice (some ⟨g, 0, none⟩) m c) (hl : news.length = m) {fr : Nat × Nat} (hg : w.heap[g]? = some (.cells (news.map fun x => Value.int .u8 x.toNat).toArray 5 fr))
    (hb : n + m ≤ 140737488355328) (hbase : base ≤ w.heap.size)
    (h : ∀ v' w', w'.ownsRow base 5 1 v' (n + m) ((l ++ news).map fun x => .int .u8 x.toNat) → w.grownBy w' v.ownBlock → wpList Tryd.prog ops Q rest (a.put o.dst v') w') : wpList Tryd.prog ops Q (o :: rest) a w :=
  app_any _ _ _ 1 1 Tryd.underlying22 info_u8 rfl (by omega) hgd s x ho base v n _ hs hown ⟨g, 0, none⟩ m c _ hx (by simpa using hl) (news_of_block hg) (by intro u hu; obtain ⟨_, _, rfl⟩ := List.mem_map.1 hu; rfl) (by omega) hb hbase
    (fun v' w' h1 h2 _ => h v' w' (by rw [List.map_append]; exact h1) h2)
/-- append of texts. -/
theorem app_str (hgd : o.guard = none) (s x : Operand) (ho : o.op = .call { callee := .builtin .append, args := #[s, x], argTypes := #[53, 53] })
    (base : Nat) (v : Value) (n : Nat) (l : List B8) (hs : a.eval s = v) (hown : w.ownsRow base 9 1 v n (l.map S8))
    (g m c : Nat) (news : List B8) (hx : a.eval x = .slice (some ⟨g, 0, none⟩) m c) (hl : news.length = m) {fr : Nat × Nat} (hg : w.heap[g]? = some (.cells (news.map S8).toArray 9 fr))
    (hb : n + m ≤ 1000000000) (hbase : base ≤ w.heap.size)
    (h : ∀ v' w', w'.ownsRow base 9 1 v' (n + m) ((l ++ news).map S8) → w.grownBy w' v.ownBlock → wpList Tryd.prog ops Q rest (a.put o.dst v') w') : wpList Tryd.prog ops Q (o :: rest) a w :=
  app_any _ _ _ 1 16 Tryd.underlying53 info_str rfl (by omega) hgd s x ho base v n _ hs hown ⟨g, 0, none⟩ m c _ hx (by simpa using hl) (news_of_block hg) (by intro u hu; obtain ⟨_, _, rfl⟩ := List.mem_map.1 hu; rfl) (by omega) (by omega) hbase
    (fun v' w' h1 h2 _ => h v' w' (by rw [List.map_append]; exact h1) h2)
/-- append of numbers. -/
theorem app_int (hgd : o.guard = none) (s x : Operand) (ho : o.op = .call { callee := .builtin .append, args := #[s, x], argTypes := #[23, 23] })
    (base : Nat) (v : Value) (n : Nat) (l : List Int) (hs : a.eval s = v) (hown : w.ownsRow base 3 1 v n (l.map fun x => .int .i64 x))
    (g m c : Nat) (news : List Int) (hx : a.eval x = .slice (some ⟨g, 0, none⟩) m c) (hl : news.length = m) {fr : Nat × Nat} (hg : w.heap[g]? = some (.cells (news.map fun x => Value.int .i64 x).toArray 3 fr))
    (hb : n + m ≤ 1000000000) (hbase : base ≤ w.heap.size)
    (h : ∀ v' w', w'.ownsRow base 3 1 v' (n + m) ((l ++ news).map fun x => .int .i64 x) → w.grownBy w' v.ownBlock → wpList Tryd.prog ops Q rest (a.put o.dst v') w') : wpList Tryd.prog ops Q (o :: rest) a w :=
  app_any _ _ _ 1 8 Tryd.underlying23 info_int rfl (by omega) hgd s x ho base v n _ hs hown ⟨g, 0, none⟩ m c _ hx (by simpa using hl) (news_of_block hg) (by intro u hu; obtain ⟨_, _, rfl⟩ := List.mem_map.1 hu; rfl) (by omega) (by omega) hbase
    (fun v' w' h1 h2 _ => h v' w' (by rw [List.map_append]; exact h1) h2)
end

/-- string(b). -/
theorem conv_bytes {w : World} {v : Value} {l : B8} (h : IsBytes w v l) : (convert 22 9 v).run Tryd.prog w = .ok (S8 l) w := by
  obtain ⟨a, cap, rfl, h1, h2, h3, h4⟩ := h
  cases l with
  | nil =>
    cases a with
    | none => exact run_convert_bytes_nil w 22 5 Tryd.underlying22 Tryd.underlying5 _ _ 9 Tryd.underlying9
    | some ad =>
      rw [run_convert_bytes_string w 22 9 5 _ _ _ Tryd.underlying22 Tryd.underlying5 Tryd.underlying9, run_bytesToString w ad _ cap [] (by simpa using run_loadCells_list (P := Tryd.prog) w ad [] (by intro j v hj; simp at hj))]
      rfl
  | cons x l =>
    obtain ⟨b, o, rfl, hc⟩ := h4 (by simp)
    exact Lib.run_convert_whole w 22 5 9 Tryd.underlying22 Tryd.underlying5 Tryd.underlying9 b o ⟨(x :: l).toArray⟩ (fun i hi => hc i _ (by
      have hi' : i < (x :: l).length := hi
      rw [List.getElem?_map, List.getElem?_eq_getElem hi']
      rfl)) cap

end Go.Proofs.YthfkohppillflaaDoor
