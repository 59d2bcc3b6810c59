/- names.Copy. Conditions: as each theorem states. -/
import Derived.Test.YtalpfoomkhhgnaaGreatDoorZag
import Derived.Test.YtalpfoomkhhgnaaGreatDoorZah
import Derived.Test.YtalpfoomkhhgnaaGreatDoorZad
import Derived.Lib.SliceRun
import Derived.Lib.SlKept
import Derived.Shelf.SlicesQ.IndexFunc
import Derived.Shelf.SlicesE.DeleteFunc
import Derived.Test.YtalpfoomkhhgnaaGreatDoorZaf
import Derived.Test.YtalpfoomkhhgnaaGreatDoorShelf
import Derived.Shelf.SlicesQ.Equal
import Derived.Shelf.SlSortCmp.NoneTotal
import Derived.Test.YtalpfoomkhhgnaaGreatDoorZae
import Derived.Deep.Upon
import Derived.Test.YtalpfoomkhhgnaaGreatDoorZab
import Derived.Laws.StructEq
import Derived.Test.YtalpfoomkhhgnaaGreatDoorZaa
import Derived.Laws.Tables

set_option linter.unusedVariables false
set_option linter.unusedSimpArgs false

/-! A table's rows in memory of the call's own: cloned, sorted in place. Conditions: as each theorem states. -/
namespace Go.Proofs.YtalpfoomkhhgnaaGreatDoor
open Go Go.Shelf Go.RowKit Go.Lib Go.Sort
set_option linter.unusedVariables false
set_option linter.unusedSimpArgs false
set_option linter.unusedSectionVars false

instance : Inhabited Rw := ⟨zRw⟩
theorem rwC_len (x : Rw) : (rwC x).length = 3 := rfl
theorem rwC_one (x : Rw) : ∀ v ∈ rwC x, v.oneCell' = true := by intro v hv; simp [rwC] at hv; rcases hv with rfl | rfl | rfl <;> rfl
theorem flat_rwL (l : List Rw) : (l.flatMap rwC).length = l.length * 3 := by
  induction l with
  | nil => rfl
  | cons c l ih => rw [List.flatMap_cons, List.length_append, ih, List.length_cons]; show 3 + _ = _; omega
theorem flat_at (l : List Rw) (j : Nat) (hj : j < l.length * 3) : (l.flatMap rwC)[j]? = some (flatK rwC 3 l.toArray)[j]! := by
  have hk : j / 3 < l.length := by omega
  rw [get_flatK _ _ _ j (by simpa using hj)]
  obtain ⟨x, hx⟩ : ∃ x, l[j / 3]? = some x := ⟨_, List.getElem?_eq_getElem hk⟩
  have hx2 : l.toArray[j / 3]! = x := by
    rw [getElem!_pos l.toArray (j / 3) (by simpa using hk)]
    rw [List.getElem?_eq_getElem hk] at hx
    simpa using hx
  rw [hx2]
  obtain ⟨e0, e1, e2⟩ := flat_rw l _ x hx
  have hm : j % 3 < 3 := Nat.mod_lt _ (by omega)
  have hd : j = 3 * (j / 3) + j % 3 := (Nat.div_add_mod j 3).symm
  obtain ⟨c, hc⟩ : ∃ c, j % 3 = c := ⟨_, rfl⟩
  rw [hc] at hm hd ⊢
  rw [hd]
  match c, hm with
  | 0, _ => exact e0
  | 1, _ => exact e1
  | 2, _ => exact e2
section
variable {w W : World} {base g n cap : Nat} {e : TypeId}
theorem own_cells {l : List Rw} (h : w.ownsRow base e 3 (.slice (some ⟨g, 0, none⟩) n cap) n (l.flatMap rwC)) : n = l.length ∧ base ≤ g ∧ n ≤ cap ∧ cap ≤ maxLen ∧ ∃ cur, w.heap[g]? = some (.cells cur e (0, 0)) ∧ cur.size = cap * 3 ∧ cur.toList.take (n * 3) = l.flatMap rwC := by
  have h0 := h.1
  rw [flat_rwL] at h0
  rcases h.2 with ⟨h1, -⟩ | ⟨g', c', cur, h1, h2, h3, h4, h5, h6, h7⟩
  · cases h1
  · cases h1
    exact ⟨by omega, h2, h4, h5, cur, h3, h6, h7⟩
theorem own_holds {l : List Rw} (h : w.ownsRow base e 3 (.slice (some ⟨g, 0, none⟩) n cap) n (l.flatMap rwC)) : HoldsK rwC 3 w g 0 l.toArray := by
  obtain ⟨hn, -, -, -, cur, hb, -, ht⟩ := own_cells h
  intro j hj
  have hj3 : j < l.length * 3 := by simpa using hj
  have h1 := flat_at l j hj3
  rw [← ht, List.getElem?_take_of_lt (by omega), Array.getElem?_toList] at h1
  rw [Nat.zero_add]
  exact ⟨by simp [World.cell?, hb, h1], by simp [World.frozen?, hb]⟩
theorem own_lt {l : List Rw} (h : w.ownsRow base e 3 (.slice (some ⟨g, 0, none⟩) n cap) n (l.flatMap rwC)) : g < w.heap.size := by
  obtain ⟨-, -, -, -, cur, hb, -⟩ := own_cells h
  exact (Array.getElem?_eq_some_iff.1 hb).1
/-- A world of the sort's: the row's block alone is changed. -/
theorem swk_grown {d : Array Rw} (S : SWK rwC 3 w g 0 d W) : w.grownBy W (some g) := by
  obtain ⟨m, os, rfl⟩ := S
  refine ⟨rfl, rfl, rfl, by rw [show (sortWorldK rwC 3 w g 0 m d os).heap.size = _ from size_grow _ _, size_putRowK]; exact Nat.le_add_right _ _, fun k hk hne => ?_⟩
  have hne' : ¬ g = k := fun h => hne (by rw [h])
  show (((Go.Sort.ahead w m).heap.modify g _) ++ os)[k]? = _
  rw [Array.getElem?_append_left (by simpa using hk), Array.getElem?_modify, if_neg hne']
  rfl
theorem swk_own {l : List Rw} {d : Array Rw} (h : w.ownsRow base e 3 (.slice (some ⟨g, 0, none⟩) n cap) n (l.flatMap rwC)) (S : SWK rwC 3 w g 0 d W) (hs : d.size = l.length) : W.ownsRow base e 3 (.slice (some ⟨g, 0, none⟩) n cap) n (d.toList.flatMap rwC) := by
  obtain ⟨hn, hbg, hc1, hc2, cur, hb, hcs, -⟩ := own_cells h
  obtain ⟨m, os, rfl⟩ := S
  have hg := (Array.getElem?_eq_some_iff.1 hb).1
  refine ⟨by rw [flat_rwL, Array.length_toList, hs, hn], .inr ⟨g, cap, putCells _root_.id 0 (flatK rwC 3 d) cur, rfl, hbg, ?_, hc1, hc2, by simp [putCells, hcs], ?_⟩⟩
  · show (((Go.Sort.ahead w m).heap.modify g _) ++ os)[g]? = _
    rw [Array.getElem?_append_left (by simpa using hg), Array.getElem?_modify, if_pos rfl]
    show (w.heap[g]?).map _ = _
    rw [hb]
    rfl
  · apply List.ext_getElem?
    intro j
    by_cases hj : j < n * 3
    · rw [List.getElem?_take_of_lt hj, Array.getElem?_toList]
      have hjd : j < d.toList.length * 3 := by rw [Array.length_toList, hs]; omega
      have h2 := flat_at d.toList j hjd
      rw [h2]
      have hjc : j < cur.size := by
        rw [hcs]
        exact Nat.lt_of_lt_of_le hj (Nat.mul_le_mul_right 3 hc1)
      simp only [putCells, Array.getElem?_mapIdx, Array.getElem?_eq_getElem hjc, Option.map_some]
      rw [if_pos ⟨Nat.zero_le _, by rw [Nat.zero_add, size_flatK, hs]; omega⟩]
      simp
    · rw [List.getElem?_eq_none (by rw [List.length_take]; omega), List.getElem?_eq_none (by rw [flat_rwL, Array.length_toList, hs]; omega)]
end

set_option maxRecDepth 100000 in
set_option maxHeartbeats 1000000 in
theorem clone_rws {w : World} {v : Value} {l : List Rw} (hv : IsRws w v l) (hn : l.length ≤ 10000000) :
    Calls Tryz.prog 23 #[v] w fun e w' => (∃ v', e = .returned v' ∧ w'.ownsRow w.heap.size 30 3 v' l.length (l.flatMap rwC)) ∧ Ext w w' := by
  obtain ⟨a, cap, rfl, r1, r2, r3, r4⟩ := hv
  obtain ⟨n, hnn⟩ : ∃ n, n = l.length := ⟨_, rfl⟩
  have hl : (l.flatMap rwC).length = n * 3 := by rw [flat_rwL, hnn]
  have h1 : ∀ u ∈ l.flatMap rwC, u.oneCell' = true := by
    intro u hu
    obtain ⟨x, -, hx⟩ := List.mem_flatMap.1 hu
    exact rwC_one x u hx
  obtain ⟨xs, hxs⟩ : ∃ xs, l.flatMap rwC = xs := ⟨_, rfl⟩
  rw [hxs] at hl h1 r4 ⊢
  rw [← hnn] at hn r1 r3 ⊢
  clear hnn hxs
  have hq : ∀ W : World, (binOp .eql 22 (.slice a n cap) (.slice none 0 0)).run Tryz.prog W = .ok (.bool a.isNone) W := fun W => Go.Lib.run_eql_slice_nil W _ _ a n cap 0 0 Tryz.underlying22
  cases a with
  | none =>
    have hx : xs = [] := by
      cases xs with
      | nil => rfl
      | cons x l => obtain ⟨b, o, he, _⟩ := r4 (by simp); cases he
    subst hx
    have hn0 : n = 0 := by simp at hl; omega
    subst hn0
    go_enter Tryz.func23, Tryz.ntmps23
    go_wp2
    go_ret
    exact ⟨⟨_, rfl, World.ownsRow_nil _ _ _ _⟩, Ext.refl _⟩
  | some ad =>
    have hxa : Ext w (w.alloc (.cells #[] 30)) := (Ext.refl _).alloc _
    have hnews : ∀ j u, xs[j]? = some u → (w.alloc (.cells #[] 30)).cell? (ad.add j) = some u := fun j u hu => by
      obtain ⟨b, o, he, hc⟩ := r4 (by rintro rfl; simp at hu)
      cases he
      rw [show (⟨b, o, none⟩ : Addr).add j = ⟨b, o + j, none⟩ by unfold Addr.add; split <;> simp_all]
      exact hxa.cell (hc j u hu)
    have HN : Hid _ := hnews
    have H1 : Hid _ := h1
    have HL : Hid _ := hl
    have HOE : Hid ((w.alloc (.cells #[] 30)).ownsRow w.heap.size 30 3 (.slice (some ⟨w.heap.size, 0, none⟩) 0 0) 0 []) := ⟨by simp, .inr ⟨w.heap.size, 0, #[], rfl, Nat.le_refl _, alloc_at _ _, Nat.le_refl _, Nat.zero_le _, by simp, by simp⟩⟩
    clear hnews r4 h1 hl
    go_enter Tryz.func23, Tryz.ntmps23
    go_wp2_with (at_builtin; go_must (refine app_any _ _ _ 3 40 Tryz.underlying22 info_rw rfl (by omega) rfl _ _ rfl w.heap.size _ 0 [] rfl HOE.out ad n cap xs rfl HL.out HN.out H1.out (by omega) (by omega) (by simp) ?_); intro v' w2 hown hgr _)
    simp only [Nat.zero_add, List.nil_append] at hown
    have hx2 : Ext w w2 := Below.grown hxa hgr hxa.size (fun k hk => by cases hk; exact Nat.le_refl _)
    go_wp2
    go_ret
    exact ⟨⟨_, rfl, hown⟩, hx2⟩
end Go.Proofs.YtalpfoomkhhgnaaGreatDoor

/-! slices.DeleteFunc at a table's rows. Conditions: as each theorem states. -/
namespace Go.Proofs.YtalpfoomkhhgnaaGreatDoor
open Go Go.Shelf Go.RowKit Go.Lib Go.Sort
set_option linter.unusedVariables false
set_option linter.unusedSimpArgs false
set_option linter.unusedSectionVars false

/-- W is w with the block's first cells holding F, and with what was laid since. -/
def FlatW (w : World) (g : Nat) (F : Array Value) (W : World) : Prop := ∃ m os, W = grow (putRow _root_.id (Go.Sort.ahead w m) g 0 F) os
section
variable {w W : World} {g : Nat} {F : Array Value}
theorem FlatW.start {F : Array Value} (h : Holds _root_.id w g 0 F) : FlatW w g F w := ⟨0, #[], by rw [grow_empty, ahead_zero, putRow_self _root_.id w g 0 F h]⟩
theorem FlatW.size (h : FlatW w g F W) : w.heap.size ≤ W.heap.size := by
  obtain ⟨m, os, rfl⟩ := h
  rw [size_grow]
  simp [putRow, mapBlock, ahead]
theorem FlatW.ext (h : FlatW w g F W) (hg : g < w.heap.size) {W' : World} (hx : ∃ n os, W' = grow (W.drewN n) os) : FlatW w g F W' := by
  obtain ⟨m, os, rfl⟩ := h
  obtain ⟨n, os', rfl⟩ := hx
  refine ⟨m + n, os ++ os', ?_⟩
  rw [show (grow (putRow _root_.id (Go.Sort.ahead w m) g 0 F) os).drewN n = grow ((putRow _root_.id (Go.Sort.ahead w m) g 0 F).drewN n) os from rfl, grow_grow, Go.Proofs.putRow_drewN]
theorem FlatW.set (h : FlatW w g F W) (hg : g < w.heap.size) (s : Nat) (vs : List Value) (hs : s + vs.length ≤ F.size) : FlatW w g (setMany F s vs) (W.setCells g s vs) := by
  obtain ⟨m, os, rfl⟩ := h
  refine ⟨m, os, ?_⟩
  rw [setCells_grow os g vs s _ (by simpa [putRow, mapBlock, ahead] using hg)]
  have := setCells_putRow (Go.Sort.ahead w m) g 0 vs s F hs
  rw [Nat.zero_add] at this
  rw [this]
theorem FlatW.holds (h : FlatW w g F W) (hg : g < w.heap.size) {F0 : Array Value} (h0 : Holds _root_.id w g 0 F0) (hs : F.size = F0.size) : Holds _root_.id W g 0 F := by
  obtain ⟨m, os, rfl⟩ := h
  exact holds_grow _root_.id _ os g 0 F (by simpa [putRow, mapBlock, ahead] using hg) (holds_putRow _root_.id _ g 0 F0 F (holds_ahead _root_.id w m g 0 F0 h0) hs)
theorem FlatW.grown (h : FlatW w g F W) : w.grownBy W (some g) := by
  obtain ⟨m, os, rfl⟩ := h
  refine ⟨rfl, rfl, rfl, by rw [size_grow]; simp [putRow, mapBlock, ahead], fun k hk hne => ?_⟩
  have hne' : ¬ g = k := fun h => hne (by rw [h])
  show (((Go.Sort.ahead w m).heap.modify g _) ++ os)[k]? = _
  rw [Array.getElem?_append_left (by simpa using hk), Array.getElem?_modify, if_neg hne']
  rfl
theorem FlatW.cell (h : FlatW w g F W) {b : Nat} {v : Value} (hc : w.cell? ⟨b, 0, none⟩ = some v) (hne : b ≠ g) : W.cell? ⟨b, 0, none⟩ = some v := by
  have hb := World.block_lt_of_cell? _ _ hc
  rw [World.cell?_of_block (w := w) (w' := W) (a := ⟨b, 0, none⟩) (h.grown.block b hb (by intro he; cases he; exact hne rfl))]
  exact hc
theorem FlatW.own {base n cap i : Nat} {e : TypeId} {xs ys : List Value} (h : w.ownsRow base e 3 (.slice (some ⟨g, 0, none⟩) n cap) n xs) (S : FlatW w g F W) (hF : F.size = n * 3) (hi : i ≤ n) (hy : ys.length = i * 3) (hx : ∀ j, j < i * 3 → ys[j]? = some F[j]!) : W.ownsRow base e 3 (.slice (some ⟨g, 0, none⟩) i cap) i ys := by
  rcases h.2 with ⟨h1, -⟩ | ⟨g', c', cur, h1, h2, h3, h4, h5, h6, h7⟩
  · cases h1
  · cases h1
    obtain ⟨m, os, rfl⟩ := S
    have hg := (Array.getElem?_eq_some_iff.1 h3).1
    refine ⟨hy, .inr ⟨g, cap, putCells _root_.id 0 F cur, rfl, h2, ?_, by omega, h5, by simp [putCells, h6], ?_⟩⟩
    · show (((Go.Sort.ahead w m).heap.modify g _) ++ os)[g]? = _
      rw [Array.getElem?_append_left (by simpa using hg), Array.getElem?_modify, if_pos rfl]
      show (w.heap[g]?).map _ = _
      rw [h3]
      rfl
    · apply List.ext_getElem?
      intro j
      by_cases hj : j < i * 3
      · rw [List.getElem?_take_of_lt hj, Array.getElem?_toList, hx j hj]
        have hjn : j < n * 3 := Nat.lt_of_lt_of_le hj (Nat.mul_le_mul_right 3 hi)
        have hjc : j < cur.size := by
          rw [h6]
          exact Nat.lt_of_lt_of_le hjn (Nat.mul_le_mul_right 3 h4)
        simp only [putCells, Array.getElem?_mapIdx, Array.getElem?_eq_getElem hjc, Option.map_some]
        rw [if_pos ⟨Nat.zero_le _, by rw [Nat.zero_add, hF]; exact hjn⟩]
        simp
      · rw [List.getElem?_eq_none (by rw [List.length_take]; omega), List.getElem?_eq_none (by omega)]
end
theorem flatK_set (dk : Array Rw) (i : Nat) (u : Rw) (hi : i < dk.size) : setMany (flatK rwC 3 dk) (i * 3) (rwC u) = flatK rwC 3 (dk.setIfInBounds i u) := by
  refine ext_get! (by simp) fun t ht => ?_
  have ht' : t < dk.size * 3 := by simpa using ht
  rw [get_setMany _ _ _ t (by simpa using ht'), get_flatK _ _ _ t ht', get_flatK _ _ _ t (by simpa using ht')]
  have hl : (rwC u).length = 3 := rfl
  rw [hl]
  by_cases a : t / 3 = i
  · rw [if_pos ((blk_iff 3 i t (by omega)).2 a), a, getElem!_set_same dk i u hi]
    congr 1
    omega
  · rw [if_neg (fun h => a ((blk_iff 3 i t (by omega)).1 h)), getElem!_set_other dk i _ u a]
/-- clear at rows. -/
theorem run_clear_rows {w w2 : World} (ty : TypeId) (b o n c : Nat) (hn : 0 < n) (hst : ∀ vs : List Value, vs.length = n * 3 → (∀ v ∈ vs, v.oneCell' = true) → Sem.run Tryz.prog (storeCells ⟨b, o, none⟩ vs 0) w = .ok () (w.setCells b o vs)) :
    ∃ vs : List Value, vs.length = n * 3 ∧ (Builtin.clear_ #[22] ty #[.slice (some ⟨b, o, none⟩) n c]).run Tryz.prog w = .ok (.tuple #[]) (w.setCells b o vs) := by
  obtain ⟨m, rfl⟩ : ∃ m, n = m + 1 := ⟨n - 1, by omega⟩
  have hz : ∀ w, (zeroValue 30).run Tryz.prog w = .ok (.agg #[S8 [], .int .i64 0, S8 []]) w := fun w => by kernel_rfl
  have h1 := hst (Builtin.zeroCells #[S8 [], .int .i64 0, S8 []] (m + 1)).toList (by simp [Builtin.zeroCells]) (by
    intro v hv
    simp only [Builtin.zeroCells, Array.toList_map, List.mem_map] at hv
    obtain ⟨i, -, rfl⟩ := hv
    have : i % 3 < 3 := Nat.mod_lt _ (by omega)
    obtain ⟨q, hq⟩ : ∃ q, i % 3 = q := ⟨_, rfl⟩
    show (#[S8 [], .int .i64 0, S8 []][i % 3]!).oneCell' = true
    rw [hq] at this ⊢
    match q, this with
    | 0, _ => rfl
    | 1, _ => rfl
    | 2, _ => rfl)
  refine ⟨(Builtin.zeroCells #[S8 [], .int .i64 0, S8 []] (m + 1)).toList, by simp [Builtin.zeroCells], ?_⟩
  have hc : (Value.agg #[S8 [], .int .i64 0, S8 []]).cells = #[S8 [], .int .i64 0, S8 []] := rfl
  simp [Builtin.clear_, run_underlying Tryz.underlying22, hz, hc, h1]
section
variable {ops : Array Oper} {rest : List Oper} {o : Oper} {a : Act} {Q : Exit → Act → World → Prop} {w : World}
/-- A store of a row among rows. -/
theorem store_row_at (hgd : o.guard = none) (x y : Operand) (ho : o.op = .store 30 x y) (g j : Nat) (hx : a.eval x = .pointer (some ⟨g, j, none⟩)) (r : Rw) (hy : a.eval y = .agg #[S8 r.path, .int .i64 r.mode, S8 r.id]) (w2 : World) (hs : Sem.run Tryz.prog (storeCells ⟨g, j, none⟩ (rwC r) 0) w = .ok () w2)
    (h : wpList Tryz.prog ops Q rest (a.put o.dst undef) w2) : wpList Tryz.prog ops Q (o :: rest) a w :=
  wpList_plain hgd fun _ hK => by
    have hc : (Value.agg #[S8 r.path, .int .i64 r.mode, S8 r.id]).cells.toList = rwC r := rfl
    have hcs : (Value.agg #[S8 r.path, .int .i64 r.mode, S8 r.id]).cells.size = 3 := rfl
    have hsz : ∀ w, (Go.sizeOf 30).run Tryz.prog w = .ok 3 w := fun w => Tryz.sizeOf30 w
    have hr : (storeVar 30 ⟨g, j, none⟩ (.agg #[S8 r.path, .int .i64 r.mode, S8 r.id])).run Tryz.prog w = .ok () w2 := by
      simp [storeVar, hsz, hc, hcs, hs]
    unfold Oper.wp execOp
    simp only [ho, hx, hy, Instr.storeAt, Instr.sureAddr, Sem.run_bind, Sem.run_pure, Result.andThen_ok, hr]
    exact hK _ _ h
end
theorem setPred_any (p : B8) (x : Rw) (bx : Nat) (W : World) (hc : W.cell? ⟨bx, 0, none⟩ = some (S8 p)) : Calls Tryz.prog 24 #[.agg (rwC x).toArray, .pointer (some ⟨bx, 0, none⟩)] W fun e w' => e = .returned (.bool (x.path == p)) ∧ ∃ os, w' = grow W os := by
  have htx : (⟨x.path.toArray⟩ : ByteArray).toList = x.path := Lib.toList_data _
  have htp : (⟨p.toArray⟩ : ByteArray).toList = p := Lib.toList_data _
  have hbx := World.block_lt_of_cell? _ _ hc
  have hx1 : Ext W (W.alloc (.cells #[S8 x.path, .int .i64 x.mode, S8 x.id] 30)) := (Ext.refl _).alloc _
  have hc2 := hx1.cell hc
  show Calls Tryz.prog 24 #[.agg #[S8 x.path, .int .i64 x.mode, S8 x.id], .pointer (some ⟨bx, 0, none⟩)] W _
  obtain ⟨z, hz⟩ : ∃ z, (x.path == p) = z := ⟨_, rfl⟩
  rw [hz]
  go_enter Tryz.func24, Tryz.ntmps24
  go_wp2
  go_ret
  exact ⟨rfl, #[.cells #[S8 x.path, .int .i64 x.mode, S8 x.id] 30], alloc_eq_grow _ _⟩
end Go.Proofs.YtalpfoomkhhgnaaGreatDoor

/-! slices.DeleteFunc at a table's rows: walked. Conditions: as each theorem states. -/
namespace Go.Proofs.YtalpfoomkhhgnaaGreatDoor
open Go Go.Shelf Go.RowKit Go.Lib Go.Sort
set_option linter.unusedVariables false
set_option linter.unusedSimpArgs false
set_option linter.unusedSectionVars false

theorem rows_cell {W : World} {g j : Nat} {d : Array Rw} (h : HoldsK rwC 3 W g 0 d) (hj : j < d.size) : W.cell? ⟨g, j * 3, none⟩ = some (S8 d[j]!.path) ∧ W.cell? ⟨g, j * 3 + 1, none⟩ = some (.int .i64 d[j]!.mode) ∧ W.cell? ⟨g, j * 3 + 2, none⟩ = some (S8 d[j]!.id) := by
  have e0 := (h.cell (i := j) (c := 0) hj (by omega)).1
  have e1 := (h.cell (i := j) (c := 1) hj (by omega)).1
  have e2 := (h.cell (i := j) (c := 2) hj (by omega)).1
  rw [Nat.zero_add] at e0 e1 e2
  exact ⟨e0, e1, e2⟩
theorem toArr_get (l : List Rw) (j : Nat) (hj : j < l.length) : l.toArray[j]! = l[j]! := by
  rw [getElem!_pos l.toArray j (by simpa using hj), getElem!_pos l j hj]
  rfl
theorem kept_del (l : List Rw) (p : B8) : keptUpTo (fun j => !(l.toArray[j]!.path == p)) l.toArray l.toArray.size = delR l p := keptUpTo_filter (fun x => !(x.path == p)) l.toArray

theorem grown_trans {w w1 w2 : World} {g : Nat} (h : Ext w w1) (h2 : w1.grownBy w2 (some g)) : w.grownBy w2 (some g) :=
  ⟨h2.os.trans h.os, h2.tape.trans h.tape, h2.output.trans h.output, Nat.le_trans h.size h2.size, fun k hk hne => (h2.block k (Nat.lt_of_lt_of_le hk h.size) hne).trans (h.block k hk)⟩

set_option maxRecDepth 100000 in
set_option maxHeartbeats 8000000 in
theorem delRows_any (g cap base bx : Nat) (l : List Rw) (p : B8) (w : World) (h : w.ownsRow base 30 3 (.slice (some ⟨g, 0, none⟩) l.length cap) l.length (l.flatMap rwC)) (hbx : w.cell? ⟨bx, 0, none⟩ = some (S8 p)) (hne : bx ≠ g) (hl : l.length ≤ 100000) :
    Calls Tryz.prog 22 #[.slice (some ⟨g, 0, none⟩) l.length cap, .func (.func 24) #[] #[.pointer (some ⟨bx, 0, none⟩)]] w fun e w' => e = .returned (.slice (some ⟨g, 0, none⟩) (delR l p).length cap) ∧ w'.ownsRow base 30 3 (.slice (some ⟨g, 0, none⟩) (delR l p).length cap) (delR l p).length ((delR l p).flatMap rwC) ∧ w.grownBy w' (some g) := by
  have hg := own_lt h
  have hHK := own_holds h
  obtain ⟨-, -, hnc, hcm, -⟩ := own_cells h
  have hcap : cap ≤ 9223372036854775807 := by unfold maxLen at hcm; omega
  have hbl := World.block_lt_of_cell? _ _ hbx
  have eg : ∀ args w, (callFunc 24 args).run Tryz.prog w = .ok (.enter 24 args) w := enters_of Tryz.func24 (by kernel_rfl) rfl
  have hp : PredBelow Tryz.prog 24 #[.pointer (some ⟨bx, 0, none⟩)] (fun x => .agg (rwC x).toArray) (fun x => x.path == p) w := fun W x hW =>
    (setPred_any p x bx W (cell_later hW hbx)).mono fun e w' ⟨he, os, hw⟩ => ⟨he, by rw [hw]; exact Below.trans hW (Below.mono (Ext.of_grow 0 os) hW.size)⟩
  have hIF := AnyQ.slices_IndexFunc Tryz.laysIdxR 3 (fun w => Tryz.isAgg30 w) (fun w => Tryz.sizeOf30 w) rwC rwC_len (fun x => x.path == p) _ _ eg g 0 l.length cap l w hp (Nat.le_refl _) (by omega) hg (fun j hj i v hv => by
    have hj' : j < l.toArray.size := by simpa using hj
    have hi : i < 3 := by have := (List.getElem?_eq_some_iff.1 hv).1; rwa [rwC_len] at this
    have h1 := (hHK.cell hj' hi).1
    rw [toArr_get l j hj] at h1
    rw [h1, ← hv, List.getElem?_eq_getElem (by rw [rwC_len]; exact hi), getElem!_pos _ i (by rw [rwC_len]; exact hi)])
  rw [show l.take l.length = l from List.take_of_length_le (Nat.le_refl _)] at hIF
  obtain ⟨kp, HK⟩ : ∃ kp : Nat → Bool, Hid (kp = fun j => !(l.toArray[j]!.path == p)) := ⟨_, rfl⟩
  have HKD : Hid (keptUpTo kp l.toArray l.toArray.size = delR l p) := by unfold Hid; rw [HK.out]; exact kept_del l p
  have HO : Hid _ := h
  have HBX : Hid _ := hbx
  rcases idxByFrom_spec (fun _ (y : Rw) => y.path == p) default l 0 with ⟨e1, hall⟩ | ⟨k0, hk0, e1, ht, hall⟩
  · have e2 : Lib.idxBy (fun _ (y : Rw) => y.path == p) l default = -1 := e1
    rw [e2] at hIF
    have hdl : delR l p = l := by
      unfold delR
      rw [List.filter_eq_self]
      intro x hx
      obtain ⟨j, hj, rfl⟩ := List.mem_iff_getElem.1 hx
      have := hall j hj
      rw [getElem!_pos l j hj] at this
      simp only [this, Bool.not_false]
    rw [hdl]
    clear hp hHK hall e1 e2 h hbx HKD hdl
    go_enter Tryz.func22, Tryz.ntmps22
    go_wp2_with (go_at_call 56; refine hIF.mono ?_; rintro e w' ⟨rfl, hb'⟩)
    go_ret
    exact ⟨rfl, owns_ext HO.out hb', ⟨hb'.os, hb'.tape, hb'.output, hb'.size, fun k hk _ => hb'.block k hk⟩⟩
  · have e2 : Lib.idxBy (fun _ (y : Rw) => y.path == p) l default = (k0 : Int) := by unfold Lib.idxBy; rw [e1]; simp
    rw [e2] at hIF
    have hkeep : ∀ j, j < k0 → kp j = true := fun j hj => by
      rw [HK.out]
      show (!(l.toArray[j]!.path == p)) = true
      rw [toArr_get l j (by omega), hall j hj]
      rfl
    have hdrop : kp k0 = false := by
      rw [HK.out]
      show (!(l.toArray[k0]!.path == p)) = false
      rw [toArr_get l k0 hk0]
      rw [show (l[k0]!.path == p) = true from ht]
      rfl
    have HKP : Hid (∀ j, j < k0 → kp j = true) := hkeep
    have HDR : Hid (kp k0 = false) := hdrop
    have hne1 : ((k0 : Int) == -1) = false := beq_eq_false_iff_ne.2 (by omega)
    have hwk : IntKind.i64.wrap ((k0 : Int) + 1) = (k0 : Int) + 1 := by rw [IntKind.wrap_i64]; omega
    clear hp hHK hall ht e1 e2 h hbx hkeep hdrop
    go_enter Tryz.func22, Tryz.ntmps22
    go_wp2_with (go_at_call 56; refine hIF.mono ?_; rintro e w1 ⟨rfl, hb1⟩)
    have HO1 : Hid (w1.ownsRow base 30 3 (.slice (some ⟨g, 0, none⟩) l.length cap) l.length (l.flatMap rwC)) := owns_ext HO.out hb1
    have HX1 : Hid (Ext w w1) := hb1
    have HH1 : Hid (HoldsK rwC 3 w1 g 0 l.toArray) := own_holds HO1.out
    have HBX1 : Hid (w1.cell? ⟨bx, 0, none⟩ = some (S8 p)) := HX1.out.cell HBX.out
    have hg1 : g < w1.heap.size := own_lt HO1.out
    clear hb1 hIF
    go_loopg [5, 6] l.length (fun gg s5 s6 wr => ∃ (i j : Nat) (dk : Array Rw), s5 = .int .i64 i ∧ s6 = .int .i64 j ∧ j ≤ l.length ∧ l.length - j ≤ gg ∧ Hid (FlatW w1 g (flatK rwC 3 dk) wr) ∧ Hid (KeptInv kp l.toArray j i dk))
    case atStart => exact ⟨k0, k0 + 1, l.toArray, rfl, by go_num, by omega, by omega, FlatW.start HH1.out, KeptInv.start HKP.out HDR.out⟩
    case round =>
    obtain ⟨i, j, dk, rfl, rfl, hjd, hgg, F2, I2⟩ := hrel
    have hij := I2.out.lt
    have hds : dk.size = l.length := by have := I2.out.size; simpa using this
    have HHK : Hid (HoldsK rwC 3 wr g 0 dk) := F2.out.holds hg1 HH1.out (by rw [size_flatK, size_flatK, I2.out.size])
    by_cases hlt : j < l.length
    case neg =>
      obtain rfl : j = l.length := by omega
      have hltz : ¬ (l.length : Int) < (l.length : Int) := by omega
      have hci : ¬ cap = i := by omega
      obtain ⟨vs, hvl, hcl⟩ := run_clear_rows (w := wr) (w2 := wr) 0 g (i * 3) (l.length - i) (cap - i) (by omega) (fun vs hv h1 => by
        have := stores_of_holds Tryz.prog HHK.out (i * 3) vs (by rw [hv, size_flatK, hds]; omega) h1
        rwa [Nat.zero_add] at this)
      have F3 : Hid (FlatW w1 g (setMany (flatK rwC 3 dk) (i * 3) vs) (wr.setCells g (i * 3) vs)) := F2.out.set hg1 (i * 3) vs (by rw [hvl, size_flatK, hds]; omega)
      have HIL : Hid ((delR l p).length = i) := by unfold Hid; rw [← HKD.out, show l.toArray.size = l.length by simp]; exact I2.out.len
      have HLOW : Hid (∀ q, q < i → (delR l p)[q]? = some dk[q]!) := fun q hq => by rw [← HKD.out, show l.toArray.size = l.length by simp]; exact I2.out.low q hq
      clear HHK I2
      go_wp2
      go_ret
      have hil := HIL.out
      refine ⟨by rw [hil]; rfl, ?_, ?_⟩
      · rw [hil]
        refine F3.out.own HO1.out (by rw [size_setMany, size_flatK, hds]) (by omega) (by rw [flat_rwL, hil]) (fun q hq => ?_)
        rw [flat_at _ q (by rw [hil]; exact hq)]
        have hqs : q < dk.size * 3 := by omega
        rw [get_setMany _ _ _ q (by rw [size_flatK]; exact hqs), if_neg (by omega), get_flatK _ _ _ q (by rw [List.size_toArray, hil]; exact hq), get_flatK _ _ _ q hqs]
        have hq3 : q / 3 < i := by omega
        rw [toArr_get _ _ (by omega)]
        have h9 := HLOW.out (q / 3) hq3
        rw [List.getElem?_eq_getElem (by omega)] at h9
        rw [getElem!_pos (delR l p) (q / 3) (by omega), Option.some.inj h9]
      · exact grown_trans HX1.out F3.out.grown
    have hltz : (j : Int) < (l.length : Int) := by omega
    have hjs : j < dk.size := by omega
    obtain ⟨y0, y1, y2⟩ := rows_cell HHK.out hjs
    obtain ⟨u, hu⟩ : ∃ u, dk[j]! = u := ⟨_, rfl⟩
    rw [hu] at y0 y1 y2
    have HU : Hid (l.toArray[j]! = u) := by unfold Hid; rw [← hu]; exact (I2.out.high j (by omega)).symm
    have hbr := F2.out.cell HBX1.out hne
    clear hu
    go_upto_region 8 with fail
    obtain ⟨w8, hw8⟩ : ∃ w8, w8 = wr.alloc (.cells #[S8 u.path, .int .i64 u.mode, S8 u.id] 30) := ⟨_, rfl⟩
    have F8 : Hid (FlatW w1 g (flatK rwC 3 dk) w8) := by rw [hw8]; exact F2.out.ext hg1 ⟨0, #[_], alloc_eq_grow _ _⟩
    have hb8 : w8.heap[wr.heap.size]? = some (.cells #[S8 u.path, .int .i64 u.mode, S8 u.id] 30 (0, 0)) := by rw [hw8]; exact alloc_at _ _
    rw [← hw8]
    obtain ⟨z0, z1, z2⟩ := cellsAt3 hb8
    obtain ⟨gv, hgv⟩ : ∃ gv, wr.heap.size = gv := ⟨_, rfl⟩
    rw [hgv] at z0 z1 z2 ⊢
    have hcall := setPred_any p u bx w8 (F8.out.cell HBX1.out hne)
    have HST : Hid (∀ W, FlatW w1 g (flatK rwC 3 dk) W → Sem.run Tryz.prog (storeCells ⟨g, i * 3, none⟩ (rwC u) 0) W = .ok () (W.setCells g (i * 3) (rwC u)) ∧ FlatW w1 g (flatK rwC 3 (dk.setIfInBounds i u)) (W.setCells g (i * 3) (rwC u))) := fun W hW => by
      have hHW := hW.holds hg1 HH1.out (by rw [size_flatK, size_flatK, I2.out.size])
      have h1 := stores_of_holds Tryz.prog hHW (i * 3) (rwC u) (by rw [rwC_len, size_flatK, hds]; omega) (rwC_one u)
      rw [Nat.zero_add] at h1
      refine ⟨h1, ?_⟩
      rw [← flatK_set dk i u (by omega)]
      exact hW.set hg1 (i * 3) (rwC u) (by rw [rwC_len, size_flatK, hds]; omega)
    have hil : (i : Int) < (l.length : Int) := by omega
    obtain ⟨z, hz⟩ : ∃ z, (u.path == p) = z := ⟨_, rfl⟩
    have HZ : Hid (kp j = !z) := by unfold Hid; rw [HK.out, ← hz, ← HU.out]
    rw [hz] at hcall
    clear y0 y1 y2 hbr hw8 hb8 hgv hz HHK F2
    cases z with
    | true =>
      go_wp2_with (go_at_fn 24; refine hcall.mono ?_; rintro e w9 ⟨rfl, os, hw9⟩; have F9 : Hid (FlatW w1 g (flatK rwC 3 dk) w9) := F8.out.ext hg1 ⟨0, os, hw9⟩; clear hw9)
      go_roundg (l.length - (j + 1))
      case measure => omega
      case rel => exact ⟨i, j + 1, dk, rfl, by go_num, by omega, Nat.le_refl _, F9, I2.out.skip HZ.out⟩
    | false =>
      go_wp2_with (first | (go_at_fn 24; refine hcall.mono ?_; rintro e w9 ⟨rfl, os, hw9⟩; have hx9 : Ext w8 w9 := (by rw [hw9]; exact Ext.of_grow 0 os); have F9 : Hid (FlatW w1 g (flatK rwC 3 dk) w9) := F8.out.ext hg1 ⟨0, os, hw9⟩; have v0 := hx9.cell z0; have v1 := hx9.cell z1; have v2 := hx9.cell z2; clear hw9 hx9) | (refine store_row_at rfl (.tmp 33) (.tmp 32) rfl g (i * 3) rfl u rfl _ (HST.out _ F9.out).1 ?_))
      go_roundg (l.length - (j + 1))
      case measure => omega
      case rel =>
        refine ⟨i + 1, j + 1, dk.setIfInBounds i u, by go_num, by go_num, by omega, Nat.le_refl _, (HST.out _ F9.out).2, ?_⟩
        have h9 := I2.out.keep (by rw [List.size_toArray]; exact hlt) HZ.out
        rw [HU.out] at h9
        exact h9
end Go.Proofs.YtalpfoomkhhgnaaGreatDoor

/-! table.Build's two orders: of two texts, of one object. Conditions: as each theorem states. -/
namespace Go.Proofs.YtalpfoomkhhgnaaGreatDoor
open Go Go.RowKit Go.Sort Go.Lib
set_option linter.unusedVariables false
set_option linter.unusedSimpArgs false

theorem two_alloc (w : World) (a b : Array Value) (s t : TypeId) : (w.alloc (.cells a s)).alloc (.cells b t) = grow w #[.cells a s, .cells b t] := by
  unfold grow World.alloc
  have h : ∀ (x : Array Obj) (p q : Obj), (x.push p).push q = x ++ #[p, q] := fun x p q => by rw [Array.push_eq_append, Array.push_eq_append, Array.append_assoc]; rfl
  rw [h]
def nmB (b : Bool) : B8 := if b then [97] else []
def encB (b : Bool) : Value := S8 (nmB b)
def lenB (x y : Bool) : Int := ((nmB y).length : Int) - ((nmB x).length : Int)
end Go.Proofs.YtalpfoomkhhgnaaGreatDoor

/-! table.sorted, table.Same. Conditions: as each theorem states. -/
namespace Go.Proofs.YtalpfoomkhhgnaaGreatDoor
open Go Go.Shelf Go.RowKit Go.Lib Go.Sort
set_option linter.unusedVariables false
set_option linter.unusedSimpArgs false
set_option linter.unusedSectionVars false

def cmpR (x y : Rw) : Int := cmpI x.path y.path
theorem cmpR_lt (x y : Rw) : ltOf cmpR x y = ltB x.path y.path := by
  unfold ltOf cmpR cmpI
  by_cases h : ltB x.path y.path = true
  · rw [if_pos h, h]; rfl
  · rw [if_neg h]
    have : ltB x.path y.path = false := by simpa using h
    rw [this]
    by_cases h2 : ltB y.path x.path = true
    · rw [if_pos h2]; rfl
    · rw [if_neg h2]; rfl
theorem cmpR_swo : SWO (ltOf cmpR) := by
  refine ⟨fun x => by rw [cmpR_lt]; exact lt_irr _, fun x y z h1 h2 => ?_, fun x y z h1 h2 => ?_⟩
  · rw [cmpR_lt] at h1 h2 ⊢
    exact lt_trans' h1 h2
  · rw [cmpR_lt] at h1 h2 ⊢
    cases h3 : ltB x.path z.path with
    | false => rfl
    | true =>
      by_cases hxy : x.path = y.path
      · rw [hxy, h2] at h3; cases h3
      · have h4 := lt_tri h1 hxy
        have h5 := lt_trans' h4 h3
        rw [h2] at h5; cases h5
theorem sorted1_any (x y : Rw) (w : World) : Calls Tryz.prog 58 #[.agg (rwC x).toArray, .agg (rwC y).toArray] w fun e w' => e = .returned (.int .i64 (cmpR x y)) ∧ ∃ os, w' = grow w os := by
  show Calls Tryz.prog 58 #[.agg #[S8 x.path, .int .i64 x.mode, S8 x.id], .agg #[S8 y.path, .int .i64 y.mode, S8 y.id]] w _
  go_enter Tryz.func58, Tryz.ntmps58
  go_wp2_with (go_at_call 35; go_must (refine (compare_any x.path y.path _).mono ?_; rintro e w' ⟨rfl, rfl⟩))
  go_ret
  exact ⟨rfl, _, two_alloc _ _ _ _ _⟩
theorem ins_rows (enc : Rw → List Value) (cf : Rw → Rw → Int) (g : Nat) (cb : Array Value) (blk off cap : Nat) (d0 : Array Rw) (w0 : World) (eg : ∀ args w, (callFunc g args).run Tryz.prog w = .ok (.enter g args) w) (hcmp : CmpLays Tryz.prog g cb enc 3 cf blk off d0.size w0) (R : RowK enc 3 w0 blk off d0) (hO : SWO (ltOf cf)) (hsz : d0.size < 1152921504606846976) : InsSays Tryz.prog 3 enc cf g cb blk off cap d0 w0 := fun a b d w hs S hab hb =>
  AnyQ.insertionSortCmpFunc_w Tryz.laysInsR 3 (fun w => Tryz.isAgg30 w) (fun w => Tryz.sizeOf30 w) enc cf g cb blk off cap a b d0 d w0 w eg hcmp R hs S hO hab hb (by omega)
theorem stF_tryz : StF Tryz.prog 3 where
  mixed := by kernel_rfl
  ti := by kernel_rfl
  ai := fun w => by kernel_rfl
  zi := fun w => by kernel_rfl
  vi := fun w => by kernel_rfl
  tb := by kernel_rfl
  ab := fun w => by kernel_rfl
  zb := fun w => by kernel_rfl
  vb := fun w => by kernel_rfl
  ts := Tryz.underlying22
  asl := fun w => by kernel_rfl
  zs := fun w => by kernel_rfl
  ar := fun w => Tryz.isAgg30 w
  zr := fun w => Tryz.sizeOf30 w
  eS := enters_of Tryz.func203 (by kernel_rfl) rfl
  eR := enters_of Tryz.func179 (by kernel_rfl) rfl
  fR := Tryz.func179
  fS := Tryz.func203
theorem stM_tryz : StM Tryz.prog 3 where
  F := stF_tryz
  tu := by kernel_rfl
  au := fun w => by kernel_rfl
  zu := fun w => by kernel_rfl
  vu := fun w => by kernel_rfl
  eM := enters_of Tryz.func140 (by kernel_rfl) rfl
  fM := Tryz.func140
theorem stS_tryz : StS Tryz.prog 3 where
  M := stM_tryz
  eB := enters_of Tryz.func84 (by kernel_rfl) rfl
  eI := enters_of Tryz.func139 (by kernel_rfl) rfl
  fB := Tryz.func84
  fU := Tryz.func57
set_option maxRecDepth 100000 in
theorem stable_nil (fv : Value) (w : World) : Calls Tryz.prog 84 #[.slice none 0 0, .int .i64 0, fv] w fun e w' => e = .returned (.tuple #[]) ∧ w' = w := by
  have hi : ∀ W, Calls Tryz.prog 139 #[.slice none 0 0, .int .i64 0, .int .i64 0, fv] W fun e w' => e = .returned (.tuple #[]) ∧ w' = W := fun W => AnyF.insertionSortCmpFunc_none Tryz.laysInsR none 0 fv W
  go_enter Tryz.func84, Tryz.ntmps84
  go_wp2
  refine wp_loop_rounds 1 ?_
  rw [rounds_succ]
  go_wp2_with (go_at_call 139; refine (hi _).mono ?_; rintro e w' ⟨rfl, rfl⟩)
  refine wp_loop_rounds 1 ?_
  rw [rounds_succ]
  go_wp2
  go_end0
  exact ⟨rfl, rfl⟩
set_option maxRecDepth 100000 in
theorem sortStable_nil (fv : Value) (w : World) : Calls Tryz.prog 57 #[.slice none 0 0, fv] w fun e w' => e = .returned (.tuple #[]) ∧ w' = w := by
  go_enter Tryz.func57, Tryz.ntmps57
  go_wp2_with (go_at_call 84; refine (stable_nil _ _).mono ?_; rintro e w' ⟨rfl, rfl⟩)
  go_end0
  exact ⟨rfl, rfl⟩

set_option maxRecDepth 100000 in
theorem sorted_any (v : Value) (l : List Rw) (base : Nat) (w : World) (h : w.ownsRow base 30 3 v l.length (l.flatMap rwC)) (hl : l.length ≤ 100000) :
    Calls Tryz.prog 25 #[v] w fun e w' => e = .returned v ∧ ∃ s : List Rw, s.Perm l ∧ (s.Pairwise fun a b => ltB b.path a.path = false) ∧ w'.ownsRow base 30 3 v s.length (s.flatMap rwC) ∧ w.grownBy w' v.ownBlock := by
  rcases h.2 with ⟨rfl, h0⟩ | ⟨g, cap, cur, rfl, -⟩
  · obtain rfl : l = [] := List.eq_nil_of_length_eq_zero h0
    go_enter Tryz.func25, Tryz.ntmps25
    go_wp2_with (go_at_call 57; refine (sortStable_nil _ _).mono ?_; rintro e w' ⟨rfl, rfl⟩)
    go_ret
    exact ⟨rfl, [], List.Perm.refl _, List.Pairwise.nil, World.ownsRow_nil _ _ _ _, ⟨rfl, rfl, rfl, Nat.le_refl _, fun _ _ _ => rfl⟩⟩
  · have hg := own_lt h
    have eg : ∀ args w, (callFunc 58 args).run Tryz.prog w = .ok (.enter 58 args) w := enters_of Tryz.func58 (by kernel_rfl) rfl
    have hcmp : CmpLays Tryz.prog 58 #[] rwC 3 cmpR g 0 l.toArray.size w := fun m os dk hdk x y => (sorted1_any x y _).mono fun e w' ⟨he, os', hw⟩ => ⟨he, 0, os', hw⟩
    have R : RowK rwC 3 w g 0 l.toArray := ⟨rwC_len, rwC_one, own_holds h, hg⟩
    have hs : l.toArray.size = l.length := by simp
    have hc := sortStable_any 3 stS_tryz rwC cmpR cmpR_swo 58 #[] g 0 cap l.toArray w eg hcmp R (ins_rows rwC cmpR _ #[] g 0 cap l.toArray w eg hcmp R cmpR_swo (by omega)) (by omega)
    rw [hs] at hc
    have HO : Hid _ := h
    clear h hcmp R
    go_enter Tryz.func25, Tryz.ntmps25
    go_wp2_with (go_at_call 57; refine hc.mono ?_; rintro e w' ⟨rfl, d', hw, hp, hsd⟩)
    go_ret
    have hds : d'.size = l.length := by rw [hp.1, hs]
    refine ⟨rfl, d'.toList, ?_, ?_, ?_, swk_grown hw⟩
    · have h1 := hp.2.2
      rw [Array.extract_eq_self_of_le (by omega), Array.extract_eq_self_of_le (by omega)] at h1
      exact h1
    · rw [List.pairwise_iff_getElem]
      intro i j hi hj hij
      have h2 := hsd i j (Nat.zero_le _) hij (by rw [Array.length_toList, hds] at hj; exact hj)
      rw [cmpR_lt, getElem!_pos d' j (by simpa using hj), getElem!_pos d' i (by simpa using hi)] at h2
      simpa using h2
    · have h3 := swk_own HO.out hw hds
      have hdl : d'.toList.length = l.length := by rw [Array.length_toList, hds]
      rw [hdl]
      exact h3
end Go.Proofs.YtalpfoomkhhgnaaGreatDoor

/-! table.Set, table.Same. Conditions: as each theorem states. -/
namespace Go.Proofs.YtalpfoomkhhgnaaGreatDoor
open Go Go.Shelf Go.RowKit Go.Lib Go.Sort
set_option linter.unusedVariables false
set_option linter.unusedSimpArgs false
set_option linter.unusedSectionVars false

set_option maxRecDepth 100000 in
theorem idxRows_nil (fv : Value) (w : World) : Calls Tryz.prog 56 #[.slice none 0 0, fv] w fun e w' => e = .returned (.int .i64 (-1)) ∧ w' = w := by
  go_enter Tryz.func56, Tryz.ntmps56
  go_wp2
  refine wp_loop_rounds 1 ?_
  rw [rounds_succ]
  go_wp2
  go_ret
  exact ⟨rfl, rfl⟩
set_option maxRecDepth 100000 in
theorem delRows_nil (fv : Value) (w : World) : Calls Tryz.prog 22 #[.slice none 0 0, fv] w fun e w' => e = .returned (.slice none 0 0) ∧ w' = w := by
  go_enter Tryz.func22, Tryz.ntmps22
  go_wp2_with (go_at_call 56; refine (idxRows_nil _ _).mono ?_; rintro e w' ⟨rfl, rfl⟩)
  go_ret
  exact ⟨rfl, rfl⟩
/-- DeleteFunc of rows of the call's own, nil too. -/
theorem delOwn_any (v : Value) (base bx : Nat) (l : List Rw) (p : B8) (w : World) (h : w.ownsRow base 30 3 v l.length (l.flatMap rwC)) (hbx : w.cell? ⟨bx, 0, none⟩ = some (S8 p)) (hne : bx < base) (hl : l.length ≤ 100000) :
    Calls Tryz.prog 22 #[v, .func (.func 24) #[] #[.pointer (some ⟨bx, 0, none⟩)]] w fun e w' => ∃ v', e = .returned v' ∧ w'.ownsRow base 30 3 v' (delR l p).length ((delR l p).flatMap rwC) ∧ w.grownBy w' v.ownBlock := by
  rcases h.2 with ⟨rfl, h0⟩ | ⟨g, cap, cur, rfl, hbg, -⟩
  · obtain rfl : l = [] := List.eq_nil_of_length_eq_zero h0
    exact (delRows_nil _ w).mono fun e w' ⟨he, hw⟩ => ⟨_, he, by rw [hw]; exact World.ownsRow_nil _ _ _ _, by rw [hw]; exact ⟨rfl, rfl, rfl, Nat.le_refl _, fun _ _ _ => rfl⟩⟩
  · exact (delRows_any g cap base bx l p w h hbx (by omega) hl).mono fun e w' ⟨he, ho, hg⟩ => ⟨_, he, ho, hg⟩
theorem delR_len (l : List Rw) (p : B8) : (delR l p).length ≤ l.length := List.length_filter_le _ _

set_option maxRecDepth 100000 in
set_option maxHeartbeats 4000000 in
theorem tset_any (v : Value) (l : List Rw) (p : B8) (e : Int × B8) (w : World) (hv : IsRws w v l) (hl : l.length ≤ 10000) (hr : RiseR l) :
    Calls Tryz.prog 10 #[v, S8 p, .agg #[.int .i64 e.1, S8 e.2]] w fun en w' => (∃ v' s, en = .returned v' ∧ IsSet l p e s ∧ w'.ownsRow w.heap.size 30 3 v' s.length (s.flatMap rwC)) ∧ Ext w w' := by
  obtain ⟨m, id⟩ := e
  obtain ⟨a, cap, rfl, -⟩ := hv.get
  have HV : Hid (IsRws w (.slice a l.length cap) l) := hv
  have HR : Hid _ := hr
  clear hv hr
  dsimp only
  go_enter Tryz.func10, Tryz.ntmps10
  go_upto_region 1 with fail
  obtain ⟨w1, hw1⟩ : ∃ w1, w1 = w.alloc (.cells #[S8 p] 9) := ⟨_, rfl⟩
  obtain ⟨w2, hw2⟩ : ∃ w2, w2 = w1.alloc (.cells #[.int .i64 m, S8 id] 26) := ⟨_, rfl⟩
  have hs1 : w1.heap.size = w.heap.size + 1 := by rw [hw1]; exact Array.size_push _
  have hs2 : w2.heap.size = w.heap.size + 2 := by rw [hw2]; show (w1.heap.push _).size = _; rw [Array.size_push, hs1]
  have HX1 : Hid (Ext w w1) := by rw [hw1]; exact (Ext.refl _).alloc _
  have HX12 : Hid (Ext w1 w2) := by rw [hw2]; exact (Ext.refl _).alloc _
  have hb1 : w1.heap[w.heap.size]? = some (.cells #[S8 p] 9 (0, 0)) := by rw [hw1]; exact alloc_at _ _
  have hb2 : w2.heap[w1.heap.size]? = some (.cells #[.int .i64 m, S8 id] 26 (0, 0)) := by rw [hw2]; exact alloc_at _ _
  have hc1 : w2.cell? ⟨w.heap.size, 0, none⟩ = some (S8 p) := HX12.out.cell (by simp [World.cell?, hb1])
  have e0 := (cell_of_row _ _ 0 _ _ _ hb2).trans rfl
  have e1 := (cell_of_row _ _ 1 _ _ _ hb2).trans rfl
  rw [hs1] at e0 e1
  have HX2 : Hid (Ext w w2) := HX1.out.trans HX12.out
  rw [← hw1, ← hw2]
  obtain ⟨g1, hg1⟩ : ∃ g1, w.heap.size = g1 := ⟨_, rfl⟩
  have HG1 : Hid _ := hg1
  rw [hg1] at hc1 e0 e1 hs2 ⊢
  obtain ⟨g2, hg2⟩ : ∃ g2, g1 + 1 = g2 := ⟨_, rfl⟩
  rw [hg2] at e0 e1 ⊢
  clear hw1 hw2 hb1 hb2 hs1 hg1 HX1 HX12
  go_wp2_with fail
  go_at_call 23
  refine (clone_rws (HV.out.ext HX2.out) (by omega)).mono ?_
  rintro en w3 ⟨⟨v3, rfl, ho3⟩, hx3⟩
  have HO3 : Hid _ := ho3
  have HX3 : Hid (Ext w2 w3) := hx3
  have HC3 : Hid _ := hx3.cell hc1
  have hlt : g1 < w2.heap.size := by omega
  clear ho3 hx3 hc1
  go_wp2_with fail
  go_at_call 22
  refine (delOwn_any v3 w2.heap.size g1 l p w3 HO3.out HC3.out hlt (by omega)).mono ?_
  rintro en w4 ⟨v4, rfl, ho4, hg4⟩
  have HX24 : Hid (Ext w2 w4) := owns_ext_app HX3.out HO3.out hg4
  have HO4 : Hid (w4.ownsRow w2.heap.size 30 3 v4 (delR l p).length ((delR l p).flatMap rwC)) := ho4
  have f0 := HX24.out.cell e0
  have f1 := HX24.out.cell e1
  have hd := delR_len l p
  have HB : Hid (w.heap.size ≤ w2.heap.size) := HX2.out.size
  have HCP : Hid (w4.cell? ⟨g1, 0, none⟩ = some (S8 p)) := by
    unfold Hid
    rw [World.cell?_of_block (w := w3) (w' := w4) (a := ⟨g1, 0, none⟩) (hg4.block g1 (World.block_lt_of_cell? _ _ HC3.out) (fun he => ?_))]
    · exact HC3.out
    · rcases HO3.out.2 with ⟨rfl, -⟩ | ⟨g, c, cur, rfl, hb, -⟩
      · cases he
      · simp only [Value.ownBlock, Option.some.injEq] at he
        have := hlt
        rw [he] at this
        exact absurd hb (Nat.not_le_of_lt this)
  have f2 := HCP.out
  clear e0 e1 ho4 hg4
  obtain ⟨z, hz⟩ : ∃ z, (m == 0) = z := ⟨_, rfl⟩
  have HZ : Hid (z = true ↔ m = 0) := by unfold Hid; rw [← hz]; exact beq_iff_eq
  clear HX3 HC3
  cases z with
  | true =>
    have hm := HZ.out.1 rfl
    subst hm
    have HOUT : Hid (outR l p (0, id) = delR l p) := by unfold Hid outR; rw [if_pos rfl, List.append_nil]
    go_wp2_with fail
    go_at_call 25
    refine (sorted_any v4 (delR l p) w2.heap.size w4 HO4.out (by omega)).mono ?_
    rintro en w5 ⟨rfl, s, hp, hs, ho5, hg5⟩
    have HX5 : Ext w2 w5 := owns_ext_app HX24.out HO4.out hg5
    go_wp2
    go_ret
    exact ⟨⟨_, s, rfl, isSet_of HR.out (by rw [HOUT.out]; exact hp) hs, by rw [← HG1.out]; exact World.ownsRow.mono ho5 HB.out⟩, HX2.out.trans HX5⟩
  | false =>
    have hm : m ≠ 0 := fun h => by have := HZ.out.2 h; cases this
    have HOUT : Hid (outR l p (m, id) = delR l p ++ [⟨p, m, id⟩]) := by unfold Hid outR; rw [if_neg hm]
    have hown : w4.ownsRow w2.heap.size 30 3 v4 (delR l p).length ((delR l p).flatMap rwC) := HO4.out
    have hsz := HX24.out.size
    go_wp2_with (at_builtin; go_must (refine app_rw rfl _ _ rfl w2.heap.size _ (delR l p).length _ rfl (hown.alloc _) w4.heap.size 1 ⟨p, m, id⟩ rfl (alloc_at _ _) (by omega) (by simp; omega) ?_; intro v' w5 hown5 hg5 _))
    go_at_call 25
    have HX5 : Hid (Ext w2 w5) := owns_ext_app (HX24.out.alloc _) (hown.alloc _) hg5
    have hown6 : w5.ownsRow w2.heap.size 30 3 v' (delR l p ++ [(⟨p, m, id⟩ : Rw)]).length ((delR l p ++ [(⟨p, m, id⟩ : Rw)]).flatMap rwC) := by
      rw [List.length_append, List.flatMap_append]
      exact hown5
    refine (sorted_any v' (delR l p ++ [⟨p, m, id⟩]) w2.heap.size w5 hown6 (by rw [List.length_append, List.length_singleton]; omega)).mono ?_
    rintro en w6 ⟨rfl, s, hp, hs, ho6, hg6⟩
    have HX6 : Ext w2 w6 := owns_ext_app HX5.out hown6 hg6
    go_wp2
    go_ret
    exact ⟨⟨_, s, rfl, isSet_of HR.out (by rw [HOUT.out]; exact hp) hs, by rw [← HG1.out]; exact World.ownsRow.mono ho6 HB.out⟩, HX2.out.trans HX6⟩
end Go.Proofs.YtalpfoomkhhgnaaGreatDoor

/-! table.Same. Conditions: as each theorem states. -/
namespace Go.Proofs.YtalpfoomkhhgnaaGreatDoor
open Go Go.Shelf Go.RowKit Go.Lib Go.Sort
set_option linter.unusedVariables false
set_option linter.unusedSimpArgs false
set_option linter.unusedSectionVars false

def eqRw (x y : Rw) : Bool := x.path == y.path && (x.mode == y.mode && x.id == y.id)
theorem eqRw_iff (x y : Rw) : eqRw x y = true ↔ x = y := by
  unfold eqRw
  simp only [Bool.and_eq_true, beq_iff_eq]
  constructor
  · rintro ⟨h1, h2, h3⟩
    cases x; cases y
    simp_all
  · rintro rfl
    exact ⟨rfl, rfl, rfl⟩
theorem allEq_rw : ∀ (a b : List Rw), Lib.allEq eqRw a b = true ↔ a = b
  | [], [] => by simp [Lib.allEq]
  | [], _ :: _ => by simp [Lib.allEq]
  | _ :: _, [] => by simp [Lib.allEq]
  | x :: a, y :: b => by
    rw [Lib.allEq, Bool.and_eq_true, eqRw_iff, allEq_rw a b]
    simp
theorem neq_rw (x y : Rw) (w : World) : (binOp .neq 30 (.agg (rwC x).toArray) (.agg (rwC y).toArray)).run Tryz.prog w = .ok (.bool (!eqRw x y)) w := by
  have hS : Tryz.prog.underlying 30 = some (.struct (Tryz.prog.fieldsOf 30)) := by kernel_rfl
  have hp : Tryz.prog.stoodInHeld 30 = false := by kernel_rfl
  show (binOp .neq 30 (.agg #[S8 x.path, .int .i64 x.mode, S8 x.id]) (.agg #[S8 y.path, .int .i64 y.mode, S8 y.id])).run Tryz.prog w = _
  rw [run_neq_struct, show (10000 : Nat) = 9999 + 1 from rfl, run_equalIn_agg w 9999 30 _ _ hS hp]
  simp only [Program.fieldsOf, Tryz.underlying30]
  go_simp
  obtain ⟨x1, x2, x3⟩ := x
  obtain ⟨y1, y2, y3⟩ := y
  have ha : (⟨x1.toArray⟩ : ByteArray).toList = x1 := Lib.toList_data _
  have hb : (⟨y1.toArray⟩ : ByteArray).toList = y1 := Lib.toList_data _
  have hc : (⟨x3.toArray⟩ : ByteArray).toList = x3 := Lib.toList_data _
  have hd : (⟨y3.toArray⟩ : ByteArray).toList = y3 := Lib.toList_data _
  unfold eqRw
  by_cases h1 : x1 = y1 <;> by_cases h2 : x2 = y2 <;> by_cases h3 : x3 = y3 <;> simp [h1, h2, h3, ha, hb, hc, hd]
theorem neqAt_rw : NeqAt Tryz.prog 30 (fun x => .agg (rwC x).toArray) eqRw := ⟨neq_rw, GuardAt.agg (fun x => (rwC x).toArray) (by kernel_rfl)⟩
theorem rows_cellsR {w : World} {b o cap : Nat} {l : List Rw} (h : IsRws w (.slice (some ⟨b, o, none⟩) l.length cap) l) : ∀ j, j < l.length → ∀ i v, (rwC l[j]!)[i]? = some v → w.cell? ⟨b, o + j * 3 + i, none⟩ = some v := by
  obtain ⟨a, c, he, -, -, -, hg⟩ := h.get
  cases he
  intro j hj i v hi
  have hx : l[j]? = some l[j]! := by rw [List.getElem?_eq_getElem hj, getElem!_pos l j hj]
  obtain ⟨b', o', hb, c0, c1, c2⟩ := hg j _ hx
  cases hb
  rw [Nat.mul_comm] at c0 c1 c2
  have hi' : [S8 l[j]!.path, .int .i64 l[j]!.mode, S8 l[j]!.id][i]? = some v := hi
  match i, hi' with
  | 0, hu => cases hu; exact c0
  | 1, hu => cases hu; exact c1
  | 2, hu => cases hu; exact c2
  | i + 3, hu => simp at hu

set_option maxRecDepth 100000 in
/-- Of lists of unlike length, or of none, the cells do not matter. -/
theorem eqRows_short (va vb : Option Addr) (n m ca cb : Nat) (w : World) (h : n ≠ m ∨ (n = 0 ∧ m = 0)) (hn : n ≤ 140737488355328) (hm : m ≤ 140737488355328) :
    Calls Tryz.prog 26 #[.slice va n ca, .slice vb m cb] w fun e w' => e = .returned (.bool (decide (n = m))) ∧ w' = w := by
  by_cases hnm : n = m
  · obtain ⟨rfl, rfl⟩ : n = 0 ∧ m = 0 := by omega
    go_enter Tryz.func26, Tryz.ntmps26
    go_wp2
    refine wp_loop_rounds 1 ?_
    rw [rounds_succ]
    go_wp2
    go_ret
    exact ⟨rfl, rfl⟩
  · have h1 : ((n : Int) == (m : Int)) = false := by rw [beq_eq_false_iff_ne]; omega
    have h2 : ((n : Int) != (m : Int)) = true := by rw [bne_iff_ne]; omega
    have h3 : ¬ (n : Int) = (m : Int) := by omega
    have h4 : decide (n = m) = false := decide_eq_false hnm
    rw [h4]
    go_enter Tryz.func26, Tryz.ntmps26
    go_wp2
    go_ret
    exact ⟨rfl, rfl⟩
theorem eqRows_any (va vb : Value) (a b : List Rw) (w : World) (ha : IsRws w va a) (hb : IsRws w vb b) :
    Calls Tryz.prog 26 #[va, vb] w fun e w' => (∃ c : Bool, e = .returned (.bool c) ∧ (c = true ↔ a = b)) ∧ Ext w w' := by
  obtain ⟨aa, ca, rfl, a1, a2, a3, hga⟩ := ha.get
  obtain ⟨ab, cb, rfl, b1, b2, b3, hgb⟩ := hb.get
  by_cases hab : a.length ≠ b.length ∨ (a.length = 0 ∧ b.length = 0)
  · refine (eqRows_short aa ab a.length b.length ca cb w hab a2 b2).mono fun e w' ⟨he, hw⟩ => ⟨⟨_, he, ?_⟩, by rw [hw]; exact Ext.refl _⟩
    rw [decide_eq_true_eq]
    constructor
    · intro h
      rcases hab with h9 | ⟨h8, h9⟩
      · exact absurd h h9
      · rw [List.eq_nil_of_length_eq_zero h8, List.eq_nil_of_length_eq_zero h9]
    · rintro rfl; rfl
  · have hal : 0 < a.length := by omega
    have hbl : 0 < b.length := by omega
    obtain ⟨b1', o1, rfl, -⟩ := hga 0 _ (List.getElem?_eq_getElem hal)
    obtain ⟨b2', o2, rfl, -⟩ := hgb 0 _ (List.getElem?_eq_getElem hbl)
    refine (AnyQ.slices_Equal Tryz.laysEqR 3 (fun w => Tryz.isAgg30 w) (fun w => Tryz.sizeOf30 w) rwC rwC_len eqRw neqAt_rw b1' o1 a.length ca b2' o2 b.length cb a b w (Nat.le_refl _) (Nat.le_refl _) (by omega) (by omega) (rows_cellsR ha) (rows_cellsR hb)).mono fun e w' ⟨he, q, hw⟩ => ⟨⟨_, he, ?_⟩, by rw [hw]; exact Ext.drawn _ _⟩
    rw [List.take_of_length_le (Nat.le_refl _), List.take_of_length_le (Nat.le_refl _)]
    exact allEq_rw a b
theorem tsame_any (va vb : Value) (a b : List Rw) (w : World) (ha : IsRws w va a) (hb : IsRws w vb b) :
    Calls Tryz.prog 11 #[va, vb] w fun e w' => (∃ c : Bool, e = .returned (.bool c) ∧ (c = true ↔ a = b)) ∧ Ext w w' := by
  have hc := eqRows_any va vb a b w ha hb
  go_enter Tryz.func11, Tryz.ntmps11
  go_wp2_with (go_at_call 26; refine hc.mono ?_; rintro e w' ⟨⟨c, rfl, hcc⟩, hx⟩)
  go_ret
  exact ⟨⟨c, rfl, hcc⟩, hx⟩
end Go.Proofs.YtalpfoomkhhgnaaGreatDoor

/-! marref.Unique, of whatever texts. Conditions: as each theorem states. -/
namespace Go.Proofs.YtalpfoomkhhgnaaGreatDoor
open Go Go.RowKit
set_option linter.unusedVariables false
set_option linter.unusedSimpArgs false

/-- What holds while the inner append is done. -/
structure UJ (w0 : World) (s : B8) (D : List B8) (z7 z11 : Option Value) (w : World) : Prop where
  ext : Ext w0 w
  o11 : z11 ≠ none → z7 ≠ none
  f7 : z11 = none → ∀ v, z7 = some v → w.ownsRow w0.heap.size 9 1 v 1 [S8 s]
  f11 : ∀ v, z11 = some v → w.ownsRow w0.heap.size 9 1 v (1 + D.length) ([S8 s] ++ D.map S8)
section
variable {w0 w w' : World} {s : B8} {D : List B8} {z7 z11 : Option Value}
theorem UJ.more (h : UJ w0 s D z7 z11 w) (hx : Ext w w') : UJ w0 s D z7 z11 w' :=
  ⟨h.ext.trans hx, h.o11, fun h1 v hv => owns_ext (h.f7 h1 v hv) hx, fun v hv => owns_ext (h.f11 v hv) hx⟩
theorem UJ.start (hx : Ext w0 w) : UJ w0 s D none none w := ⟨hx, fun h => absurd rfl h, fun _ v hv => (by cases hv), fun v hv => (by cases hv)⟩
end
end Go.Proofs.YtalpfoomkhhgnaaGreatDoor

/-! wire: Sort, Unique. Conditions: lists of at most 1000000 texts. -/
namespace Go.Proofs.YtalpfoomkhhgnaaGreatDoor
open Go Go.RowKit Go.Sort
set_option linter.unusedVariables false
set_option linter.unusedSimpArgs false
set_option linter.unusedSectionVars false

/-! ### Neighbours that are alike, in plain Lean -/
structure CpInv (zs : List B8) (m : Nat) : Prop where
  rise : riseT (Lib.compactUpTo zs.toArray m)
  mem : ∀ x, x ∈ Lib.compactUpTo zs.toArray m ↔ x ∈ zs.take m
  last : 0 < m → (Lib.compactUpTo zs.toArray m).getLast? = some (zs.getD (m - 1) [])
theorem cp_at {zs : List B8} {m : Nat} (h : m < zs.length) : zs.toArray[m]! = zs.getD m [] := by
  rw [getElem!_pos zs.toArray m (by simpa using h), List.getD_eq_getElem?_getD, List.getElem?_eq_getElem h]
  rfl
theorem up_next {zs : List B8} (hu : upL zs) {m : Nat} (h : m + 1 < zs.length) : leT (zs.getD m []) (zs.getD (m + 1) []) = true := by
  have h9 := List.pairwise_iff_getElem.1 hu m (m + 1) (by omega) h (by omega)
  rw [List.getD_eq_getElem?_getD, List.getD_eq_getElem?_getD, List.getElem?_eq_getElem h, List.getElem?_eq_getElem (by omega : m < zs.length)]
  exact h9
theorem rise_last {c : List B8} {z x : B8} (hr : riseT c) (hl : c.getLast? = some z) (hz : ltB z x = true) : riseT (c ++ [x]) := by
  obtain ⟨d, rfl⟩ := List.getLast?_eq_some_iff.1 hl
  refine List.pairwise_append.2 ⟨hr, List.pairwise_singleton _ _, fun a ha b hb => ?_⟩
  rw [List.mem_singleton.1 hb]
  rcases List.mem_append.1 ha with ha | ha
  · exact ltB_trans ((List.pairwise_append.1 hr).2.2 a ha z (by simp)) hz
  · rw [List.mem_singleton.1 ha]
    exact hz
theorem cp_inv {zs : List B8} (hu : upL zs) : ∀ m, m ≤ zs.length → CpInv zs m
  | 0, _ => ⟨List.Pairwise.nil, fun x => by simp [Lib.compactUpTo], fun h => by omega⟩
  | m + 1, h => by
    have ih := cp_inv hu m (by omega)
    have hx : zs[m]? = some (zs.getD m []) := by rw [List.getD_eq_getElem?_getD, List.getElem?_eq_getElem (by omega : m < zs.length)]; rfl
    have htk : zs.take (m + 1) = zs.take m ++ [zs.getD m []] := by rw [List.take_add_one, hx]; rfl
    have hd := cp_at (zs := zs) (m := m) (by omega)
    have hsucc := Lib.compactUpTo_succ zs.toArray m
    cases hk : Lib.keeps zs.toArray m with
    | true =>
      rw [hk, if_pos rfl, hd] at hsucc
      refine ⟨?_, fun x => ?_, fun _ => ?_⟩
      · rw [hsucc]
        cases m with
        | zero => exact List.pairwise_singleton _ _
        | succ q =>
          have hl := ih.last (by omega)
          refine rise_last ih.rise hl ?_
          have hle := up_next hu (m := q) (by omega)
          rw [show q + 1 - 1 = q by omega]
          unfold Lib.keeps at hk
          rw [hd, show q + 1 - 1 = q by omega, cp_at (by omega : q < zs.length)] at hk
          have hne : zs.getD (q + 1) [] ≠ zs.getD q [] := by simpa using hk
          cases hlt : ltB (zs.getD q []) (zs.getD (q + 1) []) with
          | true => rfl
          | false => exact (hne (leT_anti (by unfold leT; rw [hlt]; rfl) hle)).elim
      · rw [hsucc, htk, List.mem_append, List.mem_append, ih.mem]
      · rw [hsucc]; simp
    | false =>
      rw [hk, if_neg (by simp), List.append_nil] at hsucc
      have hm0 : m ≠ 0 := by
        rintro rfl
        simp [Lib.keeps] at hk
      obtain ⟨q, rfl⟩ : ∃ q, m = q + 1 := ⟨m - 1, by omega⟩
      unfold Lib.keeps at hk
      rw [hd, show q + 1 - 1 = q by omega, cp_at (by omega : q < zs.length)] at hk
      have he : zs.getD (q + 1) [] = zs.getD q [] := by simpa using hk
      have hl := ih.last (by omega)
      rw [show q + 1 - 1 = q by omega] at hl
      refine ⟨by rw [hsucc]; exact ih.rise, fun x => ?_, fun _ => ?_⟩
      · rw [hsucc, htk, List.mem_append, List.mem_singleton, he]
        constructor
        · intro h1; exact .inl ((ih.mem x).1 h1)
        · rintro (h1 | rfl)
          · exact (ih.mem x).2 h1
          · exact List.mem_of_getLast? hl
      · rw [hsucc, show q + 1 + 1 - 1 = q + 1 by omega, he]; exact hl
theorem cp_uniq (l : List B8) : Lib.compact (sortT l) = uniqT l := by
  have h := cp_inv (sortT_up l) (sortT l).length (Nat.le_refl _)
  refine uniqT_of h.rise (fun x => ?_)
  have h2 := h.mem x
  rw [List.take_length] at h2
  exact h2.trans (sortT_perm l).mem_iff
theorem cp_len (zs : List B8) : (Lib.compact zs).length ≤ zs.length := by
  unfold Lib.compact Lib.compactUpTo
  rw [List.length_map]
  exact Nat.le_trans (List.length_filter_le _ _) (by simp)

/-! ### In memory -/
theorem owns_cut {w : World} {base : Nat} {e : TypeId} {g cap n k : Nat} {xs : List Value} (h : w.ownsRow base e 1 (.slice (some ⟨g, 0, none⟩) n cap) n xs) (hk : k ≤ n) : w.ownsRow base e 1 (.slice (some ⟨g, 0, none⟩) k cap) k (xs.take k) := by
  obtain ⟨hl, ⟨hv, _⟩ | ⟨g', cap', cur, hv, hb, hh, h1, h2, h3, h4⟩⟩ := h
  · cases hv
  · cases hv
    refine ⟨by rw [List.length_take, hl]; omega, .inr ⟨g, cap, cur, rfl, hb, hh, by omega, h2, h3, ?_⟩⟩
    rw [Nat.mul_one, ← h4, Nat.mul_one, List.take_take, Nat.min_eq_left hk]
theorem grow_none (w : World) : grow w #[] = w := by
  unfold grow
  simp
theorem compact_any {w : World} {base : Nat} {v : Value} {zs : List B8} (hown : w.ownsRow base 9 1 v zs.length (zs.map S8)) (hl : zs.length ≤ 10000000) :
    Calls Tryz.prog 59 #[v] w fun e w' => (∃ v', e = .returned v' ∧ w'.ownsRow base 9 1 v' (Lib.compact zs).length ((Lib.compact zs).map S8)) ∧ w.grownBy w' v.ownBlock := by
  rcases hown.2 with ⟨rfl, h0⟩ | ⟨g, cap, cur, rfl, hbase, hb, h1, h2, h3, h4⟩
  · have hs : zs = [] := List.eq_nil_of_length_eq_zero (by simpa using h0)
    subst hs
    exact (Tryz.slices_Compact_string_empty none 0 w).mono fun e w' ⟨he, hw⟩ => ⟨⟨_, he, by rw [hw]; exact World.ownsRow_nil _ _ _ _⟩, by rw [hw]; exact ⟨rfl, rfl, rfl, Nat.le_refl _, fun _ _ _ => rfl⟩⟩
  · refine (Tryz.slices_Compact_string g 0 cap zs w (holds_of_block hb (by simpa using h4)) (by omega) h1).mono ?_
    rintro e w' ⟨he, q, hw⟩
    have hcl := cp_len zs
    have hsz : (Lib.compact zs ++ List.replicate (zs.length - (Lib.compact zs).length) []).length = zs.length := by simp; omega
    have h9 := ownsRow_sorted (w := w) (n := q) (os := #[]) (ss := zs) (ts := Lib.compact zs ++ List.replicate (zs.length - (Lib.compact zs).length) []) hsz hbase hb h1 h2 h3
    rw [grow_none] at h9
    have h8 := grownBy_sorted (w := w) (g := g) (n := q) (os := #[]) (Lib.compact zs ++ List.replicate (zs.length - (Lib.compact zs).length) []).toArray
    rw [grow_none] at h8
    refine ⟨⟨_, he, ?_⟩, by rw [hw]; exact h8⟩
    rw [hw]
    have h7 := owns_cut h9 hcl
    have h6 : ((Lib.compact zs ++ List.replicate (zs.length - (Lib.compact zs).length) []).map encStr).take (Lib.compact zs).length = (Lib.compact zs).map S8 := by
      rw [List.map_append]
      exact List.take_left' (by simp)
    rw [h6] at h7
    exact h7
theorem clone_strs {w : World} {v : Value} {l : List B8} (hv : IsStrs w v l) (hl : l.length ≤ 10000000) :
    Calls Tryz.prog 85 #[v] w fun e w' => (∃ v', e = .returned v' ∧ w'.ownsRow w.heap.size 9 1 v' l.length (l.map S8)) ∧ Ext w w' := by
  obtain ⟨a, cap, rfl, l1, l2, l3, hg⟩ := hv.get
  cases l with
  | nil =>
    cases a with
    | none => exact (Tryz.slices_Clone_string_nil 0 cap w).mono fun e w' ⟨he, hw⟩ => ⟨⟨_, he, World.ownsRow_nil _ _ _ _⟩, by rw [hw]; exact Ext.refl _⟩
    | some ad => exact (Tryz.slices_Clone_string_zero ad cap w).mono fun e w' ⟨v', he, ho, _, hb⟩ => ⟨⟨_, he, ho⟩, hb⟩
  | cons x l =>
    obtain ⟨b, o, rfl, hc⟩ := hg 0 (by simp)
    refine (Tryz.slices_Clone_string b o (x :: l).length cap ((x :: l).map fun s => (⟨s.toArray⟩ : ByteArray)) w (by simp) (by omega) (fun j hj => ?_)).mono fun e w' ⟨v', he, ho, _, hb⟩ => ⟨⟨_, he, ?_⟩, hb⟩
    · rw [List.length_map] at hj
      rw [hc j hj, List.getD_eq_getElem?_getD, List.getD_eq_getElem?_getD, List.getElem?_map, List.getElem?_eq_getElem hj]
      rfl
    · rw [List.take_of_length_le (by simp), List.map_map] at ho
      exact ho

set_option maxRecDepth 100000 in
set_option maxHeartbeats 4000000 in
theorem wsort_all : ∀ (N : Nat) (v : Value) (l : List B8) (w : World), l.length ≤ N → IsStrs w v l → l.length ≤ 1000000 →
    Calls Tryz.prog 60 #[v] w fun e w' => (∃ v', e = .returned v' ∧ w'.ownsRow w.heap.size 9 1 v' l.length ((sortT l).map S8)) ∧ Ext w w' := by
  intro N
  induction N with
  | zero =>
    intro v l w hN hv hl
    have hl0 : l.length = 0 := by omega
    obtain ⟨a, cap, rfl, l1, l2, l3, -⟩ := hv.get
    have HV : Hid (IsStrs w (.slice a l.length cap) l) := hv
    have HS : Hid (sortT l = l) := sort_small (by omega)
    have h2b : (l.length : Int) < 2 := by omega
    clear hv hl0 hN
    go_enter Tryz.func60, Tryz.ntmps60
    go_wp2_with fail
    go_at_call 85
    refine (clone_strs HV.out (by omega)).mono ?_
    rintro e w1 ⟨⟨v1, rfl, ho⟩, hx⟩
    have HO : Hid _ := ho
    have HX : Hid _ := hx
    clear ho hx
    go_wp2
    go_ret
    exact ⟨⟨_, rfl, by rw [HS.out]; exact HO.out⟩, HX.out⟩
  | succ N ih =>
    intro v l w hN hv hl
    obtain ⟨a, cap, rfl, l1, l2, l3, hga⟩ := hv.get
    have HGA : Hid _ := hga
    have HV : Hid (IsStrs w (.slice a l.length cap) l) := hv
    have HI : Hid _ := ih
    clear hv ih hga
    go_enter Tryz.func60, Tryz.ntmps60
    by_cases h2 : l.length < 2
    · have h2b : (l.length : Int) < 2 := by omega
      have HS : Hid (sortT l = l) := sort_small h2
      go_wp2_with fail
      go_at_call 85
      refine (clone_strs HV.out (by omega)).mono ?_
      rintro e w1 ⟨⟨v1, rfl, ho⟩, hx⟩
      have HO : Hid _ := ho
      have HX : Hid _ := hx
      clear ho hx
      go_wp2
      go_ret
      exact ⟨⟨_, rfl, by rw [HS.out]; exact HO.out⟩, HX.out⟩
    · have h2b : ¬ (l.length : Int) < 2 := by omega
      obtain ⟨k, hk⟩ : ∃ k, l.length / 2 = k := ⟨_, rfl⟩
      have hk1 : (l.length : Int) / 2 = (k : Int) := by omega
      have hk2 : Int.tdiv (l.length : Int) 2 = (k : Int) := by rw [Int.tdiv_eq_ediv_of_nonneg (by omega)]; exact hk1
      have hk3 : 0 < k ∧ k < l.length := by omega
      obtain ⟨ba, oa, rfl, -⟩ := HGA.out 0 (by omega)
      have hmn : k ≤ cap := by omega
      have hkl : k ≤ l.length := by omega
      have HLT : Hid ((sortT (l.take k)).length + (sortT (l.drop k)).length = l.length) := by unfold Hid; rw [sortT_len, sortT_len, List.length_take, List.length_drop]; omega
      have HSH : Hid (sortT (sortT (l.take k) ++ sortT (l.drop k)) = sortT l) := sort_halves l k
      have HT1 : Hid (IsStrs w (.slice (some ⟨ba, oa, none⟩) k cap) (l.take k)) := IsStrs.head k HV.out (by omega)
      have HT2 : Hid (IsStrs w (.slice (if cap = k then some ⟨ba, oa, none⟩ else some ⟨ba, oa + k, none⟩) (l.length - k) (cap - k)) (l.drop k)) := IsStrs.tail k HV.out (by omega) (if cap = k then some ⟨ba, oa, none⟩ else some ⟨ba, oa + k, none⟩) (fun h => by cases h) (fun h b o e => by rw [if_neg h]; cases e; rfl)
      clear HGA
      go_upto_region 4 with fail
      apply wp_region_mix 9 [_, _, _, undef, _, _, _, undef, undef] [none, none, none, some (fun u w' => IsStrs w' u (sortT (l.take k))), none, none, none, some (fun u w' => IsStrs w' u (sortT (l.drop k))), some (fun u w' => w'.ownsRow w.heap.size 9 1 u l.length ((sortT l).map S8))] [[], [], [0, 1], [2], [], [], [4, 5], [6], [3, 7]] (by kernel_rfl) (by kernel_rfl) (by simp [mixV])
      · refine ⟨?_, ?_, ?_, trivial⟩
        · exact fun _ _ _ he hu => hu.ext he
        · exact fun _ _ _ he hu => hu.ext he
        · exact fun _ _ _ he hu => owns_ext hu he
      · simp (maxSteps := 1000000) only [List.take_succ_cons, List.take_zero, oblFrom, stepObl, fillFrom, Act.put, List.setIfInBounds_toArray, List.set_cons_zero, List.set_cons_succ, knows, getV, mixV, List.getD_cons_zero, List.getD_cons_succ, and_true, true_and, forall_const]
        refine ⟨?_, ?_, ?_, ?_, ?_, ?_, ?_, ?_, ?_⟩
        · intro xs wq hq R hR
          go_simp
          exact hR _ _ (Ext.refl _) rfl
        · intro xs wq hq R hR
          go_simp
          exact hR _ _ (Ext.refl _) rfl
        · intro xs wq hq hk R hR
          obtain ⟨hk0, hk1⟩ := hk
          go_simp
          exact hR _ _ (Ext.refl _) rfl
        · intro xs wq hq hk R hR
          go_simp
          exact (HI.out _ _ _ (by rw [List.length_take]; omega) (IsStrs.ext HT1.out hq) (by rw [List.length_take]; omega)).mono (by rintro e' w4 ⟨⟨v, rfl, ho⟩, hx⟩; exact ⟨_, rfl, hR _ _ hx (strs_owned ho (by rw [sortT_len]) (by rw [List.length_take]; omega))⟩)
        · intro xs wq hq R hR
          go_simp
          exact hR _ _ (Ext.refl _) rfl
        · intro xs wq hq R hR
          go_simp
          exact hR _ _ (Ext.refl _) rfl
        · intro xs wq hq hk R hR
          obtain ⟨hk0, hk1⟩ := hk
          go_simp
          exact hR _ _ (Ext.refl _) rfl
        · intro xs wq hq hk R hR
          go_simp
          exact (HI.out _ _ _ (by rw [List.length_drop]; omega) (IsStrs.ext HT2.out hq) (by rw [List.length_drop]; omega)).mono (by rintro e' w4 ⟨⟨v, rfl, ho⟩, hx⟩; exact ⟨_, rfl, hR _ _ hx (strs_owned ho (by rw [sortT_len]) (by rw [List.length_drop]; omega))⟩)
        · intro xs wq hq hk R hR
          obtain ⟨hk0, hk1⟩ := hk
          go_simp
          exact (wmerge_any _ _ _ _ _ hk0 hk1 (sortT_up _) (sortT_up _) (by rw [HLT.out]; omega)).mono (by rw [HLT.out, HSH.out]; rintro e' w4 ⟨⟨v, rfl, ho⟩, hx⟩; exact ⟨_, rfl, hR _ _ hx (World.ownsRow.mono ho hq.size)⟩)
      intro xs w2 hx2 hk
      simp only [heldV, Nat.zero_add, Nat.reduceAdd, and_true] at hk
      obtain ⟨q0, q1, q2, q3, q4, q5, q6, q7, q8⟩ := hk
      simp (maxSteps := 1000000) only [List.take_succ_cons, List.take_zero, List.drop_succ_cons, List.drop_zero, fillFrom, Act.put, List.setIfInBounds_toArray, List.set_cons_zero, List.set_cons_succ, Nat.zero_add, Nat.reduceAdd, q0, q1, q2, q4, q5, q6]
      clear q0 q1 q2 q4 q5 q6
      generalize xs 3 = x3 at *
      generalize xs 7 = x7 at *
      generalize xs 8 = x8 at *
      have HO : Hid _ := q8
      have HX : Hid _ := hx2
      clear hx2 q8
      go_wp2
      go_ret
      exact ⟨⟨_, rfl, HO.out⟩, HX.out⟩

set_option maxRecDepth 100000 in
theorem wuniq_any {w : World} {v : Value} {l : List B8} (hv : IsStrs w v l) (hl : l.length ≤ 1000000) :
    Calls Tryz.prog 30 #[v] w fun e w' => (∃ v', e = .returned v' ∧ w'.ownsRow w.heap.size 9 1 v' (uniqT l).length ((uniqT l).map S8)) ∧ Ext w w' := by
  obtain ⟨a, cap, rfl, l1, l2, l3, -⟩ := hv.get
  have HS : Hid _ := wsort_all l.length _ l w (Nat.le_refl _) hv hl
  have HU : Hid (Lib.compact (sortT l) = uniqT l) := cp_uniq l
  clear hv
  go_enter Tryz.func30, Tryz.ntmps30
  go_wp2_with fail
  go_at_call 60
  refine Calls.mono HS.out ?_
  rintro e w1 ⟨⟨v1, rfl, ho⟩, hx⟩
  have HC : Hid _ := compact_any (by rw [sortT_len]; exact ho) (by rw [sortT_len]; omega)
  have HX : Hid (Ext w w1) := hx
  have HO : Hid (w1.ownsRow w.heap.size 9 1 v1 l.length ((sortT l).map S8)) := ho
  clear ho hx HS
  go_wp2_with fail
  go_at_call 59
  refine Calls.mono HC.out ?_
  rw [HU.out]
  rintro e w2 ⟨⟨v2, rfl, ho2⟩, hg⟩
  have HX2 : Hid (Ext w w2) := Below.grown HX.out hg HX.out.size (fun q hq => (World.ownsRow.lt HO.out q hq).1)
  have HO2 : Hid _ := ho2
  clear ho2 hg HC
  go_wp2
  go_ret
  exact ⟨⟨_, rfl, HO2.out⟩, HX2.out⟩

end Go.Proofs.YtalpfoomkhhgnaaGreatDoor

/-! scan.entries, scan.paths, marref16.Paths: what they answer. Conditions: as each theorem states. -/
namespace Go.Proofs.YtalpfoomkhhgnaaGreatDoor
open Go Go.RowKit Go.Sort
set_option linter.unusedVariables false
set_option linter.unusedSimpArgs false
set_option linter.unusedSectionVars false

/-- The slice holds slices that hold these rows. -/
structure IsTbs (w : World) (v : Value) (us : List Value) (ls : List (List Rw)) : Prop where
  row : Row w v us.length us
  len : us.length = ls.length
  each : ∀ (k : Nat) (u : Value) (l : List Rw), us[k]? = some u → ls[k]? = some l → IsRws w u l
theorem IsTbs.ext {w w' : World} {v : Value} {us : List Value} {ls : List (List Rw)} (h : IsTbs w v us ls) (hx : Ext w w') : IsTbs w' v us ls :=
  ⟨h.row.ext hx, h.len, fun k u l h1 h2 => (h.each k u l h1 h2).ext hx⟩
theorem pathsLs_len2 (ls : List (List Rw)) (k : Nat) : (pathsLs (ls.take k)).length ≤ (pathsLs ls).length := by
  unfold pathsLs
  have h : ls.flatMap (fun l => l.map (·.path)) = (ls.take k).flatMap (fun l => l.map (·.path)) ++ (ls.drop k).flatMap (fun l => l.map (·.path)) := by
    rw [← List.flatMap_append, List.take_append_drop]
  rw [h, List.length_append]
  omega
theorem map_take_snoc {l : List Rw} {j : Nat} {x : Rw} (h : l[j]? = some x) : (l.take (j + 1)).map (·.path) = (l.take j).map (·.path) ++ [x.path] := by rw [take_snocR h, List.map_append]; rfl

end Go.Proofs.YtalpfoomkhhgnaaGreatDoor

/-! marref16.Paths, scan.entries: what they answer. Conditions: as each theorem states. -/
namespace Go.Proofs.YtalpfoomkhhgnaaGreatDoor
open Go Go.RowKit Go.Sort
set_option linter.unusedVariables false
set_option linter.unusedSimpArgs false
set_option linter.unusedSectionVars false

/-! ### Entries -/
def entFV (f : Fi) : Value := .agg #[.int .i64 f.mode, S8 f.data]
theorem zero_ent (w : World) : (zeroValue 26).run Tryz.prog w = .ok (.agg #[.int .i64 0, S8 []]) w := by kernel_rfl
end Go.Proofs.YtalpfoomkhhgnaaGreatDoor

/-! scan.Status: what it answers. Conditions: as each theorem states. -/
namespace Go.Proofs.YtalpfoomkhhgnaaGreatDoor
open Go Go.RowKit Go.Sort
set_option linter.unusedVariables false
set_option linter.unusedSimpArgs false
set_option linter.unusedSectionVars false

/-! ### What differs, in memory -/
def chC (c : Chg) : List Value := [S8 c.path, .int .i64 c.old.1, S8 c.old.2, .int .i64 c.new.1, S8 c.new.2]
def IsChs (w : World) (v : Value) (l : List Chg) : Prop := Row w v l.length (l.flatMap chC)
theorem IsChs.ext {w w' : World} {v : Value} {l : List Chg} (h : IsChs w v l) (hx : Ext w w') : IsChs w' v l := Row.ext h hx
theorem flat_ch : ∀ (l : List Chg) (k : Nat) (x : Chg), l[k]? = some x → (l.flatMap chC)[k * 5]? = some (S8 x.path) ∧ (l.flatMap chC)[k * 5 + 1]? = some (.int .i64 x.old.1) ∧ (l.flatMap chC)[k * 5 + 2]? = some (S8 x.old.2) ∧ (l.flatMap chC)[k * 5 + 3]? = some (.int .i64 x.new.1) ∧ (l.flatMap chC)[k * 5 + 4]? = some (S8 x.new.2)
  | [], k, x, h => by simp at h
  | y :: l, 0, x, h => by
    simp only [List.getElem?_cons_zero, Option.some.injEq] at h
    subst h
    exact ⟨rfl, rfl, rfl, rfl, rfl⟩
  | y :: l, k + 1, x, h => by
    have ih := flat_ch l k x (by simpa using h)
    have e : (y :: l).flatMap chC = S8 y.path :: .int .i64 y.old.1 :: S8 y.old.2 :: .int .i64 y.new.1 :: S8 y.new.2 :: l.flatMap chC := by rw [List.flatMap_cons]; rfl
    rw [e, show (k + 1) * 5 = k * 5 + 1 + 1 + 1 + 1 + 1 by omega]
    exact ih
theorem IsChs.get {w : World} {v : Value} {l : List Chg} (h : IsChs w v l) : ∃ a cap, v = .slice a l.length cap ∧ l.length ≤ cap ∧ l.length ≤ 140737488355328 ∧ cap ≤ 9223372036854775807 ∧
    ∀ (k : Nat) x, l[k]? = some x → ∃ b o, a = some ⟨b, o, none⟩ ∧ w.cell? ⟨b, o + k * 5, none⟩ = some (S8 x.path) ∧ w.cell? ⟨b, o + k * 5 + 1, none⟩ = some (.int .i64 x.old.1) ∧ w.cell? ⟨b, o + k * 5 + 1 + 1, none⟩ = some (S8 x.old.2) ∧ w.cell? ⟨b, o + k * 5 + 3, none⟩ = some (.int .i64 x.new.1) ∧ w.cell? ⟨b, o + k * 5 + 3 + 1, none⟩ = some (S8 x.new.2) := by
  obtain ⟨a, cap, rfl, h1, h2, h3, h4⟩ := h
  refine ⟨a, cap, rfl, h1, h3, h2, fun k x hk => ?_⟩
  obtain ⟨e0, e1, e2, e3, e4⟩ := flat_ch l k x hk
  obtain ⟨b, o, ha, hc⟩ := h4 (fun h0 => by rw [h0] at e0; simp at e0)
  exact ⟨b, o, ha, hc _ _ e0, by have := hc _ _ e1; rwa [← Nat.add_assoc] at this, by have := hc _ _ e2; rwa [← Nat.add_assoc] at this, by have := hc _ _ e3; rwa [← Nat.add_assoc] at this, by have := hc _ _ e4; rwa [← Nat.add_assoc] at this⟩

/-! ### Two entries held against one another -/
theorem neq_ent (a b : Int × B8) (w : World) : (binOp .neq 26 (.agg #[.int .i64 a.1, S8 a.2]) (.agg #[.int .i64 b.1, S8 b.2])).run Tryz.prog w = .ok (.bool (a != b)) w := by
  have hS : Tryz.prog.underlying 26 = some (.struct (Tryz.prog.fieldsOf 26)) := by kernel_rfl
  have hp : Tryz.prog.stoodInHeld 26 = false := by kernel_rfl
  rw [run_neq_struct, show (10000 : Nat) = 9999 + 1 from rfl, run_equalIn_agg w 9999 26 _ _ hS hp]
  simp only [Program.fieldsOf, Tryz.underlying26]
  go_simp
  obtain ⟨a1, a2⟩ := a
  obtain ⟨b1, b2⟩ := b
  have ha : (⟨a2.toArray⟩ : ByteArray).toList = a2 := Lib.toList_data _
  have hb : (⟨b2.toArray⟩ : ByteArray).toList = b2 := Lib.toList_data _
  by_cases h1 : a1 = b1 <;> by_cases h2 : a2 = b2 <;> simp [h1, h2, ha, hb]
theorem eql_ent (a b : Int × B8) (w : World) : (binOp .eql 26 (.agg #[.int .i64 a.1, S8 a.2]) (.agg #[.int .i64 b.1, S8 b.2])).run Tryz.prog w = .ok (.bool (a == b)) w := by
  have hS : Tryz.prog.underlying 26 = some (.struct (Tryz.prog.fieldsOf 26)) := by kernel_rfl
  have hp : Tryz.prog.stoodInHeld 26 = false := by kernel_rfl
  rw [run_eql_struct, show (10000 : Nat) = 9999 + 1 from rfl, run_equalIn_agg w 9999 26 _ _ hS hp]
  simp only [Program.fieldsOf, Tryz.underlying26]
  go_simp
  obtain ⟨a1, a2⟩ := a
  obtain ⟨b1, b2⟩ := b
  have ha : (⟨a2.toArray⟩ : ByteArray).toList = a2 := Lib.toList_data _
  have hb : (⟨b2.toArray⟩ : ByteArray).toList = b2 := Lib.toList_data _
  by_cases h1 : a1 = b1 <;> by_cases h2 : a2 = b2 <;> simp [h1, h2, ha, hb]
section
variable {ops : Array Oper} {rest : List Oper} {o : Oper} {a : Act} {Q : Exit → Act → World → Prop} {w : World}
end
end Go.Proofs.YtalpfoomkhhgnaaGreatDoor

/-! three: file, greater, fight, has, byPath, the orders of rows and notes. Conditions: as each theorem states. -/
namespace Go.Proofs.YtalpfoomkhhgnaaGreatDoor
open Go Go.RowKit Go.Sort
set_option linter.unusedVariables false
set_option linter.unusedSimpArgs false
set_option linter.unusedSectionVars false

set_option maxRecDepth 100000 in
theorem file3_any (m : Int) (id : B8) (w : World) : Calls Tryz.prog 141 #[.agg #[.int .i64 m, S8 id]] w fun e w' => e = .returned (.bool (txtE (m, id))) ∧ Ext w w' := by
  have hx : Ext w (w.alloc (.cells #[.int .i64 m, S8 id] 26)) := (Ext.refl _).alloc _
  by_cases h1 : m = 1
  · subst h1
    go_enter Tryz.func141, Tryz.ntmps141
    go_wp2
    go_ret
    exact ⟨rfl, hx⟩
  · have hz1 : (m == 1) = false := by simpa using h1
    have hT : txtE (m, id) = decide (m = 2) := by unfold txtE; simp [h1]
    rw [hT]
    go_enter Tryz.func141, Tryz.ntmps141
    go_wp2
    go_ret
    exact ⟨by by_cases h2 : m = 2 <;> simp [h2], hx⟩
set_option maxRecDepth 100000 in
theorem greater_any (am bm : Int) (ai bi : B8) (w : World) : Calls Tryz.prog 180 #[.agg #[.int .i64 am, S8 ai], .agg #[.int .i64 bm, S8 bi]] w fun e w' => e = .returned (.bool (grE (am, ai) (bm, bi))) ∧ Ext w w' := by
  have hx : Ext w ((w.alloc (.cells #[.int .i64 am, S8 ai] 26)).alloc (.cells #[.int .i64 bm, S8 bi] 26)) := ((Ext.refl _).alloc _).alloc _
  have hta : (⟨ai.toArray⟩ : ByteArray).toList = ai := Lib.toList_data _
  have htb : (⟨bi.toArray⟩ : ByteArray).toList = bi := Lib.toList_data _
  rcases leT_cases ai bi with ⟨h1, h2, h3⟩ | ⟨h1, h2⟩ | ⟨h1, h2, h3⟩
  · have hG : grE (am, ai) (bm, bi) = true := by unfold grE; rw [h1]; rfl
    rw [hG]
    clear hG h1
    go_enter Tryz.func180, Tryz.ntmps180
    go_wp2
    go_ret
    exact ⟨rfl, hx⟩
  · have h3 : (ai == bi) = false := by
      rw [beq_eq_false_iff_ne]
      rintro rfl
      rw [less_ltB, lt_irr] at h2
      cases h2
    have hG : grE (am, ai) (bm, bi) = false := by unfold grE; rw [h1, h3]; rfl
    rw [hG]
    clear hG h1
    go_enter Tryz.func180, Tryz.ntmps180
    go_wp2
    go_ret
    exact ⟨rfl, hx⟩
  · have hG : grE (am, ai) (bm, bi) = decide (bm < am) := by unfold grE; rw [h1, h3]; rfl
    rw [hG]
    clear hG h1
    go_enter Tryz.func180, Tryz.ntmps180
    go_wp2
    go_ret
    exact ⟨rfl, hx⟩
set_option maxRecDepth 100000 in
theorem rows1_any (x y : Rw) (w : World) : Calls Tryz.prog 67 #[.agg (rwC x).toArray, .agg (rwC y).toArray] w fun e w' => e = .returned (.int .i64 (cmpR x y)) ∧ ∃ os, w' = grow w os := by
  show Calls Tryz.prog 67 #[.agg #[S8 x.path, .int .i64 x.mode, S8 x.id], .agg #[S8 y.path, .int .i64 y.mode, S8 y.id]] w _
  go_enter Tryz.func67, Tryz.ntmps67
  go_wp2_with (go_at_call 35; go_must (refine (compare_any x.path y.path _).mono ?_; rintro e w' ⟨rfl, rfl⟩))
  go_ret
  exact ⟨rfl, _, two_alloc _ _ _ _ _⟩
/-- A note's cells. -/
def ntC (n : B8 × Int) : List Value := [S8 n.1, .int .i64 n.2]
def cmpN (x y : B8 × Int) : Int := if x.1 = y.1 then x.2 - y.2 else cmpI x.1 y.1
def SmallN (n : B8 × Int) : Prop := 0 ≤ n.2 ∧ n.2 ≤ 10
set_option maxRecDepth 100000 in
theorem merge1_any (x y : B8 × Int) (w : World) (hx : 0 ≤ x.2 ∧ x.2 ≤ 10) (hy : 0 ≤ y.2 ∧ y.2 ≤ 10) : Calls Tryz.prog 34 #[.agg (ntC x).toArray, .agg (ntC y).toArray] w fun e w' => e = .returned (.int .i64 (cmpN x y)) ∧ ∃ os, w' = grow w os := by
  obtain ⟨xp, xk⟩ := x
  obtain ⟨yp, yk⟩ := y
  dsimp only at hx hy
  show Calls Tryz.prog 34 #[.agg #[S8 xp, .int .i64 xk], .agg #[S8 yp, .int .i64 yk]] w _
  have htx : (⟨xp.toArray⟩ : ByteArray).toList = xp := Lib.toList_data _
  have hty : (⟨yp.toArray⟩ : ByteArray).toList = yp := Lib.toList_data _
  by_cases he : xp = yp
  · have hw : IntKind.i64.wrap (xk - yk) = xk - yk := IntWalk.i64_in _ (by omega)
    have hz : (xp == yp) = true := by simpa using he
    have hc : cmpN (xp, xk) (yp, yk) = xk - yk := by unfold cmpN; rw [if_pos he]
    rw [hc]
    clear he hc
    go_enter Tryz.func34, Tryz.ntmps34
    go_wp2
    go_ret
    exact ⟨rfl, _, two_alloc _ _ _ _ _⟩
  · have hz : (xp == yp) = false := by simpa using he
    have hc : cmpN (xp, xk) (yp, yk) = cmpI xp yp := by unfold cmpN; rw [if_neg he]
    rw [hc]
    clear he hc
    go_enter Tryz.func34, Tryz.ntmps34
    go_wp2_with (go_at_call 35; go_must (refine (compare_any xp yp _).mono ?_; rintro e w' ⟨rfl, rfl⟩))
    go_ret
    exact ⟨rfl, _, two_alloc _ _ _ _ _⟩
theorem enL_lookG (m : Files) (p : B8) : lookG entFV (.agg #[.int .i64 0, S8 []]) m p = .agg #[.int .i64 (enL m p).1, S8 (enL m p).2] := by
  unfold lookG enL
  cases look m p <;> rfl
set_option maxRecDepth 100000 in
theorem has3_any (g : Nat) (m : Files) (p : B8) (w : World) (hm : IsMG entFV w g m) (hp : p.length ≤ 1000000) : Calls Tryz.prog 147 #[.map (some g), S8 p] w fun e w' => e = .returned (.bool (hasE m p)) ∧ Ext w w' := by
  obtain ⟨hlk, -⟩ := hm.look_run 64 26 _ Tryz.underlying64 (zero_ent w) p hp
  rw [enL_lookG] at hlk
  obtain ⟨⟨em, ei⟩, he⟩ : ∃ q, enL m p = q := ⟨_, rfl⟩
  obtain ⟨b, hb⟩ : ∃ b, (look m p).isSome = b := ⟨_, rfl⟩
  rw [he, hb] at hlk
  dsimp only at hlk
  have hx : Ext w (w.alloc (.cells #[.int .i64 em, S8 ei] 26)) := (Ext.refl _).alloc _
  unfold hasE
  rw [hb]
  clear hb he hm
  go_enter Tryz.func147, Tryz.ntmps147
  go_wp2
  go_ret
  exact ⟨rfl, hx⟩

set_option maxRecDepth 100000 in
set_option maxHeartbeats 4000000 in
theorem byPath_any (v : Value) (l : List Rw) (w : World) (hv : IsRws w v l) (hl : l.length ≤ 1000000) (hs : ∀ r ∈ l, r.path.length ≤ 1000000) :
    Calls Tryz.prog 31 #[v] w fun e w' => (∃ g, e = .returned (.map (some g)) ∧ IsMG entFV w' g (byP l) ∧ w.heap.size ≤ g) ∧ Ext w w' := by
  obtain ⟨a, cap, rfl, l1, l2, l3, hg⟩ := hv.cells
  have HG : Hid _ := hg
  have HS : Hid _ := hs
  have hmm := @run_makeMap Tryz.prog
  clear hv hg hs
  go_enter Tryz.func31, Tryz.ntmps31
  go_upto_region 2 with fail
  obtain ⟨w1, hw1⟩ : ∃ w1, w1 = w.alloc (.map #[] 0) := ⟨_, rfl⟩
  have HX1 : Hid (Ext w w1) := by rw [hw1]; exact (Ext.refl _).alloc _
  have HM1 : Hid (IsMG entFV w1 w.heap.size []) := by rw [hw1]; exact mg_made _ _
  rw [← hw1]
  obtain ⟨g, hgz⟩ : ∃ g, w.heap.size = g := ⟨_, rfl⟩
  have HGZ : Hid _ := hgz
  rw [hgz] at HM1 ⊢
  clear hw1 hgz hmm
  go_wp2_with fail
  go_loopw [9] (fun i wr => ∃ k : Nat, k ≤ l.length ∧ i = .int .i64 k ∧ Hid (IsMG entFV wr g (byP (l.take k))) ∧ Hid (Ext w wr)) (fun i _ => l.length - (intOf i).toNat)
  case atStart => exact ⟨0, Nat.zero_le _, rfl, HM1, HX1⟩
  case round =>
  obtain ⟨k, hk, rfl, HM, HX⟩ := hrel
  by_cases hlt : k < l.length
  case neg =>
    have hkk : k = l.length := by omega
    subst hkk
    have HMX : Hid (IsMG entFV wr g (byP l)) := by have h9 := HM.out; rwa [List.take_length] at h9
    go_wp2
    go_ret
    exact ⟨⟨g, rfl, HMX.out, Nat.le_of_eq HGZ.out⟩, HX.out⟩
  obtain ⟨x, hx⟩ : ∃ x, l[k]? = some x := ⟨_, List.getElem?_eq_getElem hlt⟩
  obtain ⟨bb, oo, rfl, c0, c1, c2⟩ := HG.out k x hx
  have y0 := HX.out.cell c0
  have y1 := HX.out.cell c1
  have y2 := HX.out.cell c2
  have hxp := HS.out x (List.mem_of_getElem? hx)
  have HSN : Hid _ := byP_snoc hx
  have hel : (byP (l.take k)).length ≤ 1000000 := by have := byP_len (l.take k); rw [List.length_take] at this; omega
  obtain ⟨m, hm⟩ : ∃ m, byP (l.take k) = m := ⟨_, rfl⟩
  rw [hm] at HM hel HSN
  obtain ⟨path, mode, id⟩ := x
  dsimp only at y0 y1 y2 hxp
  have hszg : w.heap.size ≤ g := Nat.le_of_eq HGZ.out
  clear c0 c1 c2 hx hm
  go_upto_region 5 with fail
  obtain ⟨w4, hw4⟩ : ∃ w4, w4 = wr.alloc (.cells #[S8 path, .int .i64 mode, S8 id] 30) := ⟨_, rfl⟩
  have hx4 : Ext wr w4 := by rw [hw4]; exact (Ext.refl _).alloc _
  have hb4 : w4.heap[wr.heap.size]? = some (.cells #[S8 path, .int .i64 mode, S8 id] 30 (0, 0)) := by rw [hw4]; exact alloc_at _ _
  rw [← hw4]
  have HX4 : Hid (Ext w w4) := HX.out.trans hx4
  have HM4 : Hid (IsMG entFV w4 g m) := HM.out.ext hx4
  obtain ⟨z0, z1, z2⟩ := cellsAt3 hb4
  obtain ⟨gi, hgi⟩ : ∃ gi, wr.heap.size = gi := ⟨_, rfl⟩
  rw [hgi] at z0 z1 z2 ⊢
  clear hw4 hx4 hb4 hgi y0 y1 y2
  go_wp2_with (refine set_mg 64 26 Tryz.underlying64 rfl _ _ _ rfl HM4.out (by omega) rfl path (by omega) rfl ⟨mode, id, 0⟩ rfl ?_; intro w6 hm6 hg6)
  have HMX : Hid (IsMG entFV w6 g (byP (l.take (k + 1)))) := by
    unfold Hid
    rw [HSN.out]
    exact hm6
  have HX6 : Hid (Ext w w6) := Ext.but HX4.out hg6 hszg
  clear z0 z1 z2 hm6 hg6
  go_wp2_with fail
  go_roundw
  case rel => exact ⟨k + 1, by omega, by go_num, HMX, HX6⟩
  case measure => simp [intOf]; omega
end Go.Proofs.YtalpfoomkhhgnaaGreatDoor

/-! A region that draws its order and that stores one row into a block of the call's own somewhere among its operations. Conditions: each other operation leaves what was there as it was. -/
namespace Go.Proofs.YtalpfoomkhhgnaaGreatDoor
open Go Go.RowKit

/-- All is as it was, but for block g, which may come to hold X, and then holds it on. -/
structure Late (g : Nat) (X : Obj) (w w' : World) : Prop where
  grown : w.grownBy w' (some g)
  keep : w'.heap[g]? = w.heap[g]? ∨ w'.heap[g]? = some X
  once : w.heap[g]? = some X → w'.heap[g]? = some X

theorem Late.refl (g : Nat) (X : Obj) (w : World) : Late g X w w := ⟨⟨rfl, rfl, rfl, Nat.le_refl _, fun _ _ _ => rfl⟩, .inl rfl, id⟩
theorem Late.trans {g : Nat} {X : Obj} {a b c : World} (h : Late g X a b) (k : Late g X b c) : Late g X a c := by
  refine ⟨⟨k.grown.os.trans h.grown.os, k.grown.tape.trans h.grown.tape, k.grown.output.trans h.grown.output, Nat.le_trans h.grown.size k.grown.size, fun i hi hn => (k.grown.block i (Nat.lt_of_lt_of_le hi h.grown.size) hn).trans (h.grown.block i hi hn)⟩, ?_, fun h0 => k.once (h.once h0)⟩
  rcases k.keep with e | e
  · rcases h.keep with e2 | e2
    · exact .inl (e.trans e2)
    · exact .inr (e.trans e2)
  · exact .inr e
theorem Late.of_ext {g : Nat} {X : Obj} {w w' : World} (h : Ext w w') (hg : g < w.heap.size) : Late g X w w' :=
  ⟨⟨h.os, h.tape, h.output, h.size, fun k hk _ => h.block k hk⟩, .inl (h.block g hg), fun h0 => (h.block g hg).trans h0⟩
theorem Late.cell {g : Nat} {X : Obj} {w w' : World} (h : Late g X w w') {b o : Nat} {v : Value} (hc : w.cell? ⟨b, o, none⟩ = some v) (hne : b ≠ g) : w'.cell? ⟨b, o, none⟩ = some v := by
  rw [World.cell?_of_block (w := w) (w' := w') (h.grown.block b (World.block_lt_of_cell? _ _ hc) (by simpa using hne))]
  exact hc
theorem Late.row {g : Nat} {X : Obj} {w w' : World} (h : Late g X w w') {k : Nat} {o : Obj} (hk : w.heap[k]? = some o) (hne : k ≠ g) : w'.heap[k]? = some o :=
  (h.grown.block k (Array.getElem?_eq_some_iff.1 hk).1 (by simpa using hne)).trans hk
theorem Late.at {g : Nat} {cs old : Array Value} {t : TypeId} {w w' : World} (h : Late g (.cells cs t (0, 0)) w w') (hg : w.heap[g]? = some (.cells old t (0, 0))) (hs : old.size = cs.size) :
    ∃ cur, w'.heap[g]? = some (.cells cur t (0, 0)) ∧ cur.size = cs.size := by
  rcases h.keep with e | e
  · exact ⟨old, e.trans hg, hs⟩
  · exact ⟨cs, e, rfl⟩
theorem Late.store {g : Nat} {cs cur : Array Value} {t : TypeId} {w : World} (hg : w.heap[g]? = some (.cells cur t (0, 0))) : Late g (.cells cs t (0, 0)) w (w.setRow g cs) := by
  have h1 : (w.setRow g cs).heap[g]? = some (.cells cs t (0, 0)) := setRow_heap _ _ _ _ _ _ hg
  refine ⟨⟨rfl, rfl, rfl, by simp [World.setRow], fun k hk hn => ?_⟩, .inr h1, fun _ => h1⟩
  have hne : g ≠ k := fun e => hn (by rw [e])
  simp [World.setRow, Array.getElem?_modify, hne]

section
variable {P : Program}
def stabL (g : Nat) (X : Obj) : List (Option (Value → World → Prop)) → Prop
  | [] => True
  | none :: l => stabL g X l
  | some V :: l => (∀ u w w', Late g X w w' → V u w → V u w') ∧ stabL g X l
theorem stab_mixL (g : Nat) (X : Obj) : ∀ (cs : List Value) (l : List (Option (Value → World → Prop))), stabL g X l → stableFrom (Late g X) (mixV cs l)
  | [], [], _ => trivial
  | [], _ :: _, _ => trivial
  | _ :: _, [], _ => trivial
  | _ :: cs, none :: l, h => ⟨fun _ _ _ _ hu => hu, stab_mixL g X cs l h⟩
  | _ :: cs, some _ :: l, h => ⟨h.1, stab_mixL g X cs l h.2⟩

theorem wp_region_late {id : Nat} {Q : Exit → Act → World → Prop} {a : Act} {w : World} {l : List Oper} (g : Nat) (X : Obj) (n : Nat) (cs : List Value) (W : List (Option (Value → World → Prop))) (D : List (List Nat))
    (hm : P.follows .mixedOrders = true) (hB : relB l.toArray n D = true) (hn : (mixV cs W).length ≤ n) (hV : stabL g X W)
    (hs : oblFrom P (Late g X w) (Late g X) l.toArray (mixV cs W) D (l.take n) a (l.take n) 0)
    (hQ : ∀ xs w', Late g X w w' → heldV cs W 0 xs w' → wpList P l.toArray Q (l.drop n) (fillFrom xs (l.take n) 0 a) w') :
    (Code.region id l.toArray true).wp P Q a w :=
  wp_region_le (C := Late g X w) (le := Late g X) n (mixV cs W) D hm (fun _ _ h k => h.trans k) ⟨⟨rfl, rfl, rfl, Nat.le_refl _, fun _ _ _ => rfl⟩, .inl rfl, fun h => h⟩ hB (stab_mixL g X cs W hV) hs
    fun xs w' h1 h2 => hQ xs w' h1 (held_of xs w' cs W 0 fun j hj => by
      rw [Nat.zero_add]; exact knows_get h2 j (List.mem_range.2 (by omega)))

/-- The store of a row, among the operations. -/
theorem obl_store_row {o : Oper} {a : Act} {w : World} {R : Value → World → Prop} {ys : Nat → Option Bool} (hgd : o.guard = none) (ty : TypeId) (x y : Operand) (ho : o.op = .store ty x y)
    (g : Nat) (cells : Array Value) (hx : a.eval x = .pointer (some ⟨g, 0, none⟩)) (hy : a.eval y = .agg cells)
    (t : TypeId) (old : Array Value) (hg : w.heap[g]? = some (.cells old t (0, 0))) (hi : (P.info? ty).map (·.size) = some cells.size)
    (hold : old.size = cells.size) (h1 : cells.all (·.oneCell') = true)
    (h : R undef (w.setRow g cells)) : if Region.wanted o ys then relUpon P R ((execOp a.eval o).run P w) else R undef w := by
  rw [if_pos (by simp [Region.wanted, hgd])]
  unfold execOp
  simp only [ho, hx, hy, Instr.storeAt, Instr.sureAddr, Sem.run_bind, Sem.run_pure, Result.andThen_ok, run_storeVar_row w g t ty old cells hg hi hold h1]
  exact h
end

end Go.Proofs.YtalpfoomkhhgnaaGreatDoor

/-! three: fight, Pick. Conditions: as each theorem states. -/
namespace Go.Proofs.YtalpfoomkhhgnaaGreatDoor
open Go Go.RowKit Go.Sort
set_option linter.unusedVariables false
set_option linter.unusedSimpArgs false
set_option linter.unusedSectionVars false

theorem results_cells2 {fn : Func} {p q : Tmp} (h : fn.results = #[.cell p 26, .cell q 26]) (tmps : Array Value) (w : World) (g k : Nat) (a b : En)
    (hp : tmps.getD p undef = .pointer (some ⟨g, 0, none⟩)) (hq : tmps.getD q undef = .pointer (some ⟨k, 0, none⟩))
    (hg : w.heap[g]? = some (.cells #[.int .i64 a.1, S8 a.2] 26 (0, 0))) (hk : w.heap[k]? = some (.cells #[.int .i64 b.1, S8 b.2] 26 (0, 0))) :
    (results fn tmps).run Tryz.prog w = .ok (.tuple #[.agg #[.int .i64 a.1, S8 a.2], .agg #[.int .i64 b.1, S8 b.2]]) w := by
  have e1 := run_loadVar_row (P := Tryz.prog) w g 26 26 #[.int .i64 a.1, S8 a.2] (0, 0) _ hg Tryz.underlying26 rfl size_ent
  have e2 := run_loadVar_row (P := Tryz.prog) w k 26 26 #[.int .i64 b.1, S8 b.2] (0, 0) _ hk Tryz.underlying26 rfl size_ent
  simp only [Array.getD_eq_getD_getElem?] at hp hq
  simp only [results, h]
  simp [Sem.run_bind, Result.andThen, hp, hq, asAddr, e1, e2]
theorem alloc4_at (w : World) (a b c d : Obj) : ((((w.alloc a).alloc b).alloc c).alloc d).heap[w.heap.size]? = some a ∧ ((((w.alloc a).alloc b).alloc c).alloc d).heap[w.heap.size + 1]? = some b ∧ ((((w.alloc a).alloc b).alloc c).alloc d).heap[w.heap.size + 1 + 1]? = some c ∧ ((((w.alloc a).alloc b).alloc c).alloc d).heap[w.heap.size + 1 + 1 + 1]? = some d := by
  have hs : ∀ (w : World) (o : Obj), (w.alloc o).heap.size = w.heap.size + 1 := fun w o => Array.size_push _
  have e1 : Ext (w.alloc a) ((((w.alloc a).alloc b).alloc c).alloc d) := (((Ext.refl _).alloc _).alloc _).alloc _
  have e2 : Ext ((w.alloc a).alloc b) ((((w.alloc a).alloc b).alloc c).alloc d) := ((Ext.refl _).alloc _).alloc _
  have e3 : Ext (((w.alloc a).alloc b).alloc c) ((((w.alloc a).alloc b).alloc c).alloc d) := (Ext.refl _).alloc _
  have h1 := alloc_at (w.alloc a) b
  have h2 := alloc_at ((w.alloc a).alloc b) c
  have h3 := alloc_at (((w.alloc a).alloc b).alloc c) d
  rw [hs] at h1
  rw [hs, hs] at h2
  rw [hs, hs, hs] at h3
  exact ⟨e1.row (alloc_at w a), e2.row h1, e3.row h2, h3⟩

set_option maxRecDepth 100000 in
set_option maxHeartbeats 2000000 in
theorem fight_any (am bm : Int) (ai bi : B8) (w : World) : Calls Tryz.prog 143 #[.agg #[.int .i64 am, S8 ai], .agg #[.int .i64 bm, S8 bi]] w fun e w' => e = .returned (.tuple #[entV (fightE (am, ai) (bm, bi)).1, entV (fightE (am, ai) (bm, bi)).2]) ∧ Ext w w' := by
  obtain ⟨c, hc⟩ : ∃ c, grE (am, ai) (bm, bi) = c := ⟨_, rfl⟩
  have HF : Hid (fightE (am, ai) (bm, bi) = if c = true then ((am, ai), (bm, bi)) else ((bm, bi), (am, ai))) := by unfold Hid fightE; rw [hc]
  have HC : Hid _ := hc
  clear hc
  go_enter Tryz.func143, Tryz.ntmps143
  go_upto_region 1 with fail
  obtain ⟨b0, b1, b2, b3⟩ := alloc4_at w (.cells #[.int .i64 am, S8 ai] 26) (.cells #[.int .i64 bm, S8 bi] 26) (.cells #[.int .i64 0, S8 []] 26) (.cells #[.int .i64 0, S8 []] 26)
  obtain ⟨wa, hwa⟩ : ∃ wa, wa = (((w.alloc (.cells #[.int .i64 am, S8 ai] 26)).alloc (.cells #[.int .i64 bm, S8 bi] 26)).alloc (.cells #[.int .i64 0, S8 []] 26)).alloc (.cells #[.int .i64 0, S8 []] 26) := ⟨_, rfl⟩
  have HXA : Hid (Ext w wa) := by rw [hwa]; exact ((((Ext.refl _).alloc _).alloc _).alloc _).alloc _
  rw [← hwa] at b0 b1 b2 b3 ⊢
  obtain ⟨g0, hg0⟩ : ∃ g, w.heap.size = g := ⟨_, rfl⟩
  have HLE : Hid (w.heap.size ≤ g0) := Nat.le_of_eq hg0
  rw [hg0] at b0 b1 b2 b3 ⊢
  obtain ⟨g1, hg1⟩ : ∃ g, g0 + 1 = g := ⟨_, rfl⟩
  rw [hg1] at b1 b2 b3 ⊢
  obtain ⟨g2, hg2⟩ : ∃ g, g1 + 1 = g := ⟨_, rfl⟩
  rw [hg2] at b2 b3 ⊢
  obtain ⟨g3, hg3⟩ : ∃ g, g2 + 1 = g := ⟨_, rfl⟩
  rw [hg3] at b3 ⊢
  have HB0 : Hid _ := b0
  have HB1 : Hid _ := b1
  have HB2 : Hid _ := b2
  have HB3 : Hid _ := b3
  have HG2 : Hid (w.heap.size ≤ g2) := by have := HLE.out; unfold Hid; omega
  have HG3 : Hid (w.heap.size ≤ g3) := by have := HLE.out; unfold Hid; omega
  have HNE : Hid (g3 ≠ g2) := by unfold Hid; omega
  have HN0 : Hid (g0 ≠ g2) := by unfold Hid; omega
  have HN1 : Hid (g1 ≠ g2) := by unfold Hid; omega
  have e0 := (cell_of_row _ _ 0 _ _ _ b0).trans rfl
  have e1 := (cell_of_row _ _ 1 _ _ _ b0).trans rfl
  have f0 := (cell_of_row _ _ 0 _ _ _ b1).trans rfl
  have f1 := (cell_of_row _ _ 1 _ _ _ b1).trans rfl
  clear hwa hg0 hg1 hg2 hg3 b0 b1 b2 b3
  go_wp2_with fail
  go_at_call 180
  refine (greater_any am bm ai bi wa).mono ?_
  rw [HC.out]
  rintro e wb ⟨rfl, hxb⟩
  have HXB : Hid (Ext w wb) := HXA.out.trans hxb
  have d2 := hxb.row HB2.out
  have d3 := hxb.row HB3.out
  have x0 := hxb.cell e0
  have x1 := hxb.cell e1
  have y0 := hxb.cell f0
  have y1 := hxb.cell f1
  have D0 : Hid _ := hxb.row HB0.out
  have D1 : Hid _ := hxb.row HB1.out
  have D2 : Hid _ := d2
  have D3 : Hid _ := d3
  clear e0 e1 f0 f1 hxb d2 d3
  cases c with
  | true =>
    have HFF : Hid (fightE (am, ai) (bm, bi) = ((am, ai), (bm, bi))) := HF.out
    go_upto_region 2 with fail
    apply wp_region_late (g2) (.cells #[.int .i64 am, S8 ai] 26 (0, 0)) 3 [.agg #[.int .i64 am, S8 ai], .agg #[.int .i64 bm, S8 bi], undef] [none, none, some (fun _ w' => w'.heap[g2]? = some (.cells #[.int .i64 am, S8 ai] 26 (0, 0)))] [[], [], [0]] (by kernel_rfl) (by kernel_rfl) (by simp [mixV])
    · refine ⟨?_, trivial⟩
      · exact fun _ _ _ he h => he.once h
    · simp (maxSteps := 1000000) only [List.take_succ_cons, List.take_zero, oblFrom, stepObl, fillFrom, Act.put, List.setIfInBounds_toArray, List.set_cons_zero, List.set_cons_succ, knows, getV, mixV, List.getD_cons_zero, List.getD_cons_succ, and_true, true_and, forall_const]
      refine ⟨?_, ?_, ?_⟩
      · intro xs wq hq R hR
        have c0 := hq.cell x0 HN0.out; have c1 := hq.cell x1 HN0.out; have c2 := hq.cell y0 HN1.out; have c3 := hq.cell y1 HN1.out
        go_simp
        exact hR _ _ (Late.refl _ _ _) rfl
      · intro xs wq hq R hR
        have c0 := hq.cell x0 HN0.out; have c1 := hq.cell x1 HN0.out; have c2 := hq.cell y0 HN1.out; have c3 := hq.cell y1 HN1.out
        go_simp
        exact hR _ _ (Late.refl _ _ _) rfl
      · intro xs wq hq hk R hR
        obtain ⟨cur, hcur, hcs⟩ := hq.at D2.out rfl
        exact obl_store_row rfl 26 (.tmp 4) (.tmp 9) rfl g2 #[.int .i64 am, S8 ai] rfl (by exact hk) 26 cur hcur size_ent hcs (by simp [Value.oneCell']) (hR _ _ (Late.store hcur) (setRow_heap _ _ _ _ _ _ hcur))
    intro xs wc hxc hk
    simp only [heldV, Nat.zero_add, Nat.reduceAdd, and_true] at hk
    obtain ⟨q0, q1, q2⟩ := hk
    simp (maxSteps := 1000000) only [List.take_succ_cons, List.take_zero, List.drop_succ_cons, List.drop_zero, fillFrom, Act.put, List.setIfInBounds_toArray, List.set_cons_zero, List.set_cons_succ, Nat.zero_add, Nat.reduceAdd, q0, q1]
    clear q0 q1
    generalize xs 2 = x2 at *
    have E2 : Hid _ := q2
    have E3 : Hid _ := hxc.row D3.out HNE.out
    have HXC : Hid (Ext w wc) := Ext.but HXB.out hxc.grown HG2.out
    clear hxc q2 x0 x1 y0 y1
    go_wp2_with (refine wpList_store_row rfl 26 (.tmp 5) (.tmp 10) rfl g3 #[.int .i64 bm, S8 bi] rfl rfl 26 _ E3.out size_ent rfl (by simp [Value.oneCell']) ?_)
    refine bodyPost_ret (results_cells2 rfl _ _ g2 g3 (am, ai) (bm, bi) rfl rfl (but_row (setRow_grown _ _ _) E2.out HNE.out.symm) (setRow_heap _ _ _ _ _ _ E3.out)) rfl ?_
    rw [HFF.out]
    exact ⟨rfl, Ext.but HXC.out (setRow_grown _ _ _) HG3.out⟩
  | false =>
    have HFF : Hid (fightE (am, ai) (bm, bi) = ((bm, bi), (am, ai))) := HF.out
    go_upto_region 3 with fail
    apply wp_region_late (g2) (.cells #[.int .i64 bm, S8 bi] 26 (0, 0)) 3 [.agg #[.int .i64 bm, S8 bi], .agg #[.int .i64 am, S8 ai], undef] [none, none, some (fun _ w' => w'.heap[g2]? = some (.cells #[.int .i64 bm, S8 bi] 26 (0, 0)))] [[], [], [0]] (by kernel_rfl) (by kernel_rfl) (by simp [mixV])
    · refine ⟨?_, trivial⟩
      · exact fun _ _ _ he h => he.once h
    · simp (maxSteps := 1000000) only [List.take_succ_cons, List.take_zero, oblFrom, stepObl, fillFrom, Act.put, List.setIfInBounds_toArray, List.set_cons_zero, List.set_cons_succ, knows, getV, mixV, List.getD_cons_zero, List.getD_cons_succ, and_true, true_and, forall_const]
      refine ⟨?_, ?_, ?_⟩
      · intro xs wq hq R hR
        have c0 := hq.cell x0 HN0.out; have c1 := hq.cell x1 HN0.out; have c2 := hq.cell y0 HN1.out; have c3 := hq.cell y1 HN1.out
        go_simp
        exact hR _ _ (Late.refl _ _ _) rfl
      · intro xs wq hq R hR
        have c0 := hq.cell x0 HN0.out; have c1 := hq.cell x1 HN0.out; have c2 := hq.cell y0 HN1.out; have c3 := hq.cell y1 HN1.out
        go_simp
        exact hR _ _ (Late.refl _ _ _) rfl
      · intro xs wq hq hk R hR
        obtain ⟨cur, hcur, hcs⟩ := hq.at D2.out rfl
        exact obl_store_row rfl 26 (.tmp 4) (.tmp 11) rfl g2 #[.int .i64 bm, S8 bi] rfl (by exact hk) 26 cur hcur size_ent hcs (by simp [Value.oneCell']) (hR _ _ (Late.store hcur) (setRow_heap _ _ _ _ _ _ hcur))
    intro xs wc hxc hk
    simp only [heldV, Nat.zero_add, Nat.reduceAdd, and_true] at hk
    obtain ⟨q0, q1, q2⟩ := hk
    simp (maxSteps := 1000000) only [List.take_succ_cons, List.take_zero, List.drop_succ_cons, List.drop_zero, fillFrom, Act.put, List.setIfInBounds_toArray, List.set_cons_zero, List.set_cons_succ, Nat.zero_add, Nat.reduceAdd, q0, q1]
    clear q0 q1
    generalize xs 2 = x2 at *
    have E2 : Hid _ := q2
    have E3 : Hid _ := hxc.row D3.out HNE.out
    have HXC : Hid (Ext w wc) := Ext.but HXB.out hxc.grown HG2.out
    clear hxc q2 x0 x1 y0 y1
    go_wp2_with (refine wpList_store_row rfl 26 (.tmp 5) (.tmp 12) rfl g3 #[.int .i64 am, S8 ai] rfl rfl 26 _ E3.out size_ent rfl (by simp [Value.oneCell']) ?_)
    refine bodyPost_ret (results_cells2 rfl _ _ g2 g3 (bm, bi) (am, ai) rfl rfl (but_row (setRow_grown _ _ _) E2.out HNE.out.symm) (setRow_heap _ _ _ _ _ _ E3.out)) rfl ?_
    rw [HFF.out]
    exact ⟨rfl, Ext.but HXC.out (setRow_grown _ _ _) HG3.out⟩
end Go.Proofs.YtalpfoomkhhgnaaGreatDoor

/-! three.Pick, but for the merge of texts. Conditions: as each theorem states. -/
namespace Go.Proofs.YtalpfoomkhhgnaaGreatDoor
open Go Go.RowKit Go.Sort
set_option linter.unusedVariables false
set_option linter.unusedSimpArgs false
set_option linter.unusedSectionVars false

theorem results_cell_row3 {P : Program} {fn : Func} {p u : Tmp} {ty : TypeId} (h : fn.results = #[.cell p ty, .tmp u]) (tmps : Array Value) (w : World) (g : Nat) (t : TypeId) (cs : Array Value) (fr : Nat × Nat) (d : TypeDesc)
    (hp : tmps.getD p undef = .pointer (some ⟨g, 0, none⟩)) (hg : w.heap[g]? = some (.cells cs t fr))
    (hu : P.underlying ty = some d) (hd : (match d with | .struct _ | .array _ _ => true | _ => false) = true) (hi : (P.info? ty).map (·.size) = some cs.size) :
    (results fn tmps).run P w = .ok (.tuple #[.agg cs, tmps.getD u undef]) w := by
  rw [results_cell_tmp h, hp]
  simp [asAddr, run_loadVar_row w g t ty cs fr d hg hu hd hi]
theorem pick_of {o a b : En} {c1 c2 c3 c4 c5 t1 t2 t3 : Bool} (h1 : (a == b) = c1) (h2 : (o == a) = c2) (h3 : (o == b) = c3) (h4 : (a.1 == 0) = c4) (h5 : (b.1 == 0) = c5) (ht : (txtE o && (txtE a && txtE b)) = (t1 && (t2 && t3))) :
    pickE o a b = if c1 = true then (a, 1) else if c2 = true then (b, 2) else if c3 = true then (a, 2) else if c4 = true then (b, 4) else if c5 = true then (a, 4) else if (t1 && (t2 && t3)) = true then ((modeE o a b, []), 3) else ((fightE a b).1, 5) := by
  have e : ∀ (x y : En) (c : Bool), (x == y) = c → ((x = y) ↔ c = true) := fun x y c h => by rw [← h]; simp
  have f : ∀ (x : Int) (c : Bool), (x == 0) = c → ((x = 0) ↔ c = true) := fun x c h => by rw [← h]; simp
  unfold pickE
  rw [ht]
  simp only [e _ _ _ h1, e _ _ _ h2, e _ _ _ h3, f _ _ h4, f _ _ h5]

set_option maxRecDepth 100000 in
set_option maxHeartbeats 8000000 in
theorem pick_any (om am bm : Int) (oi ai bi : B8) (w : World) (hk : (pickE (om, oi) (am, ai) (bm, bi)).2 ≠ 3) :
    Calls Tryz.prog 87 #[.agg #[.int .i64 om, S8 oi], .agg #[.int .i64 am, S8 ai], .agg #[.int .i64 bm, S8 bi]] w fun e w' => e = .returned (.tuple #[entV (pickE (om, oi) (am, ai) (bm, bi)).1, .int .i64 (pickE (om, oi) (am, ai) (bm, bi)).2]) ∧ Ext w w' := by
  obtain ⟨c1, h1⟩ : ∃ c, ((am, ai) == (bm, bi)) = c := ⟨_, rfl⟩
  obtain ⟨c2, h2⟩ : ∃ c, ((om, oi) == (am, ai)) = c := ⟨_, rfl⟩
  obtain ⟨c3, h3⟩ : ∃ c, ((om, oi) == (bm, bi)) = c := ⟨_, rfl⟩
  obtain ⟨c4, h4⟩ : ∃ c, (am == 0) = c := ⟨_, rfl⟩
  obtain ⟨c5, h5⟩ : ∃ c, (bm == 0) = c := ⟨_, rfl⟩
  obtain ⟨t1, ht1⟩ : ∃ c, txtE (om, oi) = c := ⟨_, rfl⟩
  obtain ⟨t2, ht2⟩ : ∃ c, txtE (am, ai) = c := ⟨_, rfl⟩
  obtain ⟨t3, ht3⟩ : ∃ c, txtE (bm, bi) = c := ⟨_, rfl⟩
  have HP : Hid _ := pick_of (o := (om, oi)) (a := (am, ai)) (b := (bm, bi)) h1 h2 h3 h4 h5 (t1 := t1) (t2 := t2) (t3 := t3) (by rw [ht1, ht2, ht3])
  have hk : Hid (¬ ((if c1 = true then ((am, ai), (1 : Int)) else if c2 = true then ((bm, bi), 2) else if c3 = true then ((am, ai), 2) else if c4 = true then ((bm, bi), 4) else if c5 = true then ((am, ai), 4) else if (t1 && (t2 && t3)) = true then ((modeE (om, oi) (am, ai) (bm, bi), []), 3) else ((fightE (am, ai) (bm, bi)).1, 5)).2 = 3)) := by
    unfold Hid
    rw [← HP.out]
    exact hk
  have q1 : ∀ w : World, (binOp .eql 26 (.agg #[.int .i64 am, S8 ai]) (.agg #[.int .i64 bm, S8 bi])).run Tryz.prog w = .ok (.bool c1) w := fun w => by have := eql_ent (am, ai) (bm, bi) w; rwa [h1] at this
  have q2 : ∀ w : World, (binOp .eql 26 (.agg #[.int .i64 om, S8 oi]) (.agg #[.int .i64 am, S8 ai])).run Tryz.prog w = .ok (.bool c2) w := fun w => by have := eql_ent (om, oi) (am, ai) w; rwa [h2] at this
  have q3 : ∀ w : World, (binOp .eql 26 (.agg #[.int .i64 om, S8 oi]) (.agg #[.int .i64 bm, S8 bi])).run Tryz.prog w = .ok (.bool c3) w := fun w => by have := eql_ent (om, oi) (bm, bi) w; rwa [h3] at this
  have HT1 : Hid _ := ht1
  have HT2 : Hid _ := ht2
  have HT3 : Hid _ := ht3
  clear h1 h2 h3 ht1 ht2 ht3
  go_enter Tryz.func87, Tryz.ntmps87
  go_upto_region 1 with fail
  obtain ⟨b0, b1, b2, b3⟩ := alloc4_at w (.cells #[.int .i64 om, S8 oi] 26) (.cells #[.int .i64 am, S8 ai] 26) (.cells #[.int .i64 bm, S8 bi] 26) (.cells #[.int .i64 0, S8 []] 26)
  obtain ⟨wa, hwa⟩ : ∃ wa, wa = (((w.alloc (.cells #[.int .i64 om, S8 oi] 26)).alloc (.cells #[.int .i64 am, S8 ai] 26)).alloc (.cells #[.int .i64 bm, S8 bi] 26)).alloc (.cells #[.int .i64 0, S8 []] 26) := ⟨_, rfl⟩
  have HXA : Hid (Ext w wa) := by rw [hwa]; exact ((((Ext.refl _).alloc _).alloc _).alloc _).alloc _
  rw [← hwa] at b0 b1 b2 b3 ⊢
  obtain ⟨g0, hg0⟩ : ∃ g, w.heap.size = g := ⟨_, rfl⟩
  have HLE : Hid (w.heap.size ≤ g0) := Nat.le_of_eq hg0
  rw [hg0] at b0 b1 b2 b3 ⊢
  obtain ⟨g1, hg1⟩ : ∃ g, g0 + 1 = g := ⟨_, rfl⟩
  rw [hg1] at b1 b2 b3 ⊢
  obtain ⟨g2, hg2⟩ : ∃ g, g1 + 1 = g := ⟨_, rfl⟩
  rw [hg2] at b2 b3 ⊢
  obtain ⟨g3, hg3⟩ : ∃ g, g2 + 1 = g := ⟨_, rfl⟩
  rw [hg3] at b3 ⊢
  have HB0 : Hid _ := b0
  have HB1 : Hid _ := b1
  have HB2 : Hid _ := b2
  have HB3 : Hid _ := b3
  have HG3 : Hid (w.heap.size ≤ g3) := by have := HLE.out; unfold Hid; omega
  have HNE : Hid (g3 ≠ g0 ∧ g3 ≠ g1 ∧ g3 ≠ g2) := by unfold Hid; omega
  have e0 := (cell_of_row _ _ 0 _ _ _ b0).trans rfl
  have e1 := (cell_of_row _ _ 1 _ _ _ b0).trans rfl
  have f0 := (cell_of_row _ _ 0 _ _ _ b1).trans rfl
  have f1 := (cell_of_row _ _ 1 _ _ _ b1).trans rfl
  have k0 := (cell_of_row _ _ 0 _ _ _ b2).trans rfl
  have k1 := (cell_of_row _ _ 1 _ _ _ b2).trans rfl
  clear hwa hg0 hg1 hg2 hg3 b0 b1 b2 b3
  cases c1 with
  | true =>
    go_wp2_with (refine wpList_store_row rfl 26 (.tmp 6) (.tmp 14) rfl g3 #[.int .i64 am, S8 ai] rfl rfl 26 _ HB3.out size_ent rfl (by simp [Value.oneCell']) ?_)
    refine bodyPost_ret (results_cell_row3 rfl _ _ g3 26 #[.int .i64 am, S8 ai] (0, 0) _ rfl (setRow_heap _ _ _ _ _ _ HB3.out) Tryz.underlying26 rfl size_ent) rfl ?_
    rw [HP.out]
    exact ⟨rfl, Ext.but HXA.out (setRow_grown _ _ _) HG3.out⟩
  | false =>
  cases c2 with
  | true =>
    go_wp2_with (refine wpList_store_row rfl 26 (.tmp 6) (.tmp 19) rfl g3 #[.int .i64 bm, S8 bi] rfl rfl 26 _ HB3.out size_ent rfl (by simp [Value.oneCell']) ?_)
    refine bodyPost_ret (results_cell_row3 rfl _ _ g3 26 #[.int .i64 bm, S8 bi] (0, 0) _ rfl (setRow_heap _ _ _ _ _ _ HB3.out) Tryz.underlying26 rfl size_ent) rfl ?_
    rw [HP.out]
    exact ⟨rfl, Ext.but HXA.out (setRow_grown _ _ _) HG3.out⟩
  | false =>
  cases c3 with
  | true =>
    go_wp2_with (refine wpList_store_row rfl 26 (.tmp 6) (.tmp 24) rfl g3 #[.int .i64 am, S8 ai] rfl rfl 26 _ HB3.out size_ent rfl (by simp [Value.oneCell']) ?_)
    refine bodyPost_ret (results_cell_row3 rfl _ _ g3 26 #[.int .i64 am, S8 ai] (0, 0) _ rfl (setRow_heap _ _ _ _ _ _ HB3.out) Tryz.underlying26 rfl size_ent) rfl ?_
    rw [HP.out]
    exact ⟨rfl, Ext.but HXA.out (setRow_grown _ _ _) HG3.out⟩
  | false =>
  cases c4 with
  | true =>
    go_wp2_with (refine wpList_store_row rfl 26 (.tmp 6) (.tmp 29) rfl g3 #[.int .i64 bm, S8 bi] rfl rfl 26 _ HB3.out size_ent rfl (by simp [Value.oneCell']) ?_)
    refine bodyPost_ret (results_cell_row3 rfl _ _ g3 26 #[.int .i64 bm, S8 bi] (0, 0) _ rfl (setRow_heap _ _ _ _ _ _ HB3.out) Tryz.underlying26 rfl size_ent) rfl ?_
    rw [HP.out]
    exact ⟨rfl, Ext.but HXA.out (setRow_grown _ _ _) HG3.out⟩
  | false =>
  cases c5 with
  | true =>
    go_wp2_with (refine wpList_store_row rfl 26 (.tmp 6) (.tmp 34) rfl g3 #[.int .i64 am, S8 ai] rfl rfl 26 _ HB3.out size_ent rfl (by simp [Value.oneCell']) ?_)
    refine bodyPost_ret (results_cell_row3 rfl _ _ g3 26 #[.int .i64 am, S8 ai] (0, 0) _ rfl (setRow_heap _ _ _ _ _ _ HB3.out) Tryz.underlying26 rfl size_ent) rfl ?_
    rw [HP.out]
    exact ⟨rfl, Ext.but HXA.out (setRow_grown _ _ _) HG3.out⟩
  | false =>
  go_upto_region 11 with fail
  have HF1 : Hid (∀ W, Calls Tryz.prog 141 #[.agg #[.int .i64 om, S8 oi]] W fun e w' => e = .returned (.bool t1) ∧ Ext W w') := fun W => by have := file3_any om oi W; rwa [HT1.out] at this
  have HF2 : Hid (∀ W, Calls Tryz.prog 141 #[.agg #[.int .i64 am, S8 ai]] W fun e w' => e = .returned (.bool t2) ∧ Ext W w') := fun W => by have := file3_any am ai W; rwa [HT2.out] at this
  have HF3 : Hid (∀ W, Calls Tryz.prog 141 #[.agg #[.int .i64 bm, S8 bi]] W fun e w' => e = .returned (.bool t3) ∧ Ext W w') := fun W => by have := file3_any bm bi W; rwa [HT3.out] at this
  cases t1 with
  | false =>
    go_wp2_with fail
    go_at_call 141
    refine (HF1.out _).mono ?_
    rintro e w1 ⟨rfl, hx1⟩
    have HX1 : Hid (Ext wa w1) := hx1
    have r10 := HX1.out.cell e0
    have r11 := HX1.out.cell e1
    have s10 := HX1.out.cell f0
    have s11 := HX1.out.cell f1
    have u10 := HX1.out.cell k0
    have u11 := HX1.out.cell k1
    clear hx1
    have HPF : Hid (pickE (om, oi) (am, ai) (bm, bi) = ((fightE (am, ai) (bm, bi)).1, 5)) := HP.out
    have HY : Hid _ := HX1.out
    go_wp2_with fail
    go_at_call 143
    refine (fight_any am bm ai bi _).mono ?_
    obtain ⟨⟨⟨sm, si⟩, ⟨lm, li⟩⟩, hfe⟩ : ∃ q, fightE (am, ai) (bm, bi) = q := ⟨_, rfl⟩
    rw [hfe]
    have HFE : Hid _ := hfe
    unfold entV
    dsimp only
    rintro e wf ⟨rfl, hxf⟩
    have HXF : Hid (Ext wa wf) := HX1.out.trans hxf
    clear hxf hfe
    go_upto_region 14 with fail
    obtain ⟨wg, hwg⟩ : ∃ wg, wg = (wf.alloc (.cells #[.int .i64 sm, S8 si] 26)).alloc (.cells #[.int .i64 lm, S8 li] 26) := ⟨_, rfl⟩
    have HXG : Hid (Ext wa wg) := by rw [hwg]; exact (HXF.out.alloc _).alloc _
    have bs : wg.heap[wf.heap.size]? = some (.cells #[.int .i64 sm, S8 si] 26 (0, 0)) := by rw [hwg]; exact ((Ext.refl _).alloc _).row (alloc_at _ _)
    have v0 := (cell_of_row _ _ 0 _ _ _ bs).trans rfl
    have v1 := (cell_of_row _ _ 1 _ _ _ bs).trans rfl
    have B3 : Hid (wg.heap[g3]? = some (.cells #[.int .i64 0, S8 []] 26 (0, 0))) := HXG.out.row HB3.out
    rw [← hwg]
    clear hwg bs
    go_wp2_with (refine wpList_store_row rfl 26 (.tmp 6) (.tmp 57) rfl g3 #[.int .i64 sm, S8 si] rfl rfl 26 _ B3.out size_ent rfl (by simp [Value.oneCell']) ?_)
    refine bodyPost_ret (results_cell_row3 rfl _ _ g3 26 #[.int .i64 sm, S8 si] (0, 0) _ rfl (setRow_heap _ _ _ _ _ _ B3.out) Tryz.underlying26 rfl size_ent) rfl ?_
    rw [HPF.out, HFE.out]
    exact ⟨rfl, Ext.but (HXA.out.trans HXG.out) (setRow_grown _ _ _) HG3.out⟩
  | true =>
  go_wp2_with fail
  go_at_call 141
  refine (HF1.out _).mono ?_
  rintro e w1 ⟨rfl, hx1⟩
  have HX1 : Hid (Ext wa w1) := hx1
  have r10 := HX1.out.cell e0
  have r11 := HX1.out.cell e1
  have s10 := HX1.out.cell f0
  have s11 := HX1.out.cell f1
  have u10 := HX1.out.cell k0
  have u11 := HX1.out.cell k1
  clear hx1
  cases t2 with
  | false =>
    go_wp2_with fail
    go_at_call 141
    refine (HF2.out _).mono ?_
    rintro e w2 ⟨rfl, hx2⟩
    have HX2 : Hid (Ext wa w2) := HX1.out.trans hx2
    have r20 := HX2.out.cell e0
    have r21 := HX2.out.cell e1
    have s20 := HX2.out.cell f0
    have s21 := HX2.out.cell f1
    have u20 := HX2.out.cell k0
    have u21 := HX2.out.cell k1
    clear hx2
    have HPF : Hid (pickE (om, oi) (am, ai) (bm, bi) = ((fightE (am, ai) (bm, bi)).1, 5)) := HP.out
    have HY : Hid _ := HX2.out
    go_wp2_with fail
    go_at_call 143
    refine (fight_any am bm ai bi _).mono ?_
    obtain ⟨⟨⟨sm, si⟩, ⟨lm, li⟩⟩, hfe⟩ : ∃ q, fightE (am, ai) (bm, bi) = q := ⟨_, rfl⟩
    rw [hfe]
    have HFE : Hid _ := hfe
    unfold entV
    dsimp only
    rintro e wf ⟨rfl, hxf⟩
    have HXF : Hid (Ext wa wf) := HX2.out.trans hxf
    clear hxf hfe
    go_upto_region 14 with fail
    obtain ⟨wg, hwg⟩ : ∃ wg, wg = (wf.alloc (.cells #[.int .i64 sm, S8 si] 26)).alloc (.cells #[.int .i64 lm, S8 li] 26) := ⟨_, rfl⟩
    have HXG : Hid (Ext wa wg) := by rw [hwg]; exact (HXF.out.alloc _).alloc _
    have bs : wg.heap[wf.heap.size]? = some (.cells #[.int .i64 sm, S8 si] 26 (0, 0)) := by rw [hwg]; exact ((Ext.refl _).alloc _).row (alloc_at _ _)
    have v0 := (cell_of_row _ _ 0 _ _ _ bs).trans rfl
    have v1 := (cell_of_row _ _ 1 _ _ _ bs).trans rfl
    have B3 : Hid (wg.heap[g3]? = some (.cells #[.int .i64 0, S8 []] 26 (0, 0))) := HXG.out.row HB3.out
    rw [← hwg]
    clear hwg bs
    go_wp2_with (refine wpList_store_row rfl 26 (.tmp 6) (.tmp 57) rfl g3 #[.int .i64 sm, S8 si] rfl rfl 26 _ B3.out size_ent rfl (by simp [Value.oneCell']) ?_)
    refine bodyPost_ret (results_cell_row3 rfl _ _ g3 26 #[.int .i64 sm, S8 si] (0, 0) _ rfl (setRow_heap _ _ _ _ _ _ B3.out) Tryz.underlying26 rfl size_ent) rfl ?_
    rw [HPF.out, HFE.out]
    exact ⟨rfl, Ext.but (HXA.out.trans HXG.out) (setRow_grown _ _ _) HG3.out⟩
  | true =>
  go_wp2_with fail
  go_at_call 141
  refine (HF2.out _).mono ?_
  rintro e w2 ⟨rfl, hx2⟩
  have HX2 : Hid (Ext wa w2) := HX1.out.trans hx2
  have r20 := HX2.out.cell e0
  have r21 := HX2.out.cell e1
  have s20 := HX2.out.cell f0
  have s21 := HX2.out.cell f1
  have u20 := HX2.out.cell k0
  have u21 := HX2.out.cell k1
  clear hx2
  cases t3 with
  | false =>
    go_wp2_with fail
    go_at_call 141
    refine (HF3.out _).mono ?_
    rintro e w3 ⟨rfl, hx3⟩
    have HX3 : Hid (Ext wa w3) := HX2.out.trans hx3
    have r30 := HX3.out.cell e0
    have r31 := HX3.out.cell e1
    have s30 := HX3.out.cell f0
    have s31 := HX3.out.cell f1
    have u30 := HX3.out.cell k0
    have u31 := HX3.out.cell k1
    clear hx3
    have HPF : Hid (pickE (om, oi) (am, ai) (bm, bi) = ((fightE (am, ai) (bm, bi)).1, 5)) := HP.out
    have HY : Hid _ := HX3.out
    go_wp2_with fail
    go_at_call 143
    refine (fight_any am bm ai bi _).mono ?_
    obtain ⟨⟨⟨sm, si⟩, ⟨lm, li⟩⟩, hfe⟩ : ∃ q, fightE (am, ai) (bm, bi) = q := ⟨_, rfl⟩
    rw [hfe]
    have HFE : Hid _ := hfe
    unfold entV
    dsimp only
    rintro e wf ⟨rfl, hxf⟩
    have HXF : Hid (Ext wa wf) := HX3.out.trans hxf
    clear hxf hfe
    go_upto_region 14 with fail
    obtain ⟨wg, hwg⟩ : ∃ wg, wg = (wf.alloc (.cells #[.int .i64 sm, S8 si] 26)).alloc (.cells #[.int .i64 lm, S8 li] 26) := ⟨_, rfl⟩
    have HXG : Hid (Ext wa wg) := by rw [hwg]; exact (HXF.out.alloc _).alloc _
    have bs : wg.heap[wf.heap.size]? = some (.cells #[.int .i64 sm, S8 si] 26 (0, 0)) := by rw [hwg]; exact ((Ext.refl _).alloc _).row (alloc_at _ _)
    have v0 := (cell_of_row _ _ 0 _ _ _ bs).trans rfl
    have v1 := (cell_of_row _ _ 1 _ _ _ bs).trans rfl
    have B3 : Hid (wg.heap[g3]? = some (.cells #[.int .i64 0, S8 []] 26 (0, 0))) := HXG.out.row HB3.out
    rw [← hwg]
    clear hwg bs
    go_wp2_with (refine wpList_store_row rfl 26 (.tmp 6) (.tmp 57) rfl g3 #[.int .i64 sm, S8 si] rfl rfl 26 _ B3.out size_ent rfl (by simp [Value.oneCell']) ?_)
    refine bodyPost_ret (results_cell_row3 rfl _ _ g3 26 #[.int .i64 sm, S8 si] (0, 0) _ rfl (setRow_heap _ _ _ _ _ _ B3.out) Tryz.underlying26 rfl size_ent) rfl ?_
    rw [HPF.out, HFE.out]
    exact ⟨rfl, Ext.but (HXA.out.trans HXG.out) (setRow_grown _ _ _) HG3.out⟩
  | true => exact absurd rfl hk.out
end Go.Proofs.YtalpfoomkhhgnaaGreatDoor

/-! names.Copy. Conditions: as each theorem states. -/
namespace Go.Proofs.YtalpfoomkhhgnaaGreatDoor
open Go Go.RowKit Go.Sort
set_option linter.unusedVariables false
set_option linter.unusedSimpArgs false
set_option linter.unusedSectionVars false

theorem rep_tilde : ∀ n : Nat, Lib.repeatL [126] n = List.replicate n (126 : UInt8)
  | 0 => rfl
  | n + 1 => by rw [Lib.repeatL, rep_tilde n, List.replicate_succ]; rfl
theorem copy_str (p id : B8) (M n : Nat) (hM : M = min id.length 8) :
    (((⟨p.toArray⟩ : ByteArray) ++ ⟨#[126]⟩) ++ (⟨id.toArray⟩ : ByteArray).extract 0 M) ++ ⟨(Lib.repeatL [126] n).toArray⟩ = ⟨(copyE p id n).toArray⟩ := by
  have hd : ∀ a b : ByteArray, a.data = b.data → a = b := fun a b h => by cases a; cases b; cases h; rfl
  apply hd
  rw [ByteArray.data_append, ByteArray.data_append, ByteArray.data_append, ByteArray.data_extract, rep_tilde]
  have h1 : (id.toArray.extract 0 M).toList = id.take 8 := by
    rw [hM]
    simp [List.take_eq_take_iff]
    try omega
  apply Array.toList_inj.1
  simp only [Array.toList_append, h1]
  unfold copyE
  rfl

set_option maxRecDepth 100000 in
set_option maxHeartbeats 4000000 in
theorem copyN_any (p id : B8) (n : Nat) (w : World) (hn : n ≤ 100) (hp : p.length ≤ 100000) (hi : id.length ≤ 100000) :
    Calls Tryz.prog 90 #[S8 p, S8 id, .int .i64 n] w fun e w' => e = .returned (S8 (copyE p id n)) ∧ Ext w w' := by
  obtain ⟨M, hM⟩ : ∃ M, M = min id.length 8 := ⟨_, rfl⟩
  have HM : Hid _ := hM
  have m1 : min (id.length : Int) 8 = (M : Int) := by omega
  have m2 : (M : Int) ≤ (id.length : Int) := by omega
  have m3 : (if (0 : Int) > (n : Int) then (0 : Int) else (n : Int)) = (n : Int) := by rw [if_neg (by omega)]
  have m4 : min (n : Int) 100 = (n : Int) := by omega
  have hrl : (Lib.repeatL [126] n).length = n := by rw [rep_tilde]; simp
  have m5 : ¬ 9223372036854775807 < p.length + 1 := by omega
  have m6 : ¬ 9223372036854775807 < p.length + 1 + min M id.length := by omega
  have m7 : ¬ 9223372036854775807 < p.length + 1 + min M id.length + (Lib.repeatL [126] n).length := by omega
  have HR : Hid (∀ W, Calls Tryz.prog 146 #[.string ⟨#[126]⟩, .int .i64 n] W fun e w' => e = .returned (.string ⟨(Lib.repeatL [126] n).toArray⟩) ∧ Ext W w') := fun W => Tryz.strings_Repeat ⟨#[126]⟩ n W (by omega) (by show 1 * n ≤ _; omega)
  have M1 : Hid _ := m1
  have M2 : Hid _ := m2
  have M3 : Hid _ := m3
  have M4 : Hid _ := m4
  have M5 : Hid _ := m5
  have M6 : Hid _ := m6
  have M7 : Hid _ := m7
  clear hM m1 m2 m3 m4 m5 m6 m7 hrl
  go_enter Tryz.func90, Tryz.ntmps90
  go_upto_region 1 with fail
  apply wp_region_mix 13 [S8 p, .string ((⟨p.toArray⟩ : ByteArray) ++ ⟨#[126]⟩), S8 id, S8 id, .int .i64 id.length, .int .i64 M, .string ((⟨id.toArray⟩ : ByteArray).extract 0 M), .string (((⟨p.toArray⟩ : ByteArray) ++ ⟨#[126]⟩) ++ (⟨id.toArray⟩ : ByteArray).extract 0 M), .int .i64 n, .int .i64 n, .int .i64 n, .string ⟨(Lib.repeatL [126] n).toArray⟩, .string ((((⟨p.toArray⟩ : ByteArray) ++ ⟨#[126]⟩) ++ (⟨id.toArray⟩ : ByteArray).extract 0 M) ++ ⟨(Lib.repeatL [126] n).toArray⟩)] [none, none, none, none, none, none, none, none, none, none, none, none, none] [[], [0], [], [], [3], [4], [2, 5], [1, 6], [], [8], [9], [10], [7, 11]] (by kernel_rfl) (by kernel_rfl) (by simp [mixV])
  · trivial
  · simp (maxSteps := 1000000) only [List.take_succ_cons, List.take_zero, oblFrom, stepObl, fillFrom, Act.put, List.setIfInBounds_toArray, List.set_cons_zero, List.set_cons_succ, knows, getV, mixV, List.getD_cons_zero, List.getD_cons_succ, and_true, true_and, forall_const]
    refine ⟨?_, ?_, ?_, ?_, ?_, ?_, ?_, ?_, ?_, ?_, ?_, ?_, ?_⟩
    · intro xs wq hq R hR
      have f1 := M1.out; have f2 := M2.out; have f3 := M3.out; have f4 := M4.out
      go_simp
      exact hR _ _ (Ext.refl _) rfl
    · intro xs wq hq hk R hR
      go_simp
      rw [if_neg M5.out]
      exact hR _ _ (Ext.refl _) rfl
    · intro xs wq hq R hR
      have f1 := M1.out; have f2 := M2.out; have f3 := M3.out; have f4 := M4.out
      go_simp
      exact hR _ _ (Ext.refl _) rfl
    · intro xs wq hq R hR
      have f1 := M1.out; have f2 := M2.out; have f3 := M3.out; have f4 := M4.out
      go_simp
      exact hR _ _ (Ext.refl _) rfl
    · intro xs wq hq hk R hR
      have f1 := M1.out; have f2 := M2.out; have f3 := M3.out; have f4 := M4.out
      go_simp
      exact hR _ _ (Ext.refl _) rfl
    · intro xs wq hq hk R hR
      have f1 := M1.out; have f2 := M2.out; have f3 := M3.out; have f4 := M4.out
      go_simp
      exact hR _ _ (Ext.refl _) rfl
    · intro xs wq hq hk R hR
      obtain ⟨hk0, hk1⟩ := hk
      have f1 := M1.out; have f2 := M2.out; have f3 := M3.out; have f4 := M4.out
      go_simp
      exact hR _ _ (Ext.refl _) rfl
    · intro xs wq hq hk R hR
      obtain ⟨hk0, hk1⟩ := hk
      go_simp
      rw [if_neg M6.out]
      exact hR _ _ (Ext.refl _) rfl
    · intro xs wq hq R hR
      have f1 := M1.out; have f2 := M2.out; have f3 := M3.out; have f4 := M4.out
      go_simp
      exact hR _ _ (Ext.refl _) rfl
    · intro xs wq hq hk R hR
      have f1 := M1.out; have f2 := M2.out; have f3 := M3.out; have f4 := M4.out
      go_simp
      exact hR _ _ (Ext.refl _) rfl
    · intro xs wq hq hk R hR
      have f1 := M1.out; have f2 := M2.out; have f3 := M3.out; have f4 := M4.out
      go_simp
      exact hR _ _ (Ext.refl _) rfl
    · intro xs wq hq hk R hR
      go_simp
      exact (HR.out _).mono (by rintro e' w9 ⟨rfl, hx9⟩; exact ⟨_, rfl, hR _ _ hx9 rfl⟩)
    · intro xs wq hq hk R hR
      obtain ⟨hk0, hk1⟩ := hk
      go_simp
      rw [if_neg M7.out]
      exact hR _ _ (Ext.refl _) rfl
  intro xs w2 hx2 hk
  simp only [heldV, Nat.zero_add, Nat.reduceAdd, and_true] at hk
  obtain ⟨q0, q1, q2, q3, q4, q5, q6, q7, q8, q9, q10, q11, q12⟩ := hk
  simp (maxSteps := 1000000) only [List.take_succ_cons, List.take_zero, List.drop_succ_cons, List.drop_zero, fillFrom, Act.put, List.setIfInBounds_toArray, List.set_cons_zero, List.set_cons_succ, Nat.zero_add, Nat.reduceAdd, q0, q1, q2, q3, q4, q5, q6, q7, q8, q9, q10, q11, q12]
  clear q0 q1 q2 q3 q4 q5 q6 q7 q8 q9 q10 q11 q12
  rw [copy_str p id M n HM.out]
  go_wp2
  go_ret
  exact ⟨rfl, hx2⟩
end Go.Proofs.YtalpfoomkhhgnaaGreatDoor
