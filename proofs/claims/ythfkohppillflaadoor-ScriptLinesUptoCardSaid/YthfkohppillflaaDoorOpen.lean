/- An act that comes in as an argument, by value: its fields, its slices, its events read as the texts say. Conditions: the input's bulk is at most 1048576. -/
import Derived.Test.YthfkohppillflaaDoorAct
import Derived.Test.YthfkohppillflaaDoorCard
import Derived.Deep.Slices
import Derived.Deep.Fields
import Derived.ChangeSame
namespace Go.Proofs.YthfkohppillflaaDoor
open Go Go.ChangeShapes Go.WideShapes Go.ChangeAt Go.RowKit Go.Deep

theorem bulk_one {H : Type} (d : DataW H) : 1 ≤ Rows.uptoBulk d := by
  cases d with
  | lit l => cases l <;> simp [Rows.uptoBulk]
  | nil => simp [Rows.uptoBulk]
  | ptr d => simp [Rows.uptoBulk]
  | slice elems spare => simp [Rows.uptoBulk]
  | agg parts => simp [Rows.uptoBulk]
  | iface t d => simp [Rows.uptoBulk]
  | map entries => simp [Rows.uptoBulk]
  | held h => simp [Rows.uptoBulk]
theorem bulk_part {H : Type} {d : DataW H} {l : List (DataW H)} (h : d ∈ l) : Rows.uptoBulk d ≤ Rows.uptoBulkAll l := by
  induction l with
  | nil => cases h
  | cons x r ih =>
    simp only [Rows.uptoBulkAll]
    cases List.mem_cons.1 h with
    | inl e => subst e; omega
    | inr e => have := ih e; omega
theorem bulk_len {H : Type} (l : List (DataW H)) : l.length ≤ Rows.uptoBulkAll l := by
  induction l with
  | nil => simp [Rows.uptoBulkAll]
  | cons x r ih => have := bulk_one x; simp only [Rows.uptoBulkAll, List.length_cons]; omega
theorem bulk_slice {H : Type} (e s : List (DataW H)) : Rows.uptoBulkAll e + Rows.uptoBulkAll s + 1 = Rows.uptoBulk (.slice e s) := by
  simp only [Rows.uptoBulk]

section
variable {H : Type} {enc : TypeId × Value → H} {P : Program} {w : World} {base : Nat} {spare : Nat → Bool} {held : Bool}
theorem slice_fields {t e : TypeId} {fs : Array Field} {fuel : Nat} {cs : List Value} {x : DataW H × List MemPlace} (ht : P.underlying t = some (.slice e)) (he : P.underlying e = some (.struct fs))
    (hone : oneCellFields P fs = true) (hC : P.cellsOf e = fs.size) (h : DataW.trod enc P w base spare held fuel t cs = some x) :
    (cs = [.slice none 0 0] ∧ x = (.nil, [])) ∨
    ∃ (a : Addr) (len cap m : Nat) (D : Nat → DataW H) (Pl : Nat → List MemPlace), cs = [.slice (some a) len cap] ∧ base ≤ a.block ∧ len ≤ cap ∧ cap ≤ maxLen ∧ m = (if spare a.block then cap else len) ∧
      x = (.slice ((List.range len).map D) ((List.range (m - len)).map fun j => D (len + j)), MemPlace.row a (m * fs.size) ++ (List.range m).flatMap Pl) ∧
      ∀ i, i < m → ∃ (ys : List (DataW H × List MemPlace)) (n : Nat), D i = .agg (ys.map (·.1)) ∧ Pl i = ys.flatMap (·.2) ∧ ys.length = fs.size ∧
        ∀ (j : Nat) (f : Field), fs[j]? = some f → ∃ (v : Value) (y : DataW H × List MemPlace), w.cell? (a.add (i * fs.size + j)) = some v ∧ ys[j]? = some y ∧ DataW.trod enc P w base spare held n f.type [v] = some y := by
  rcases open_slice ht h with h0 | ⟨a, len, cap, m, n, D, Pl, hcs, hb, hl, hm, hmm, hx, hi⟩
  · exact .inl h0
  · refine .inr ⟨a, len, cap, m, D, Pl, hcs, hb, hl, hm, hmm, by rw [hC] at hx; exact hx, fun i him => ?_⟩
    obtain ⟨cs', hc, ht'⟩ := hi i him
    rw [hC] at hc
    obtain ⟨ys, n', hn', hy, hlen, hyl, hf⟩ := DataW.trod_struct he ht'
    obtain ⟨_, hcl, hat⟩ := World.cells?_some hc
    simp only [Prod.mk.injEq] at hy
    refine ⟨ys, n', hy.1, hy.2, hyl, fun j f hj => ?_⟩
    obtain ⟨ho, hk⟩ := hone_of hone j f hj
    have hjl : j < fs.size := (Array.getElem?_eq_some_iff.1 hj).1
    have hcell := hat j hjl
    have hv : cs'[j]? = some (cs'[j]'(by omega)) := List.getElem?_eq_getElem (by omega)
    have h1 := hf j f hj
    rw [ho, hk] at h1
    have hone' : (cs'.drop j).take 1 = [cs'[j]'(by omega)] := by
      rw [List.drop_eq_getElem_cons (by omega)]
      rfl
    rw [hone'] at h1
    have hys : ys[j]? = some (ys[j]'(by omega)) := List.getElem?_eq_getElem (by omega)
    refine ⟨_, _, ?_, hys, h1.trans hys⟩
    rw [← Go.Deep.add_add, hcell, hv]

theorem agg8 {r : Reach} {b0 : Nat} {t : TypeId} {f0 f1 f2 f3 f4 f5 f6 f7 : Field} {v : Value} {d : DataW H} {p : List MemPlace} (hs : P.underlying t = some (.struct #[f0, f1, f2, f3, f4, f5, f6, f7])) (hone : oneCellFields P #[f0, f1, f2, f3, f4, f5, f6, f7] = true) (hC : P.cellsOf t = 8)
    (hv : Value.okWide P w r b0 t v) (h : DataW.Trod enc P w base spare held t v d p) :
    ∃ (v0 v1 v2 v3 v4 v5 v6 v7 : Value) (y0 y1 y2 y3 y4 y5 y6 y7 : DataW H × List MemPlace) (n : Nat), v = .agg #[v0, v1, v2, v3, v4, v5, v6, v7] ∧ d = .agg [y0.1, y1.1, y2.1, y3.1, y4.1, y5.1, y6.1, y7.1] ∧
      DataW.trod enc P w base spare held n f0.type [v0] = some y0 ∧ DataW.trod enc P w base spare held n f1.type [v1] = some y1 ∧ DataW.trod enc P w base spare held n f2.type [v2] = some y2 ∧ DataW.trod enc P w base spare held n f3.type [v3] = some y3 ∧ DataW.trod enc P w base spare held n f4.type [v4] = some y4 ∧ DataW.trod enc P w base spare held n f5.type [v5] = some y5 ∧ DataW.trod enc P w base spare held n f6.type [v6] = some y6 ∧ DataW.trod enc P w base spare held n f7.type [v7] = some y7 := by
  obtain ⟨cs, rfl, hsz⟩ := okWide_struct hs hv
  obtain ⟨l⟩ := cs
  match l, hsz.trans hC with
  | [c0, c1, c2, c3, c4, c5, c6, c7], _ =>
    obtain ⟨fuel, hf⟩ := h
    obtain ⟨xs, n, _, hx, _, hlen, hg⟩ := DataW.trod_struct hs hf
    obtain ⟨o0, k0⟩ := hone_of hone 0 f0 rfl
    obtain ⟨o1, k1⟩ := hone_of hone 1 f1 rfl
    obtain ⟨o2, k2⟩ := hone_of hone 2 f2 rfl
    obtain ⟨o3, k3⟩ := hone_of hone 3 f3 rfl
    obtain ⟨o4, k4⟩ := hone_of hone 4 f4 rfl
    obtain ⟨o5, k5⟩ := hone_of hone 5 f5 rfl
    obtain ⟨o6, k6⟩ := hone_of hone 6 f6 rfl
    obtain ⟨o7, k7⟩ := hone_of hone 7 f7 rfl
    match xs, hlen with
    | [y0, y1, y2, y3, y4, y5, y6, y7], _ =>
      simp only [Prod.mk.injEq] at hx
      exact ⟨c0, c1, c2, c3, c4, c5, c6, c7, y0, y1, y2, y3, y4, y5, y6, y7, n, rfl, by simpa using hx.1, by simpa [Value.cells, o0, k0] using hg 0 f0 rfl, by simpa [Value.cells, o1, k1] using hg 1 f1 rfl, by simpa [Value.cells, o2, k2] using hg 2 f2 rfl, by simpa [Value.cells, o3, k3] using hg 3 f3 rfl, by simpa [Value.cells, o4, k4] using hg 4 f4 rfl, by simpa [Value.cells, o5, k5] using hg 5 f5 rfl, by simpa [Value.cells, o6, k6] using hg 6 f6 rfl, by simpa [Value.cells, o7, k7] using hg 7 f7 rfl⟩
end

section
variable {H : Type} {enc : TypeId × Value → H} {W : World}

theorem trod_i64 {n : Nat} {v : Value} {y : DataW H × List MemPlace} (h : DataW.trod enc Tryd.prog W 0 (fun _ => true) true n 3 [v] = some y) : ∃ z, v = .int .i64 z ∧ I64 z := by
  obtain ⟨z, hc, -, hw⟩ := DataW.trod_int Tryd.underlying3 h
  simp only [List.cons.injEq, and_true] at hc
  exact ⟨z, hc, i64_wf hw⟩
theorem trod_s8 {n : Nat} {v : Value} {y : DataW H × List MemPlace} (h : DataW.trod enc Tryd.prog W 0 (fun _ => true) true n 9 [v] = some y) : ∃ l : B8, v = S8 l := by
  obtain ⟨s, hc, -, -⟩ := DataW.trod_string Tryd.underlying9 h
  simp only [List.cons.injEq, and_true] at hc
  exact ⟨s.data.toList, hc⟩

theorem row_of_cells {a : Addr} {len cap : Nat} {cs : List Value} (hl : len ≤ cap) (hm : cap ≤ maxLen) (hn : len ≤ 140737488355328) (hc : ∀ i u, cs[i]? = some u → W.cell? (a.add i) = some u) : Row W (.slice (some a) len cap) len cs := by
  unfold maxLen at hm
  refine ⟨some a, cap, rfl, hl, by omega, hn, fun hne => ?_⟩
  obtain ⟨x, r, rfl⟩ : ∃ x r, cs = x :: r := by
    cases cs with
    | nil => exact (hne rfl).elim
    | cons x r => exact ⟨x, r, rfl⟩
  have hspot : a.spot = none := by
    have := World.cell?_spot (hc 0 x rfl)
    simpa [Addr.add] using this
  obtain ⟨b, o, sp⟩ := a
  simp only at hspot
  subst hspot
  refine ⟨b, o, rfl, fun i u hu => ?_⟩
  have hadd : (⟨b, o, none⟩ : Addr).add i = ⟨b, o + i, none⟩ := by unfold Addr.add; split <;> simp_all
  rw [← hadd]
  exact hc i u hu

theorem trod_bytes {n : Nat} {v : Value} {y : DataW H × List MemPlace} (h : DataW.trod enc Tryd.prog W 0 (fun _ => true) true n 22 [v] = some y) (hb : Rows.uptoBulk y.1 ≤ 1048576) : ∃ l : B8, IsBytes W v l ∧ l.length ≤ 1048576 := by
  rcases open_ints Tryd.underlying22 Tryd.underlying5 cells_u8 h with ⟨hcs, hx⟩ | ⟨a, len, cap, zs, hcs, _, hl, hm, hz, rfl, hcell, hwz⟩
  · simp only [List.cons.injEq, and_true] at hcs
    subst hcs
    exact ⟨[], Row.nil _, by simp⟩
  · simp only [List.cons.injEq, and_true] at hcs
    subst hcs
    simp only [if_true] at hz
    have hs := bulk_slice (H := H) (lits .u8 (zs.take len)) (lits .u8 (zs.drop len))
    have h1 := bulk_len (H := H) (lits .u8 (zs.take len))
    simp only [lits, List.length_map, List.length_take] at h1
    have hlen : len ≤ 1048576 := by simp only [lits] at hs hb; omega
    refine ⟨(zs.take len).map fun z => UInt8.ofNat z.toNat, ?_, by simp; omega⟩
    have hll : ((zs.take len).map fun z => UInt8.ofNat z.toNat).length = len := by simp; omega
    unfold IsBytes
    rw [hll]
    refine row_of_cells hl hm (by omega) fun i u hu => ?_
    have hi : i < len := by
      have := (List.getElem?_eq_some_iff.1 hu).1
      simp at this
      omega
    have hc := hcell i (by omega)
    rw [hc, ← hu]
    have hzi : zs[i]? = some zs[i] := List.getElem?_eq_getElem (by omega)
    have hw := byte_wf (hwz zs[i] (List.getElem_mem (by omega)))
    rw [List.getElem?_map, List.getElem?_map, List.getElem?_take_of_lt hi, hzi]
    simp only [Option.map_some, List.getD_eq_getElem?_getD, hzi, Option.getD_some, Option.some.injEq, Value.int.injEq, true_and, UInt8.toNat_ofNat']
    omega

theorem cells_int : Tryd.prog.cellsOf 3 = 1 := by kernel_rfl
theorem trod_ints {n : Nat} {v : Value} {y : DataW H × List MemPlace} (h : DataW.trod enc Tryd.prog W 0 (fun _ => true) true n 23 [v] = some y) (hb : Rows.uptoBulk y.1 ≤ 1048576) : ∃ l : List Int, IsInts W v l ∧ (∀ x ∈ l, I64 x) ∧ ∀ m c, v = .slice none m c → c = 0 := by
  rcases open_ints Tryd.underlying23 Tryd.underlying3 cells_int h with ⟨hcs, hx⟩ | ⟨a, len, cap, zs, hcs, _, hl, hm, hz, rfl, hcell, hwz⟩
  · simp only [List.cons.injEq, and_true] at hcs
    subst hcs
    exact ⟨[], Row.nil _, by simp, fun m c e => by simp at e; exact e.2.symm⟩
  · simp only [List.cons.injEq, and_true] at hcs
    subst hcs
    simp only [if_true] at hz
    have hs := bulk_slice (H := H) (lits .i64 (zs.take len)) (lits .i64 (zs.drop len))
    have h1 := bulk_len (H := H) (lits .i64 (zs.take len))
    simp only [lits, List.length_map, List.length_take] at h1
    have hlen : len ≤ 1048576 := by simp only [lits] at hs hb; omega
    refine ⟨zs.take len, ?_, fun x hx => i64_wf (hwz x (List.mem_of_mem_take hx)), fun m c e => by simp at e⟩
    have hll : (zs.take len).length = len := by simp; omega
    unfold IsInts
    rw [hll]
    refine row_of_cells hl hm (by omega) fun i u hu => ?_
    have hi : i < len := by
      have := (List.getElem?_eq_some_iff.1 hu).1
      simp at this
      omega
    have hc := hcell i (by omega)
    rw [hc, ← hu]
    have hzi : zs[i]? = some zs[i] := List.getElem?_eq_getElem (by omega)
    rw [List.getElem?_map, List.getElem?_take_of_lt hi, hzi]
    simp [List.getD_eq_getElem?_getD, hzi]

theorem flat_inv (m : Nat) (hm : 0 < m) (css : List (List Value)) (h : ∀ c ∈ css, c.length = m) (q : Nat) (u : Value) (hq : css.flatten[q]? = some u) : ∃ c, css[q / m]? = some c ∧ c[q % m]? = some u := by
  induction css generalizing q with
  | nil => simp at hq
  | cons c r ih =>
    have hc := h c (by simp)
    by_cases hl : q < m
    · refine ⟨c, by rw [Nat.div_eq_of_lt hl]; rfl, ?_⟩
      rw [Nat.mod_eq_of_lt hl]
      simpa [List.flatten_cons, List.getElem?_append_left (show q < c.length by omega)] using hq
    · rw [List.flatten_cons, List.getElem?_append_right (by omega), hc] at hq
      obtain ⟨d, h1, h2⟩ := ih (fun x hx => h x (by simp [hx])) (q - m) hq
      refine ⟨d, ?_, ?_⟩
      · have : q / m = (q - m) / m + 1 := by
          rw [Nat.div_eq_sub_div hm (by omega)]
        rw [this]
        exact h1
      · rw [Nat.mod_eq_sub_mod (by omega)]
        exact h2

theorem one_ev : oneCellFields Tryd.prog (match Tryd.prog.underlying 43 with | some (.struct fs) => fs | _ => #[]) = true := by kernel_rfl
theorem cells_ev : Tryd.prog.cellsOf 43 = 7 := by kernel_rfl
theorem one_ac : oneCellFields Tryd.prog (match Tryd.prog.underlying 26 with | some (.struct fs) => fs | _ => #[]) = true := by kernel_rfl
theorem cells_ac : Tryd.prog.cellsOf 26 = 8 := by kernel_rfl

set_option maxRecDepth 100000 in
theorem trod_evs {n : Nat} {v : Value} {y : DataW H × List MemPlace} (h : DataW.trod enc Tryd.prog W 0 (fun _ => true) true n 24 [v] = some y) (hb : Rows.uptoBulk y.1 ≤ 1048576) : ∃ es : List Ev, IsEvs W v es ∧ ∀ e ∈ es, e.ok ∧ e.data.length ≤ 1048576 := by
  rcases slice_fields Tryd.underlying24 Tryd.underlying43 one_ev cells_ev h with ⟨hcs, hx⟩ | ⟨a, len, cap, m, D, Pl, hcs, _, hl, hm, hmm, rfl, hi⟩
  · simp only [List.cons.injEq, and_true] at hcs
    subst hcs
    exact ⟨[], IsEvs.nil _, by simp⟩
  · simp only [List.cons.injEq, and_true] at hcs
    subst hcs
    simp only [if_true] at hmm
    subst hmm
    have hs := bulk_slice (H := H) ((List.range len).map D) ((List.range (m - len)).map fun j => D (len + j))
    have h1 := bulk_len (H := H) ((List.range len).map D)
    simp only [List.length_map, List.length_range] at h1
    have hlen : len ≤ 1048576 := by simp only at hb; omega
    have key : ∀ i, ∃ ce : List Value × Ev, i < len → ce.1.length = 7 ∧ IsEv W ce.1 ce.2 ∧ ce.2.ok ∧ ce.2.data.length ≤ 1048576 ∧ ∀ j u, ce.1[j]? = some u → W.cell? (a.add (i * 7 + j)) = some u := by
      intro i
      by_cases hil : i < len
      · obtain ⟨ys, k, hD, -, hyl, hf⟩ := hi i (by omega)
        have hbi : Rows.uptoBulk (D i) ≤ Rows.uptoBulkAll ((List.range len).map D) := bulk_part (List.mem_map.2 ⟨i, by simpa using hil, rfl⟩)
        obtain ⟨v0, y0, c0, e0, t0⟩ := hf 0 _ rfl
        obtain ⟨v1, y1, c1, e1, t1⟩ := hf 1 _ rfl
        obtain ⟨v2, y2, c2, e2, t2⟩ := hf 2 _ rfl
        obtain ⟨v3, y3, c3, e3, t3⟩ := hf 3 _ rfl
        obtain ⟨v4, y4, c4, e4, t4⟩ := hf 4 _ rfl
        obtain ⟨v5, y5, c5, e5, t5⟩ := hf 5 _ rfl
        obtain ⟨v6, y6, c6, e6, t6⟩ := hf 6 _ rfl
        obtain ⟨z0, rfl, i0⟩ := trod_i64 t0
        obtain ⟨z1, rfl, i1⟩ := trod_i64 t1
        obtain ⟨z2, rfl, i2⟩ := trod_i64 t2
        obtain ⟨z3, rfl, i3⟩ := trod_i64 t3
        obtain ⟨z4, rfl, i4⟩ := trod_i64 t4
        obtain ⟨p, rfl⟩ := trod_s8 t5
        have hb6 : Rows.uptoBulk y6.1 ≤ Rows.uptoBulk (D i) := by
          rw [hD]
          have := bulk_part (H := H) (d := y6.1) (l := ys.map (·.1)) (List.mem_map.2 ⟨y6, List.mem_of_getElem? e6, rfl⟩)
          simp only [Rows.uptoBulk]
          omega
        obtain ⟨dl, hd, hdl⟩ := trod_bytes t6 (by simp only at hb; omega)
        refine ⟨([.int .i64 z0, .int .i64 z1, .int .i64 z2, .int .i64 z3, .int .i64 z4, S8 p, v6], ⟨z0, z1, z2, z3, z4, p, dl⟩), fun _ => ⟨rfl, ⟨v6, rfl, hd⟩, ⟨i0, i1, i2, i3, i4⟩, hdl, fun j u hu => ?_⟩⟩
        rcases j with _ | _ | _ | _ | _ | _ | _ | j
        · cases hu; exact c0
        · cases hu; exact c1
        · cases hu; exact c2
        · cases hu; exact c3
        · cases hu; exact c4
        · cases hu; exact c5
        · cases hu; exact c6
        · simp at hu
      · exact ⟨([], ⟨0, 0, 0, 0, 0, [], []⟩), fun hc => (hil hc).elim⟩
    have CE := fun i => (key i).choose_spec
    generalize hce : (fun i => (key i).choose) = ce at CE
    have CE' : ∀ i, i < len → (ce i).1.length = 7 ∧ IsEv W (ce i).1 (ce i).2 ∧ (ce i).2.ok ∧ (ce i).2.data.length ≤ 1048576 ∧ ∀ j u, (ce i).1[j]? = some u → W.cell? (a.add (i * 7 + j)) = some u := fun i hil => by
      have := CE i hil
      rw [← hce]
      exact this
    clear CE hce key
    have hget : ∀ (i : Nat) c, ((List.range len).map fun i => (ce i).1)[i]? = some c → i < len ∧ c = (ce i).1 := fun i c hc => by
      have hil := (List.getElem?_eq_some_iff.1 hc).1
      simp only [List.length_map, List.length_range] at hil
      refine ⟨hil, ?_⟩
      rw [List.getElem?_map, List.getElem?_range hil] at hc
      exact (Option.some.inj hc).symm
    refine ⟨(List.range len).map fun i => (ce i).2, ⟨(List.range len).map fun i => (ce i).1, ?_, by simp, fun i c e hc he => ?_⟩, fun e he => ?_⟩
    · rw [List.length_map, List.length_range]
      refine row_of_cells hl hm (by omega) fun q u hq => ?_
      obtain ⟨c, hc, hu⟩ := flat_inv 7 (by omega) _ (fun c hc => by
        obtain ⟨i, hir, rfl⟩ := List.mem_map.1 hc
        exact (CE' i (by simpa using hir)).1) q u hq
      obtain ⟨hil, rfl⟩ := hget _ _ hc
      have := (CE' _ hil).2.2.2.2 _ u hu
      rwa [show q / 7 * 7 + q % 7 = q by omega] at this
    · obtain ⟨hil, rfl⟩ := hget _ _ hc
      rw [List.getElem?_map, List.getElem?_range hil] at he
      cases he
      exact (CE' i hil).2.1
    · obtain ⟨i, hir, rfl⟩ := List.mem_map.1 he
      have := CE' i (by simpa using hir)
      exact ⟨this.2.2.1, this.2.2.2.1⟩

set_option maxRecDepth 100000 in
theorem arg_act {base : Nat} {v : Value} {d : DataW H} {p : List MemPlace} (hval : Value.okWide Tryd.prog W .any base 26 v) (h : DataW.Trod enc Tryd.prog W 0 (fun _ => true) true 26 v d p) (hb : Rows.uptoBulk d ≤ 1048576) :
    ∃ (cs : List Value) (x : Ac), v = .agg cs.toArray ∧ IsAc W cs x ∧ x.ok ∧ (∀ e ∈ x.events, e.data.length ≤ 1048576) ∧ ∀ n c, cs[6]? = some (.slice none n c) → c = 0 := by
  obtain ⟨v0, v1, v2, v3, v4, v5, v6, v7, y0, y1, y2, y3, y4, y5, y6, y7, n, rfl, rfl, t0, t1, t2, t3, t4, t5, t6, t7⟩ := agg8 Tryd.underlying26 one_ac cells_ac hval h
  simp only [Rows.uptoBulk, Rows.uptoBulkAll] at hb
  obtain ⟨z0, rfl, i0⟩ := trod_i64 t0
  obtain ⟨z1, rfl, i1⟩ := trod_i64 t1
  obtain ⟨z2, rfl, i2⟩ := trod_i64 t2
  obtain ⟨z3, rfl, i3⟩ := trod_i64 t3
  obtain ⟨pp, rfl⟩ := trod_s8 t4
  obtain ⟨dl, hd, hdl⟩ := trod_bytes t5 (by omega)
  obtain ⟨fl, hf, hfl, hfn⟩ := trod_ints t6 (by omega)
  obtain ⟨el, he, hel⟩ := trod_evs t7 (by omega)
  refine ⟨_, ⟨z0, z1, z2, z3, pp, dl, fl, el⟩, rfl, ⟨v5, v6, v7, rfl, hd, hf, he⟩, ⟨i0, i1, i2, i3, hfl, fun e hm => (hel e hm).1⟩, fun e hm => (hel e hm).2, fun n c hc => ?_⟩
  exact hfn n c (Option.some.inj hc)
end

end Go.Proofs.YthfkohppillflaaDoor
