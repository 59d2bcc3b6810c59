/- marlaw8.RefsApart. Conditions: as each theorem states. -/
import Derived.Test.YtfimfbdlegookaaGreatDoorZag
import Derived.Test.YtfimfbdlegookaaGreatDoorCards
import Derived.Test.YtfimfbdlegookaaGreatDoorTie
import Derived.OpenShut
import Derived.LaidMore
import Derived.Lay
import Derived.Deep.DeepHandedRow
import Derived.Lib.LaidTab
import Derived.Stop.LaidErr
import Derived.ProofKit
import Derived.SizedLaws
import Derived.Deep.Slices
import Derived.Deep.Fields
import Derived.ChangeSame
import Derived.Test.YtfimfbdlegookaaGreatDoorZaf
import Derived.Test.YtfimfbdlegookaaGreatDoorZab

set_option linter.unusedVariables false
set_option linter.unusedSimpArgs false
set_option linter.unusedSectionVars false

/-! marlaw5: what comes in: operations, by their fields, their slices, their events, read as the texts say. Conditions: what one slice may hold. -/
namespace Go.Proofs.YtfimfbdlegookaaGreatDoor
open Go Go.ChangeShapes Go.WideShapes Go.ChangeAt Go.RowKit Go.Deep

theorem own : ownKnob Tryz.prog.godebug = none := by kernel_rfl
theorem laidOut : laidOutB Tryz.prog = true := by kernel_rfl
theorem cellsU8 : Tryz.prog.cellsOf 5 = 1 := by kernel_rfl
theorem bytesU8 : Tryz.prog.bytesOf 5 = 1 := by kernel_rfl
theorem env_of {W : World} (hs : W.ShapedOpen Tryz.prog) : Env W :=
  ⟨Go.Proofs.cell_of_shapedOpen_int (zero := #[.int .i64 0]) (t := 3) hs (of_decide_eq_true (by kernel_rfl)) (by kernel_rfl) rfl (by kernel_rfl) (by kernel_rfl) Tryz.underlying3⟩

theorem byte_wf {x : Int} (h : (Lit.int .u8 x).wf = true) : 0 ≤ x ∧ x < 256 := by
  have h1 : IntKind.u8.min = 0 := rfl
  have h2 : IntKind.u8.max = 255 := rfl
  simp only [Lit.wf, Bool.and_eq_true, decide_eq_true_eq] at h
  omega
theorem trodAll_below (hl : laidOutB Tryz.prog = true) {H : Type} {enc : TypeId × Value → H} {W W' : World} (hb : Below W.heap.size W W') : ∀ {ts : List TypeId} {vs : List Value} {ds : List (DataW H)} {ps : List MemPlace}, DataW.TrodAll enc Tryz.prog W 0 (fun _ => true) true ts vs ds ps → (∀ x ∈ ps, x.block < W.heap.size) → (∀ t ∈ ts, Tryz.prog.readableRec t = true ∧ t < Tryz.prog.types.size) →
    DataW.TrodAll enc Tryz.prog W' 0 (fun b => decide (b < W.heap.size)) true ts vs ds ps
  | [], vs, ds, ps, h, _, _ => by
    obtain ⟨rfl, rfl, rfl⟩ := trodAll_nil h
    exact trodAll_mk0
  | t :: ts, vs, ds, ps, h, hlt, hr => by
    obtain ⟨v, vs', d, ds', p, q, rfl, rfl, rfl, h0, h1⟩ := trodAll_cons h
    exact ⟨p, q, Below.trod hl (hr t (by simp)).1 (hr t (by simp)).2 h0 hb (fun x hx => hlt x (by simp [hx])), trodAll_below hl hb h1 (fun x hx => hlt x (by simp [hx])) (fun t ht => hr t (by simp [ht])), rfl⟩

theorem i64_wf {n : Int} (h : (Lit.int .i64 n).wf = true) : I64 n := by
  have h1 : IntKind.i64.min = -9223372036854775808 := rfl
  have h2 : IntKind.i64.max = 9223372036854775807 := rfl
  simp only [Lit.wf, Bool.and_eq_true, decide_eq_true_eq] at h
  unfold I64
  omega

section
variable {H : Type} {enc : TypeId × Value → H} {P : Program} {w : World} {base : Nat} {spare : Nat → Bool} {held : Bool}
theorem slice_fields {t e : TypeId} {fs : Array Field} {fuel : Nat} {cs : List Value} {x : DataW H × List MemPlace} (ht : P.underlying t = some (.slice e)) (he : P.underlying e = some (.struct fs))
    (hone : oneCellFields P fs = true) (hC : P.cellsOf e = fs.size) (h : DataW.trod enc P w base spare held fuel t cs = some x) :
    (cs = [.slice none 0 0] ∧ x = (.nil, [])) ∨
    ∃ (a : Addr) (len cap m : Nat) (D : Nat → DataW H) (Pl : Nat → List MemPlace), cs = [.slice (some a) len cap] ∧ base ≤ a.block ∧ len ≤ cap ∧ cap ≤ maxLen ∧ m = (if spare a.block then cap else len) ∧
      x = (.slice ((List.range len).map D) ((List.range (m - len)).map fun j => D (len + j)), MemPlace.row a (m * fs.size) ++ (List.range m).flatMap Pl) ∧
      ∀ i, i < m → ∃ (ys : List (DataW H × List MemPlace)) (n : Nat), D i = .agg (ys.map (·.1)) ∧ Pl i = ys.flatMap (·.2) ∧ ys.length = fs.size ∧
        ∀ (j : Nat) (f : Field), fs[j]? = some f → ∃ (v : Value) (y : DataW H × List MemPlace), w.cell? (a.add (i * fs.size + j)) = some v ∧ ys[j]? = some y ∧ DataW.trod enc P w base spare held n f.type [v] = some y := by
  rcases open_slice ht h with h0 | ⟨a, len, cap, m, n, D, Pl, hcs, hb, hl, hm, hmm, hx, hi⟩
  · exact .inl h0
  · refine .inr ⟨a, len, cap, m, D, Pl, hcs, hb, hl, hm, hmm, by rw [hC] at hx; exact hx, fun i him => ?_⟩
    obtain ⟨cs', hc, ht'⟩ := hi i him
    rw [hC] at hc
    obtain ⟨ys, n', hn', hy, hlen, hyl, hf⟩ := DataW.trod_struct he ht'
    obtain ⟨_, hcl, hat⟩ := World.cells?_some hc
    simp only [Prod.mk.injEq] at hy
    refine ⟨ys, n', hy.1, hy.2, hyl, fun j f hj => ?_⟩
    obtain ⟨ho, hk⟩ := hone_of hone j f hj
    have hjl : j < fs.size := (Array.getElem?_eq_some_iff.1 hj).1
    have hcell := hat j hjl
    have hv : cs'[j]? = some (cs'[j]'(by omega)) := List.getElem?_eq_getElem (by omega)
    have h1 := hf j f hj
    rw [ho, hk] at h1
    have hone' : (cs'.drop j).take 1 = [cs'[j]'(by omega)] := by
      rw [List.drop_eq_getElem_cons (by omega)]
      rfl
    rw [hone'] at h1
    have hys : ys[j]? = some (ys[j]'(by omega)) := List.getElem?_eq_getElem (by omega)
    refine ⟨_, _, ?_, hys, h1.trans hys⟩
    rw [← Go.Deep.add_add, hcell, hv]

end

/-! ### What one slice may hold, at any depth -/
def Szd {H : Type} (t : TypeId) (d : DataW H) : Prop := ∀ n ∈ d.weights Tryz.prog t, n ≤ reachBytes
theorem szd_arg {H : Type} {ts : List TypeId} {ds : List (DataW H)} {j : Nat} {t : TypeId} {d : DataW H} (h : (DataW.weightsEach Tryz.prog ts ds).all (· ≤ reachBytes) = true) (ht : ts[j]? = some t) (hd : ds[j]? = some d) : Szd t d := fun n hn => by
  have := List.all_eq_true.1 h _ (DataW.weights_mem_each ht hd n hn)
  simpa using this
theorem wAll_mem {H : Type} {P : Program} {e : TypeId} : ∀ {l : List (DataW H)} {d : DataW H}, d ∈ l → ∀ n ∈ d.weights P e, n ∈ DataW.weightsAll P e l
  | d' :: r, d, hd, n, hn => by
    simp only [DataW.weightsAll, List.mem_append]
    rcases List.mem_cons.1 hd with rfl | h
    · exact Or.inl hn
    · exact Or.inr (wAll_mem h n hn)
theorem szd_slice {H : Type} {t q : TypeId} {e s : List (DataW H)} (h : Szd t (.slice e s)) (hu : Tryz.prog.underlying t = some (.slice q)) : (e.length + s.length) * Tryz.prog.bytesOf q ≤ reachBytes ∧ ∀ d ∈ e, Szd q d := by
  refine ⟨h _ (by simp [DataW.weights, hu]), fun d hd n hn => h n ?_⟩
  simp only [DataW.weights, hu, List.mem_cons, List.mem_append]
  exact Or.inr (Or.inl (wAll_mem hd n hn))
theorem szd_agg {H : Type} {t : TypeId} {fs : Array Field} {parts : List (DataW H)} {j : Nat} {f : Field} {d : DataW H} (h : Szd t (.agg parts)) (hu : Tryz.prog.underlying t = some (.struct fs)) (hf : fs[j]? = some f) (hd : parts[j]? = some d) : Szd f.type d := fun n hn => by
  refine h n ?_
  simp only [DataW.weights, hu]
  refine DataW.weights_mem_each (j := j) ?_ hd n hn
  rw [List.getElem?_map, Array.getElem?_toList, hf]
  rfl

section
variable {H : Type} {enc : TypeId × Value → H} {W : World}
theorem trod_i64 {n : Nat} {v : Value} {y : DataW H × List MemPlace} (h : DataW.trod enc Tryz.prog W 0 (fun _ => true) true n 3 [v] = some y) : ∃ z, v = .int .i64 z ∧ I64 z := by
  obtain ⟨z, hc, -, hw⟩ := DataW.trod_int Tryz.underlying3 h
  simp only [List.cons.injEq, and_true] at hc
  exact ⟨z, hc, i64_wf hw⟩
theorem trod_s8 {n : Nat} {v : Value} {y : DataW H × List MemPlace} (h : DataW.trod enc Tryz.prog W 0 (fun _ => true) true n 9 [v] = some y) : ∃ l : B8, v = S8 l := by
  obtain ⟨s, hc, -, -⟩ := DataW.trod_string Tryz.underlying9 h
  simp only [List.cons.injEq, and_true] at hc
  exact ⟨s.data.toList, hc⟩

theorem row_of_cells {a : Addr} {len cap : Nat} {cs : List Value} (hl : len ≤ cap) (hm : cap ≤ maxLen) (hn : len ≤ 140737488355328) (hc : ∀ i u, cs[i]? = some u → W.cell? (a.add i) = some u) : Row W (.slice (some a) len cap) len cs := by
  unfold maxLen at hm
  refine ⟨some a, cap, rfl, hl, by omega, hn, fun hne => ?_⟩
  obtain ⟨x, r, rfl⟩ : ∃ x r, cs = x :: r := by
    cases cs with
    | nil => exact (hne rfl).elim
    | cons x r => exact ⟨x, r, rfl⟩
  have hspot : a.spot = none := by
    have := World.cell?_spot (hc 0 x rfl)
    simpa [Addr.add] using this
  obtain ⟨b, o, sp⟩ := a
  simp only at hspot
  subst hspot
  refine ⟨b, o, rfl, fun i u hu => ?_⟩
  have hadd : (⟨b, o, none⟩ : Addr).add i = ⟨b, o + i, none⟩ := by unfold Addr.add; split <;> simp_all
  rw [← hadd]
  exact hc i u hu


theorem trod_bytes {n : Nat} {v : Value} {y : DataW H × List MemPlace} (h : DataW.trod enc Tryz.prog W 0 (fun _ => true) true n 31 [v] = some y) (hb : Szd 31 y.1) : ∃ l : B8, IsBytes W v l := by
  rcases open_ints Tryz.underlying31 Tryz.underlying5 cellsU8 h with ⟨hcs, hx⟩ | ⟨a, len, cap, zs, hcs, _, hl, hm, hz, rfl, hcell, hwz⟩
  · simp only [List.cons.injEq, and_true] at hcs
    subst hcs
    exact ⟨[], Row.nil _⟩
  · simp only [List.cons.injEq, and_true] at hcs
    subst hcs
    simp only [if_true] at hz
    have hs := (szd_slice hb Tryz.underlying31).1
    rw [bytesU8] at hs
    have hr := reachBytes_lt
    simp only [lits, List.length_map, List.length_take, List.length_drop, Nat.mul_one] at hs
    have hlen : len ≤ 140737488355328 := by omega
    refine ⟨(zs.take len).map fun z => UInt8.ofNat z.toNat, ?_⟩
    have hll : ((zs.take len).map fun z => UInt8.ofNat z.toNat).length = len := by simp; omega
    unfold IsBytes
    rw [hll]
    refine row_of_cells hl hm hlen fun i u hu => ?_
    have hi : i < len := by
      have := (List.getElem?_eq_some_iff.1 hu).1
      simp at this
      omega
    have hc := hcell i (by omega)
    rw [hc, ← hu]
    have hzi : zs[i]? = some zs[i] := List.getElem?_eq_getElem (by omega)
    have hw := byte_wf (hwz zs[i] (List.getElem_mem (by omega)))
    rw [List.getElem?_map, List.getElem?_map, List.getElem?_take_of_lt hi, hzi]
    simp only [Option.map_some, List.getD_eq_getElem?_getD, hzi, Option.getD_some, Option.some.injEq, Value.int.injEq, true_and, UInt8.toNat_ofNat']
    omega
theorem row_low {w : World} {v : Value} {n : Nat} {cs : List Value} (h : Row w v n cs) (hn : cs ≠ []) : ∀ k, v.ownBlock = some k → k < w.heap.size := by
  obtain ⟨a, cap, rfl, h1, h2, h3, h4⟩ := h
  obtain ⟨b, o, rfl, hc⟩ := h4 hn
  intro k hk
  cases cs with
  | nil => exact (hn rfl).elim
  | cons x r =>
    have := World.block_lt_of_cell? _ _ (hc 0 x rfl)
    have hb : b = k := by simpa [Value.ownBlock] using hk
    subst hb
    exact this
theorem oldB_of [Inhabited BaseW] {v : Value} {l : B8} (h : IsBytes baseW v l) : OldB v l := by
  refine ⟨h, fun a n c he hn => row_low h ?_ a.block (by rw [he]; rfl)⟩
  obtain ⟨a', cap, hv, -⟩ := h
  rw [he] at hv
  simp only [Value.slice.injEq] at hv
  intro h0
  have := congrArg List.length h0
  simp at this
  rw [this] at hv
  exact hn hv.2.1

theorem flat_inv (m : Nat) (hm : 0 < m) (css : List (List Value)) (h : ∀ c ∈ css, c.length = m) (q : Nat) (u : Value) (hq : css.flatten[q]? = some u) : ∃ c, css[q / m]? = some c ∧ c[q % m]? = some u := by
  induction css generalizing q with
  | nil => simp at hq
  | cons c r ih =>
    have hc := h c (by simp)
    by_cases hl : q < m
    · refine ⟨c, by rw [Nat.div_eq_of_lt hl]; rfl, ?_⟩
      rw [Nat.mod_eq_of_lt hl]
      simpa [List.flatten_cons, List.getElem?_append_left (show q < c.length by omega)] using hq
    · rw [List.flatten_cons, List.getElem?_append_right (by omega), hc] at hq
      obtain ⟨d, h1, h2⟩ := ih (fun x hx => h x (by simp [hx])) (q - m) hq
      refine ⟨d, ?_, ?_⟩
      · have : q / m = (q - m) / m + 1 := by
          rw [Nat.div_eq_sub_div hm (by omega)]
        rw [this]
        exact h1
      · rw [Nat.mod_eq_sub_mod (by omega)]
        exact h2


theorem one_ev : oneCellFields Tryz.prog (match Tryz.prog.underlying 53 with | some (.struct fs) => fs | _ => #[]) = true := by kernel_rfl
theorem cells_ev : Tryz.prog.cellsOf 53 = 7 := by kernel_rfl
theorem one_op : oneCellFields Tryz.prog (match Tryz.prog.underlying 34 with | some (.struct fs) => fs | _ => #[]) = true := by kernel_rfl
theorem cells_opn : Tryz.prog.cellsOf 34 = 8 := by kernel_rfl
theorem bytes_ev : 1 ≤ Tryz.prog.bytesOf 53 := of_decide_eq_true (by kernel_rfl)
theorem bytes_opn : 1 ≤ Tryz.prog.bytesOf 34 := of_decide_eq_true (by kernel_rfl)
theorem mul_ge {a b c : Nat} (h : a * b ≤ c) (hb : 1 ≤ b) : a ≤ c := Nat.le_trans (Nat.le_mul_of_pos_right a hb) h
/-- A slice of structs, from what each row says. -/
theorem readO_of {α : Type} (m : Nat) (hm0 : 0 < m) {a : Addr} {len cap : Nat} (d0 : List Value × α) (hl : len ≤ cap) (hm : cap ≤ maxLen) (hn : len ≤ 140737488355328) {p : List Value → α → Prop} (hp : ∀ c x, p c x → c.length = m)
    (key : ∀ i, i < len → ∃ ce : List Value × α, p ce.1 ce.2 ∧ ∀ j u, ce.1[j]? = some u → W.cell? (a.add (i * m + j)) = some u) : ∃ xs : List α, ReadO W p (.slice (some a) len cap) xs ∧ xs.length = len ∧ ∀ x ∈ xs, ∃ c, p c x := by
  have key2 : ∀ i, ∃ ce : List Value × α, i < len → p ce.1 ce.2 ∧ ∀ j u, ce.1[j]? = some u → W.cell? (a.add (i * m + j)) = some u := fun i => by
    by_cases h : i < len
    · obtain ⟨ce, h1⟩ := key i h
      exact ⟨ce, fun _ => h1⟩
    · exact ⟨d0, fun hc => (h hc).elim⟩
  have CE := fun i => (key2 i).choose_spec
  generalize hce : (fun i => (key2 i).choose) = ce at CE
  have CE' : ∀ i, i < len → p (ce i).1 (ce i).2 ∧ ∀ j u, (ce i).1[j]? = some u → W.cell? (a.add (i * m + j)) = some u := fun i hil => by
    have := CE i hil
    rw [← hce]
    exact this
  have hget : ∀ (i : Nat) c, ((List.range len).map fun i => (ce i).1)[i]? = some c → i < len ∧ c = (ce i).1 := fun i c hc => by
    have hil := (List.getElem?_eq_some_iff.1 hc).1
    simp only [List.length_map, List.length_range] at hil
    refine ⟨hil, ?_⟩
    rw [List.getElem?_map, List.getElem?_range hil] at hc
    exact (Option.some.inj hc).symm
  have hrow : Row W (.slice (some a) len cap) len ((List.range len).map fun i => (ce i).1).flatten := by
    refine row_of_cells hl hm hn fun q u hq => ?_
    obtain ⟨c, hc, hu⟩ := flat_inv m hm0 _ (fun c hc => by
      obtain ⟨i, hir, rfl⟩ := List.mem_map.1 hc
      exact hp _ _ (CE' i (by simpa using hir)).1) q u hq
    obtain ⟨hil, rfl⟩ := hget _ _ hc
    have := (CE' _ hil).2 _ u hu
    rwa [show q / m * m + q % m = q by rw [Nat.mul_comm]; exact Nat.div_add_mod q m] at this
  refine ⟨(List.range len).map fun i => (ce i).2, ⟨(List.range len).map fun i => (ce i).1, by rw [List.length_map, List.length_range]; exact hrow, fun hne => ?_, by simp, fun i c e hc he => ?_⟩, by simp, fun x hx => ?_⟩
  · refine row_low hrow fun h0 => ?_
    have hlen : 0 < len := by
      cases len with
      | zero => exact (hne rfl).elim
      | succ n => omega
    have h1 := hp _ _ (CE' 0 hlen).1
    have h2 : ((List.range len).map fun i => (ce i).1)[0]? = some (ce 0).1 := by rw [List.getElem?_map, List.getElem?_range hlen]; rfl
    have h3 := List.mem_of_getElem? h2
    have h4 := List.flatten_eq_nil_iff.1 h0 _ h3
    rw [h4] at h1
    simp at h1
    omega
  · obtain ⟨hil, rfl⟩ := hget _ _ hc
    rw [List.getElem?_map, List.getElem?_range hil] at he
    cases he
    exact (CE' i hil).1
  · obtain ⟨i, hir, rfl⟩ := List.mem_map.1 hx
    exact ⟨_, (CE' i (by simpa using hir)).1⟩
end

section
variable [Inhabited BaseW] {H : Type} {enc : TypeId × Value → H} {W : World}
set_option maxRecDepth 100000 in
theorem trod_evs (hW : baseW = W) {n : Nat} {v : Value} {y : DataW H × List MemPlace} (h : DataW.trod enc Tryz.prog W 0 (fun _ => true) true n 32 [v] = some y) (hb : Szd 32 y.1) : ∃ es : List Ev, ReadO W IsEvI v es ∧ ∀ e ∈ es, I64 e.keep ∧ I64 e.torn := by
  rcases slice_fields Tryz.underlying32 Tryz.underlying53 one_ev cells_ev h with ⟨hcs, hx⟩ | ⟨a, len, cap, m, D, Pl, hcs, _, hl, hm, hmm, rfl, hi⟩
  · simp only [List.cons.injEq, and_true] at hcs
    subst hcs
    exact ⟨[], ⟨[], Row.nil _, fun h => (h rfl).elim, Each.nil _⟩, by simp⟩
  · simp only [List.cons.injEq, and_true] at hcs
    subst hcs
    simp only [if_true] at hmm
    subst hmm
    obtain ⟨hs1, hs2⟩ := szd_slice hb Tryz.underlying32
    have hlen := mul_ge hs1 bytes_ev
    have hr := reachBytes_lt
    simp only [List.length_map, List.length_range] at hlen
    obtain ⟨xs, h1, -, h2⟩ := readO_of (W := W) (a := a) (len := len) (p := fun c (e : Ev) => IsEvI c e ∧ I64 e.keep ∧ I64 e.torn) 7 (by omega) ([], ⟨0, 0, 0, 0, 0, [], []⟩) hl hm (by omega) (fun c x hx => hx.1.length.1) (fun i hil => by
      obtain ⟨ys, k, hD, -, hyl, hf⟩ := hi i (by omega)
      have hSi : Szd 53 (D i) := hs2 _ (List.mem_map.2 ⟨i, by simpa using hil, rfl⟩)
      obtain ⟨v0, y0, c0, e0, t0⟩ := hf 0 _ rfl
      obtain ⟨v1, y1, c1, e1, t1⟩ := hf 1 _ rfl
      obtain ⟨v2, y2, c2, e2, t2⟩ := hf 2 _ rfl
      obtain ⟨v3, y3, c3, e3, t3⟩ := hf 3 _ rfl
      obtain ⟨v4, y4, c4, e4, t4⟩ := hf 4 _ rfl
      obtain ⟨v5, y5, c5, e5, t5⟩ := hf 5 _ rfl
      obtain ⟨v6, y6, c6, e6, t6⟩ := hf 6 _ rfl
      obtain ⟨z0, rfl, i0⟩ := trod_i64 t0
      obtain ⟨z1, rfl, i1⟩ := trod_i64 t1
      obtain ⟨z2, rfl, i2⟩ := trod_i64 t2
      obtain ⟨z3, rfl, i3⟩ := trod_i64 t3
      obtain ⟨z4, rfl, i4⟩ := trod_i64 t4
      obtain ⟨pp, rfl⟩ := trod_s8 t5
      rw [hD] at hSi
      have hS6 := szd_agg (j := 6) hSi Tryz.underlying53 rfl (by rw [List.getElem?_map, e6]; rfl)
      obtain ⟨dl, hd⟩ := trod_bytes t6 hS6
      refine ⟨([.int .i64 z0, .int .i64 z1, .int .i64 z2, .int .i64 z3, .int .i64 z4, S8 pp, v6], ⟨z0, z1, z2, z3, z4, pp, dl⟩), ⟨⟨v6, rfl, oldB_of (by rw [hW]; exact hd)⟩, i3, i4⟩, fun j u hu => ?_⟩
      rcases j with _ | _ | _ | _ | _ | _ | _ | j
      · cases hu; exact c0
      · cases hu; exact c1
      · cases hu; exact c2
      · cases hu; exact c3
      · cases hu; exact c4
      · cases hu; exact c5
      · cases hu; exact c6
      · simp at hu)
    exact ⟨xs, h1.mono (fun c x hx => hx.1), fun e he => by obtain ⟨c, hc⟩ := h2 e he; exact hc.2⟩
set_option maxRecDepth 100000 in
theorem trod_ops (hW : baseW = W) {n : Nat} {v : Value} {y : DataW H × List MemPlace} (h : DataW.trod enc Tryz.prog W 0 (fun _ => true) true n 108 [v] = some y) (hb : Szd 108 y.1) : ∃ os : List Opn, IsOps W v os ∧ ∀ o ∈ os, I64 o.keep ∧ I64 o.torn ∧ ∀ e ∈ o.plan, I64 e.keep ∧ I64 e.torn := by
  rcases slice_fields Tryz.underlying108 Tryz.underlying34 one_op cells_opn h with ⟨hcs, hx⟩ | ⟨a, len, cap, m, D, Pl, hcs, _, hl, hm, hmm, rfl, hi⟩
  · simp only [List.cons.injEq, and_true] at hcs
    subst hcs
    exact ⟨[], ⟨[], Row.nil _, fun h => (h rfl).elim, Each.nil _⟩, by simp⟩
  · simp only [List.cons.injEq, and_true] at hcs
    subst hcs
    simp only [if_true] at hmm
    subst hmm
    obtain ⟨hs1, hs2⟩ := szd_slice hb Tryz.underlying108
    have hlen := mul_ge hs1 bytes_opn
    have hr := reachBytes_lt
    simp only [List.length_map, List.length_range] at hlen
    obtain ⟨xs, h1, -, h2⟩ := readO_of (W := W) (a := a) (len := len) (p := fun c (o : Opn) => IsOpn W c o ∧ I64 o.keep ∧ I64 o.torn ∧ ∀ e ∈ o.plan, I64 e.keep ∧ I64 e.torn) 8 (by omega) ([], ⟨0, 0, 0, 0, [], [], [], []⟩) hl hm (by omega) (fun c x hx => hx.1.length.1) (fun i hil => by
      obtain ⟨ys, k, hD, -, hyl, hf⟩ := hi i (by omega)
      have hSi : Szd 34 (D i) := hs2 _ (List.mem_map.2 ⟨i, by simpa using hil, rfl⟩)
      obtain ⟨v0, y0, c0, e0, t0⟩ := hf 0 _ rfl
      obtain ⟨v1, y1, c1, e1, t1⟩ := hf 1 _ rfl
      obtain ⟨v2, y2, c2, e2, t2⟩ := hf 2 _ rfl
      obtain ⟨v3, y3, c3, e3, t3⟩ := hf 3 _ rfl
      obtain ⟨v4, y4, c4, e4, t4⟩ := hf 4 _ rfl
      obtain ⟨v5, y5, c5, e5, t5⟩ := hf 5 _ rfl
      obtain ⟨v6, y6, c6, e6, t6⟩ := hf 6 _ rfl
      obtain ⟨v7, y7, c7, e7, t7⟩ := hf 7 _ rfl
      obtain ⟨z0, rfl, i0⟩ := trod_i64 t0
      obtain ⟨z1, rfl, i1⟩ := trod_i64 t1
      obtain ⟨z2, rfl, i2⟩ := trod_i64 t2
      obtain ⟨z3, rfl, i3⟩ := trod_i64 t3
      obtain ⟨pp, rfl⟩ := trod_s8 t4
      obtain ⟨qq, rfl⟩ := trod_s8 t5
      rw [hD] at hSi
      have hS6 := szd_agg (j := 6) hSi Tryz.underlying34 rfl (by rw [List.getElem?_map, e6]; rfl)
      have hS7 := szd_agg (j := 7) hSi Tryz.underlying34 rfl (by rw [List.getElem?_map, e7]; rfl)
      obtain ⟨dl, hd⟩ := trod_bytes t6 hS6
      obtain ⟨es, he, hek⟩ := trod_evs hW t7 hS7
      refine ⟨([.int .i64 z0, .int .i64 z1, .int .i64 z2, .int .i64 z3, S8 pp, S8 qq, v6, v7], ⟨z0, z1, z2, z3, pp, qq, dl, es⟩), ⟨⟨v6, v7, rfl, oldB_of (by rw [hW]; exact hd), he⟩, i2, i3, hek⟩, fun j u hu => ?_⟩
      rcases j with _ | _ | _ | _ | _ | _ | _ | _ | j
      · cases hu; exact c0
      · cases hu; exact c1
      · cases hu; exact c2
      · cases hu; exact c3
      · cases hu; exact c4
      · cases hu; exact c5
      · cases hu; exact c6
      · cases hu; exact c7
      · simp at hu)
    exact ⟨xs, h1.mono (fun c x hx => hx.1), fun e he => by obtain ⟨c, hc⟩ := h2 e he; exact hc.2⟩
set_option maxRecDepth 100000 in
/-- An argument: operations. -/
theorem arg_ops (hW : baseW = W) {base : Nat} {v : Value} {d : DataW H} {p : List MemPlace} {ts : List TypeId} {ds : List (DataW H)} {j : Nat}
    (hval : Value.okWide Tryz.prog W .any base 108 v) (h : DataW.Trod enc Tryz.prog W 0 (fun _ => true) true 108 v d p)
    (hsz : (DataW.weightsEach Tryz.prog ts ds).all (· ≤ reachBytes) = true) (ht : ts[j]? = some 108) (hd : ds[j]? = some d) : ∃ os : List Opn, IsOps W v os ∧ ∀ o ∈ os, I64 o.keep ∧ I64 o.torn ∧ ∀ e ∈ o.plan, I64 e.keep ∧ I64 e.torn := by
  obtain ⟨a0, len, cap, rfl⟩ := okWide_slice Tryz.underlying108 hval
  obtain ⟨fuel, hf⟩ := h
  exact trod_ops hW (y := (d, p)) (by simpa [Value.cells] using hf) (szd_arg hsz ht hd)
set_option maxRecDepth 100000 in
/-- .. bytes. -/
theorem arg_bytes {base : Nat} {v : Value} {d : DataW H} {p : List MemPlace} {ts : List TypeId} {ds : List (DataW H)} {j : Nat}
    (hval : Value.okWide Tryz.prog W .any base 31 v) (h : DataW.Trod enc Tryz.prog W 0 (fun _ => true) true 31 v d p)
    (hsz : (DataW.weightsEach Tryz.prog ts ds).all (· ≤ reachBytes) = true) (ht : ts[j]? = some 31) (hd : ds[j]? = some d) : ∃ l : B8, IsBytes W v l := by
  obtain ⟨a0, len, cap, rfl⟩ := okWide_slice Tryz.underlying31 hval
  obtain ⟨fuel, hf⟩ := h
  exact trod_bytes (y := (d, p)) (by simpa [Value.cells] using hf) (szd_arg hsz ht hd)
end

end Go.Proofs.YtfimfbdlegookaaGreatDoor

/-! marlaw8: what comes in: operations, by their fields, read as the texts say. Conditions: what one slice may hold. -/
namespace Go.Proofs.YtfimfbdlegookaaGreatDoor
open Go Go.ChangeShapes Go.WideShapes Go.ChangeAt Go.RowKit Go.Deep
set_option linter.unusedVariables false
set_option linter.unusedSimpArgs false
set_option linter.unusedSectionVars false

section
variable {H : Type} {enc : TypeId × Value → H} {P : Program} {w : World} {base : Nat} {spare : Nat → Bool} {held : Bool}
theorem slice_parts {t e : TypeId} {fs : Array Field} {fuel : Nat} {cs : List Value} {x : DataW H × List MemPlace} (ht : P.underlying t = some (.slice e)) (he : P.underlying e = some (.struct fs))
    (h : DataW.trod enc P w base spare held fuel t cs = some x) :
    (cs = [.slice none 0 0] ∧ x = (.nil, [])) ∨
    ∃ (a : Addr) (len cap m : Nat) (D : Nat → DataW H) (Pl : Nat → List MemPlace), cs = [.slice (some a) len cap] ∧ len ≤ cap ∧ cap ≤ maxLen ∧ m = (if spare a.block then cap else len) ∧
      x = (.slice ((List.range len).map D) ((List.range (m - len)).map fun j => D (len + j)), MemPlace.row a (m * P.cellsOf e) ++ (List.range m).flatMap Pl) ∧
      ∀ i, i < m → ∃ (ys : List (DataW H × List MemPlace)) (n : Nat) (cs' : List Value), D i = .agg (ys.map (·.1)) ∧ ys.length = fs.size ∧ cs'.length = P.cellsOf e ∧ (∀ j u, cs'[j]? = some u → w.cell? (a.add (i * P.cellsOf e + j)) = some u) ∧
        ∀ (j : Nat) (f : Field), fs[j]? = some f → ∃ y, ys[j]? = some y ∧ DataW.trod enc P w base spare held n f.type ((cs'.drop f.offset).take (P.cellsOf f.type)) = some y := by
  rcases open_slice ht h with h0 | ⟨a, len, cap, m, n, D, Pl, hcs, hb, hl, hm, hmm, hx, hi⟩
  · exact .inl h0
  · refine .inr ⟨a, len, cap, m, D, Pl, hcs, hl, hm, hmm, hx, fun i him => ?_⟩
    obtain ⟨cs', hc, ht'⟩ := hi i him
    obtain ⟨ys, n', hn', hy, hlen, hyl, hf⟩ := DataW.trod_struct he ht'
    obtain ⟨_, hcl, hat⟩ := World.cells?_some hc
    simp only [Prod.mk.injEq] at hy
    refine ⟨ys, n', cs', hy.1, hyl, hlen, fun j u hu => ?_, fun j f hj => ?_⟩
    · have hjl := (List.getElem?_eq_some_iff.1 hu).1
      rw [← Go.Deep.add_add, hat j (by omega)]
      exact hu
    · have hjl : j < fs.size := (Array.getElem?_eq_some_iff.1 hj).1
      have hys : ys[j]? = some (ys[j]'(by omega)) := List.getElem?_eq_getElem (by omega)
      exact ⟨_, hys, (hf j f hj).trans hys⟩
end
theorem cells_int : Tryz.prog.cellsOf 3 = 1 := by kernel_rfl
theorem cells_str : Tryz.prog.cellsOf 9 = 1 := by kernel_rfl
theorem cells_rop : Tryz.prog.cellsOf 36 = 12 := by kernel_rfl
theorem bytes_rop : 1 ≤ Tryz.prog.bytesOf 36 := of_decide_eq_true (by kernel_rfl)
theorem list12 {α : Type} {l : List α} (h : l.length = 12) : ∃ x0 x1 x2 x3 r, l = x0 :: x1 :: x2 :: x3 :: r ∧ r.length = 8 := by
  match l, h with
  | x0 :: x1 :: x2 :: x3 :: r, h => exact ⟨x0, x1, x2, x3, r, rfl, by simpa using h⟩
theorem list8v {α : Type} {l : List α} (h : l.length = 8) : ∃ x0 x1 x2 x3 x4 x5 x6 x7, l = [x0, x1, x2, x3, x4, x5, x6, x7] := by
  match l, h with
  | [x0, x1, x2, x3, x4, x5, x6, x7], _ => exact ⟨x0, x1, x2, x3, x4, x5, x6, x7, rfl⟩

section
variable [Inhabited BaseW] {H : Type} {enc : TypeId × Value → H} {W : World}
set_option maxRecDepth 100000 in
/-- One operation of the file system, by its eight cells. -/
theorem trod_opn (hW : baseW = W) {n : Nat} {cs : List Value} {y : DataW H × List MemPlace} (h : DataW.trod enc Tryz.prog W 0 (fun _ => true) true n 34 cs = some y) (hcs : cs.length = 8) (hb : Szd 34 y.1) : ∃ o : Opn, IsOpn W cs o ∧ I64 o.keep ∧ I64 o.torn ∧ ∀ e ∈ o.plan, I64 e.keep ∧ I64 e.torn := by
  obtain ⟨ys, n', hn', hy, hlen, hyl, hf⟩ := DataW.trod_struct Tryz.underlying34 h
  obtain ⟨v0, v1, v2, v3, v4, v5, v6, v7, rfl⟩ := list8v hcs
  have hyl8 : ys.length = 8 := hyl
  obtain ⟨y0, y1, y2, y3, y4, y5, y6, y7, rfl⟩ := list8v hyl8
  have t0 : DataW.trod enc Tryz.prog W 0 (fun _ => true) true n' 3 (([v0, v1, v2, v3, v4, v5, v6, v7].drop 0).take (Tryz.prog.cellsOf 3)) = some y0 := hf 0 _ rfl
  have t1 : DataW.trod enc Tryz.prog W 0 (fun _ => true) true n' 3 (([v0, v1, v2, v3, v4, v5, v6, v7].drop 1).take (Tryz.prog.cellsOf 3)) = some y1 := hf 1 _ rfl
  have t2 : DataW.trod enc Tryz.prog W 0 (fun _ => true) true n' 3 (([v0, v1, v2, v3, v4, v5, v6, v7].drop 2).take (Tryz.prog.cellsOf 3)) = some y2 := hf 2 _ rfl
  have t3 : DataW.trod enc Tryz.prog W 0 (fun _ => true) true n' 3 (([v0, v1, v2, v3, v4, v5, v6, v7].drop 3).take (Tryz.prog.cellsOf 3)) = some y3 := hf 3 _ rfl
  have t4 : DataW.trod enc Tryz.prog W 0 (fun _ => true) true n' 9 (([v0, v1, v2, v3, v4, v5, v6, v7].drop 4).take (Tryz.prog.cellsOf 9)) = some y4 := hf 4 _ rfl
  have t5 : DataW.trod enc Tryz.prog W 0 (fun _ => true) true n' 9 (([v0, v1, v2, v3, v4, v5, v6, v7].drop 5).take (Tryz.prog.cellsOf 9)) = some y5 := hf 5 _ rfl
  have t6 : DataW.trod enc Tryz.prog W 0 (fun _ => true) true n' 31 (([v0, v1, v2, v3, v4, v5, v6, v7].drop 6).take (Tryz.prog.cellsOf 31)) = some y6 := hf 6 _ rfl
  have t7 : DataW.trod enc Tryz.prog W 0 (fun _ => true) true n' 32 (([v0, v1, v2, v3, v4, v5, v6, v7].drop 7).take (Tryz.prog.cellsOf 32)) = some y7 := hf 7 _ rfl
  have cb : Tryz.prog.cellsOf 31 = 1 := by kernel_rfl
  have ce : Tryz.prog.cellsOf 32 = 1 := by kernel_rfl
  rw [cells_int] at t0 t1 t2 t3
  rw [cells_str] at t4 t5
  rw [cb] at t6
  rw [ce] at t7
  obtain ⟨z0, rfl, i0⟩ := trod_i64 t0
  obtain ⟨z1, rfl, i1⟩ := trod_i64 t1
  obtain ⟨z2, rfl, i2⟩ := trod_i64 t2
  obtain ⟨z3, rfl, i3⟩ := trod_i64 t3
  obtain ⟨pp, rfl⟩ := trod_s8 t4
  obtain ⟨qq, rfl⟩ := trod_s8 t5
  subst hy
  have hS6 := szd_agg (j := 6) hb Tryz.underlying34 rfl rfl
  have hS7 := szd_agg (j := 7) hb Tryz.underlying34 rfl rfl
  obtain ⟨dl, hd⟩ := trod_bytes t6 hS6
  obtain ⟨es, he, hek⟩ := trod_evs hW t7 hS7
  exact ⟨⟨z0, z1, z2, z3, pp, qq, dl, es⟩, ⟨v6, v7, rfl, oldB_of (by rw [hW]; exact hd), he⟩, i2, i3, hek⟩
set_option maxRecDepth 100000 in
theorem trod_rops (hW : baseW = W) {n : Nat} {v : Value} {y : DataW H × List MemPlace} (h : DataW.trod enc Tryz.prog W 0 (fun _ => true) true n 22 [v] = some y) (hb : Szd 22 y.1) : ∃ os : List Rop, IsRops W v os ∧ ∀ o ∈ os, I64 o.f.keep ∧ I64 o.f.torn ∧ ∀ e ∈ o.f.plan, I64 e.keep ∧ I64 e.torn := by
  rcases slice_parts Tryz.underlying22 Tryz.underlying36 h with ⟨hcs, hx⟩ | ⟨a, len, cap, m, D, Pl, hcs, hl, hm, hmm, rfl, hi⟩
  · simp only [List.cons.injEq, and_true] at hcs
    subst hcs
    exact ⟨[], ⟨[], Row.nil _, fun h => (h rfl).elim, Each.nil _⟩, by simp⟩
  · simp only [List.cons.injEq, and_true] at hcs
    subst hcs
    simp only [if_true] at hmm
    subst hmm
    obtain ⟨hs1, hs2⟩ := szd_slice hb Tryz.underlying22
    have hlen := mul_ge hs1 bytes_rop
    have hr := reachBytes_lt
    simp only [List.length_map, List.length_range] at hlen
    obtain ⟨xs, h1, -, h2⟩ := readO_of (W := W) (a := a) (len := len) (p := fun c (o : Rop) => IsRop W c o ∧ I64 o.f.keep ∧ I64 o.f.torn ∧ ∀ e ∈ o.f.plan, I64 e.keep ∧ I64 e.torn) 12 (by omega) ([], ⟨0, [], [], [], ⟨0, 0, 0, 0, [], [], [], []⟩⟩) hl hm (by omega) (fun c x hx => hx.1.length) (fun i hil => by
      obtain ⟨ys, k, cs', hD, hyl, hcl, hat, hf⟩ := hi i (by omega)
      have hSi : Szd 36 (D i) := hs2 _ (List.mem_map.2 ⟨i, by simpa using hil, rfl⟩)
      rw [cells_rop] at hcl hat
      obtain ⟨x0, x1, x2, x3, fr, rfl, hfr⟩ := list12 hcl
      obtain ⟨y0, e0, t0⟩ : ∃ y, ys[0]? = some y ∧ DataW.trod enc Tryz.prog W 0 (fun _ => true) true k 3 (((x0 :: x1 :: x2 :: x3 :: fr).drop 0).take (Tryz.prog.cellsOf 3)) = some y := hf 0 _ rfl
      obtain ⟨y1, e1, t1⟩ : ∃ y, ys[1]? = some y ∧ DataW.trod enc Tryz.prog W 0 (fun _ => true) true k 9 (((x0 :: x1 :: x2 :: x3 :: fr).drop 1).take (Tryz.prog.cellsOf 9)) = some y := hf 1 _ rfl
      obtain ⟨y2, e2, t2⟩ : ∃ y, ys[2]? = some y ∧ DataW.trod enc Tryz.prog W 0 (fun _ => true) true k 9 (((x0 :: x1 :: x2 :: x3 :: fr).drop 2).take (Tryz.prog.cellsOf 9)) = some y := hf 2 _ rfl
      obtain ⟨y3, e3, t3⟩ : ∃ y, ys[3]? = some y ∧ DataW.trod enc Tryz.prog W 0 (fun _ => true) true k 9 (((x0 :: x1 :: x2 :: x3 :: fr).drop 3).take (Tryz.prog.cellsOf 9)) = some y := hf 3 _ rfl
      obtain ⟨y4, e4, t4⟩ : ∃ y, ys[4]? = some y ∧ DataW.trod enc Tryz.prog W 0 (fun _ => true) true k 34 (((x0 :: x1 :: x2 :: x3 :: fr).drop 4).take (Tryz.prog.cellsOf 34)) = some y := hf 4 _ rfl
      rw [cells_int] at t0
      rw [cells_str] at t1 t2 t3
      rw [cells_opn] at t4
      obtain ⟨z0, rfl, i0⟩ := trod_i64 t0
      obtain ⟨pp, rfl⟩ := trod_s8 t1
      obtain ⟨qq, rfl⟩ := trod_s8 t2
      obtain ⟨rr, rfl⟩ := trod_s8 t3
      rw [hD] at hSi
      have hS4 := szd_agg (j := 4) hSi Tryz.underlying36 rfl (by rw [List.getElem?_map, e4]; rfl)
      have hd4 : ((Value.int .i64 z0 :: S8 pp :: S8 qq :: S8 rr :: fr).drop 4).take 8 = fr := List.take_of_length_le (by rw [List.drop_succ_cons, List.drop_succ_cons, List.drop_succ_cons, List.drop_succ_cons, List.drop_zero]; omega)
      rw [hd4] at t4
      obtain ⟨o, hop, ho⟩ := trod_opn hW t4 hfr hS4
      exact ⟨(_, ⟨z0, pp, qq, rr, o⟩), ⟨⟨fr, rfl, hop⟩, ho⟩, fun j u hu => hat j u hu⟩)
    exact ⟨xs, h1.mono (fun c x hx => hx.1), fun e he => by obtain ⟨c, hc⟩ := h2 e he; exact hc.2⟩
set_option maxRecDepth 100000 in
/-- An argument: operations of marlaw8. -/
theorem arg_rops (hW : baseW = W) {base : Nat} {v : Value} {d : DataW H} {p : List MemPlace} {ts : List TypeId} {ds : List (DataW H)} {j : Nat}
    (hval : Value.okWide Tryz.prog W .any base 22 v) (h : DataW.Trod enc Tryz.prog W 0 (fun _ => true) true 22 v d p)
    (hsz : (DataW.weightsEach Tryz.prog ts ds).all (· ≤ reachBytes) = true) (ht : ts[j]? = some 22) (hd : ds[j]? = some d) : ∃ os : List Rop, IsRops W v os ∧ ∀ o ∈ os, I64 o.f.keep ∧ I64 o.f.torn ∧ ∀ e ∈ o.f.plan, I64 e.keep ∧ I64 e.torn := by
  obtain ⟨a0, len, cap, rfl⟩ := okWide_slice Tryz.underlying22 hval
  obtain ⟨fuel, hf⟩ := h
  exact trod_rops hW (y := (d, p)) (by simpa [Value.cells] using hf) (szd_arg hsz ht hd)
set_option maxRecDepth 100000 in
/-- An argument: events. -/
theorem arg_evs (hW : baseW = W) {base : Nat} {v : Value} {d : DataW H} {p : List MemPlace} {ts : List TypeId} {ds : List (DataW H)} {j : Nat}
    (hval : Value.okWide Tryz.prog W .any base 32 v) (h : DataW.Trod enc Tryz.prog W 0 (fun _ => true) true 32 v d p)
    (hsz : (DataW.weightsEach Tryz.prog ts ds).all (· ≤ reachBytes) = true) (ht : ts[j]? = some 32) (hd : ds[j]? = some d) : ∃ es : List Ev, ReadO W IsEvI v es ∧ ∀ e ∈ es, I64 e.keep ∧ I64 e.torn := by
  obtain ⟨a0, len, cap, rfl⟩ := okWide_slice Tryz.underlying32 hval
  obtain ⟨fuel, hf⟩ := h
  exact trod_evs hW (y := (d, p)) (by simpa [Value.cells] using hf) (szd_arg hsz ht hd)
end

end Go.Proofs.YtfimfbdlegookaaGreatDoor

/-! The roots of the primes, as a row lays them. Conditions: what the row lists. -/
namespace Go.Proofs.YtfimfbdlegookaaGreatDoor
open Go Go.ChangeShapes Go.WideShapes Go.ChangeAt Go.RowKit Go.Deep

def tabH : List Int := shaH.map fun x => (x.toNat : Int)
def tabK : List Int := shaK.map fun x => (x.toNat : Int)
theorem tab_h : Rows.laid_marline_sha_squares = (Lib.tabData .u32 tabH : DataW Unit) := by kernel_rfl
theorem tab_k : Rows.laid_marline_sha_cubes = (Lib.tabData .u32 tabK : DataW Unit) := by kernel_rfl
theorem block_of {W : World} {name : String} {zs : List Int} {g : Nat} {zero : Array Value} {t : TypeId} (hS : W.ShapedOpen Tryz.prog) (h : Lib.TabIs Tryz.prog W name .u32 zs) (hg : Tryz.prog.globalNamed name = some g) (hlt : g < Tryz.prog.globals.size)
    (h0 : ((begin Tryz.prog (fun _ _ => 0) default).world.heap[g]?).bind Obj.row? = some (zero, t)) : W.heap[g]? = some (.cells (zs.map fun z => Value.int .u32 z).toArray t (0, 0)) := by
  obtain ⟨cs, hh, -, -⟩ := hS.1 g zero t hlt h0
  unfold Lib.TabIs World.var? at h
  rw [hg] at h
  simp only [Option.bind_some, hh, Option.some.injEq] at h
  rw [hh, h]
theorem envS_of {W : World} {x : String × DataW Unit} {rest : List (String × DataW Unit)}
    (hL : laidMet Tryz.prog (x :: ("marline/sha.cubes", Rows.laid_marline_sha_cubes) :: ("marline/sha.squares", Rows.laid_marline_sha_squares) :: rest) W) (hS : W.ShapedOpen Tryz.prog) : EnvS W := by
  have hK := laidMet.tail hL
  have hH := laidMet.tail hK
  rw [tab_k] at hK
  rw [tab_h] at hH
  have tk := Lib.tabIs_of_head (g := 1) (by kernel_rfl) (by kernel_rfl) Tryz.underlying244 Tryz.underlying191 (by kernel_rfl) (by kernel_rfl) hK
  have th := Lib.tabIs_of_head (g := 0) (by kernel_rfl) (by kernel_rfl) Tryz.underlying243 Tryz.underlying191 (by kernel_rfl) (by kernel_rfl) hH
  have bk := block_of (g := 1) (zero := (List.replicate 64 (.int .u32 0)).toArray) (t := 244) hS tk (by kernel_rfl) (of_decide_eq_true (by kernel_rfl)) (by kernel_rfl)
  have bh := block_of (g := 0) (zero := (List.replicate 8 (.int .u32 0)).toArray) (t := 243) hS th (by kernel_rfl) (of_decide_eq_true (by kernel_rfl)) (by kernel_rfl)
  have ek : (tabK.map fun z => Value.int .u32 z) = shaK.map U32 := by unfold tabK; rw [List.map_map]; rfl
  have eh : (tabH.map fun z => Value.int .u32 z) = shaH.map U32 := by unfold tabH; rw [List.map_map]; rfl
  rw [ek] at bk
  rw [eh] at bh
  exact ⟨⟨_, bh⟩, ⟨_, bk⟩⟩

end Go.Proofs.YtfimfbdlegookaaGreatDoor

/-! refs.Unlock. Conditions: as each theorem states. -/
namespace Go.Proofs.YtfimfbdlegookaaGreatDoor
open Go Go.RowKit

/-- What a call asks of a file system's numbers. -/
structure Fit (m : Fs) : Prop where
  ok : OkM m
  plan : PlanOk m
  time : m.time ≤ 700000
  calls : m.calls ≤ 900000
  room0 : 0 ≤ m.room
  room1 : m.room ≤ 1073741824
theorem Good.fit {n : Nat} {m : Fs} (h : Good n m) (hn : n ≤ 1000) : Fit m := ⟨h.ok, h.plan, by have := h.time; omega, by have := h.calls; omega, h.room0, h.room1⟩
/-- .. behind each of some removals. -/
def FitAll : Fs → List B8 → Prop
  | m, [] => Fit m
  | m, n :: l => Fit m ∧ FitAll (removeM m (lockP n)).1 l
theorem FitAll.head {m : Fs} {l : List B8} (h : FitAll m l) : Fit m := by
  cases l with
  | nil => exact h
  | cons x l => exact h.1
theorem fitAll_good : ∀ {l : List B8} {n : Nat} {m : Fs}, Good n m → n + l.length ≤ 1000 → FitAll m l
  | [], _, _, h, hn => h.fit (by simpa using hn)
  | x :: l, _, _, h, hn => ⟨h.fit (by simp at hn; omega), fitAll_good (good_remove h (lockP x)) (by simp at hn; omega)⟩

/-- A file system behind some steps of a walk: which blocks are its own is kept apart. -/
structure Thru (S O R : Nat → Prop) (w : World) (p : Value) (m : Fs) (O1 R1 : Nat → Prop) (w1 : World) : Prop where
  fin : FsIn S O1 R1 w1 p m
  fr : Fr O w w1
  sub : ∀ k, O1 k → Nw O w w1 k
  subR : ∀ k, R1 k → Nw R w w1 k
section
variable {S O R O1 R1 : Nat → Prop} {w w1 w2 : World} {p : Value} {m m' : Fs}
theorem Thru.start (h : FsIn S O R w p m) : Thru S O R w p m O R w := ⟨h, Fr.refl _ _, fun _ hk => .inl hk, fun _ hk => .inl hk⟩
theorem Thru.more (h : Thru S O R w p m O1 R1 w1) (hx : Ext w1 w2) : Thru S O R w p m O1 R1 w2 := by
  have hs := hx.size
  have hf := h.fin
  exact ⟨⟨hf.env.ext hx, hf.fs.ext hx, hf.ok, hf.plan, hf.time, hf.calls, hf.noG, fun k hk => ⟨(hf.apart k hk).1, by have := (hf.apart k hk).2; omega⟩, fun k hk => by have := hf.low k hk; omega, hf.room0, hf.room1⟩,
    h.fr.trans (Fr.of_ext hx), fun k hk => (h.sub k hk).fst hs, fun k hk => (h.subR k hk).fst hs⟩
theorem Thru.post (h : Thru S O R w p m O1 R1 w1) (hp : FsPost S O1 R1 w1 p m' w2) (hf : Fit m') : Thru S O R w p m' (Nw O1 w1 w2) (Nw R1 w1 w2) w2 := by
  have hs := hp.fr.size
  have hs0 := h.fr.size
  have hi := h.fin
  refine ⟨⟨hi.env.fr hp.fr hi.noG, hp.fs, hf.ok, hf.plan, hf.time, hf.calls, ?_, ?_, ?_, hf.room0, hf.room1⟩, h.fr.trans (hp.fr.mono h.sub), ?_, ?_⟩
  · intro k hk e
    rcases hk with hk | hk
    · exact hi.noG k hk e
    · have := env_lt' hi.env; omega
  · intro k hk
    refine ⟨fun ho => ?_, by have := (hi.apart k hk).2; omega⟩
    rcases ho with ho | ho
    · exact (hi.apart k hk).1 ho
    · have := (hi.apart k hk).2; omega
  · intro k hk
    rcases hk with hk | hk
    · have := hi.low k hk; omega
    · exact hk.2
  · intro k hk
    exact Nw.nw hs0 hs (hk.imp (h.sub k) id)
  · intro k hk
    exact Nw.nw hs0 hs (hk.imp (h.subR k) id)
theorem Thru.out (h : Thru S O R w p m O1 R1 w1) : FsPost S O R w p m w1 := ⟨h.fin.fs.mono h.sub h.subR, h.fr⟩
/-- Texts of the call's own, apart from a file system's blocks. -/
structure RowOut (O : Nat → Prop) (w : World) (v : Value) (ss : List B8) : Prop where
  row : IsStrs w v ss
  out : ∀ k, v.ownBlock = some k → ¬ O k ∧ k < w.heap.size
theorem RowOut.post {v : Value} {ss : List B8} (h : RowOut O1 w1 v ss) (hf : Fr O1 w1 w2) : RowOut (Nw O1 w1 w2) w2 v ss := by
  have hs := hf.size
  refine ⟨Row.stay h.row (fun k hk => hf.block k (h.out k hk).2 (.inl (h.out k hk).1)), fun k hk => ⟨fun ho => ?_, by have := (h.out k hk).2; omega⟩⟩
  rcases ho with ho | ho
  · exact (h.out k hk).1 ho
  · have := (h.out k hk).2; omega
end

set_option maxRecDepth 100000 in
set_option maxHeartbeats 4000000 in
theorem unlock_any {S O R : Nat → Prop} {w : World} {p : Value} {m : Fs} (h : FsIn S O R w p m) (hf : Fit (listM m lockD).1) (hd : (listM m lockD).2.2 = 0 → FitAll (listM m lockD).1 (lastL (listM m lockD).2.1 lockD)) :
    Calls Tryz.prog 19 #[p] w fun e w' => e = .returned (.tuple #[.int .i64 (unlockM m).2.1, .int .i64 (unlockM m).2.2]) ∧ FsPost S O R w p (unlockM m).1 w' := by
  have HS : Hid _ := list_short (dir := lockD) h.ok h.plan
  have HL : Hid _ := list_len (dir := lockD) h.ok h.plan h.time
  have HR : Hid _ := list_any lockD h (by decide)
  have HT0 : Hid _ := Thru.start h
  obtain ⟨U, hU⟩ : ∃ U, unlockM m = U := ⟨_, rfl⟩
  have hU2 := hU
  rw [hU]
  unfold unlockM at hU2
  have HF : Hid _ := hf
  have HD : Hid _ := hd
  obtain ⟨⟨m1, ls, er⟩, hrd⟩ : ∃ q, listM m lockD = q := ⟨_, rfl⟩
  rw [hrd] at HR HS HL hU2 HF HD
  have HU : Hid _ := hU2
  clear hrd h hU hU2 hf hd
  go_enter Tryz.func19, Tryz.ntmps19
  go_wp2_with fail
  go_at_call 70
  refine Calls.mono HR.out ?_
  rintro e w1 ⟨⟨v, rfl, hv, -⟩, hp1⟩
  have hls : ls.length ≤ 701000 := HL.out
  have hv' : IsStrs w1 v ls := hv
  have HV : Hid _ := hv'
  have HT1 : Hid (Thru S O R w p m1 (Nw O w w1) (Nw R w w1) w1) := Thru.post HT0.out hp1 HF.out
  clear hv hv' hp1 HR HT0
  by_cases h0 : er = 0
  case neg =>
    have b1 : (er != 0) = true := by simpa using h0
    have HU2 : Hid ((m1, (0 : Int), er) = U) := by
      have h9 := HU.out
      rw [if_pos h0] at h9
      exact h9
    clear h0 HU
    go_wp2
    go_ret2
    rw [← HU2.out]
    exact ⟨rfl, HT1.out.out⟩
  subst h0
  have HU2 : Hid ((if (dropsM m1 (lastL ls lockD)).2 ≠ 0 then ((dropsM m1 (lastL ls lockD)).1, (0 : Int), (dropsM m1 (lastL ls lockD)).2) else ((dropsM m1 (lastL ls lockD)).1, ((lastL ls lockD).length : Int), 0)) = U) := by
    have h9 := HU.out
    rw [if_neg (by simp)] at h9
    exact h9
  have HD1 : Hid (FitAll m1 (lastL ls lockD)) := HD.out rfl
  clear HU HD
  go_wp2_with fail
  go_at_call 71
  refine (last_any lockD HV.out (fun s hs => Nat.le_trans (HS.out s hs) (by omega)) (by decide) (by omega)).mono ?_
  rintro e w2 ⟨⟨v2, rfl, ho⟩, hx2⟩
  have hll := last_len ls lockD
  have hsh : ∀ n ∈ lastL ls lockD, nameB n = true := fun n hn => (List.mem_filter.1 hn).2
  obtain ⟨L, hL⟩ : ∃ L, lastL ls lockD = L := ⟨_, rfl⟩
  rw [hL] at ho hll HU2 HD1 hsh
  have HSH : Hid _ := hsh
  have hLn : L.length ≤ 701000 := by omega
  have HT2 : Hid (Thru S O R w p m1 (Nw O w w1) (Nw R w w1) w2) := Thru.more HT1.out hx2
  have hr2 : IsStrs w2 v2 L := Row.of_owns ho (by omega)
  have HR2 : Hid (RowOut (Nw O w w1) w2 v2 L) := by
    refine ⟨hr2, fun k hk => ?_⟩
    have h1 := ho.lt k hk
    refine ⟨fun hno => ?_, h1.2⟩
    have := HT1.out.fin.low k hno
    omega
  obtain ⟨sa, sc, rfl, -⟩ := hr2.get
  clear ho hx2 hr2 hL HV HS HL hls hll HT1 hsh
  go_wp2_with fail
  go_loopw [21] (fun i wr => ∃ (k : Nat) (mk : Fs) (Ok Rk : Nat → Prop), k ≤ L.length ∧ i = .int .i64 k ∧ Hid (dropsM m1 L = dropsM mk (L.drop k)) ∧ Hid (FitAll mk (L.drop k)) ∧ Thru S O R w p mk Ok Rk wr ∧ RowOut Ok wr (.slice sa L.length sc) L) (fun i _ => L.length - (intOf i).toNat)
  case atStart => exact ⟨0, m1, _, _, Nat.zero_le _, rfl, rfl, HD1.out, HT2.out, HR2.out⟩
  case round =>
    obtain ⟨k, mk, Ok, Rk, hk, rfl, HDR, HFA, hth, hro⟩ := hrel
    have HTH : Hid (Thru S O R w p mk Ok Rk wr) := hth
    have HRO : Hid (RowOut Ok wr (.slice sa L.length sc) L) := hro
    clear hth hro
    by_cases hlt : k < L.length
    · obtain ⟨s, hse⟩ : ∃ s, L[k]? = some s := ⟨_, List.getElem?_eq_getElem hlt⟩
      obtain ⟨_, _, he, -, -, -, hg⟩ := HRO.out.row.get
      cases he
      obtain ⟨bb, oo, rfl, hc⟩ := hg k hlt
      have y1 := hc k hlt
      rw [show L.getD k [] = s by rw [List.getD_eq_getElem?_getD, hse]; rfl] at y1
      have hsn := HSH.out s (List.mem_of_getElem? hse)
      have hsl := lock_len hsn
      have hs64 := hsl.2.2
      have hdk : L.drop k = s :: L.drop (k + 1) := by
        rw [List.drop_eq_getElem_cons hlt]
        congr 1
        exact (List.getElem?_eq_some_iff.1 hse).2
      have HDR2 : Hid (dropsM m1 L = if (removeM mk (lockP s)).2 ≠ 0 then removeM mk (lockP s) else dropsM (removeM mk (lockP s)).1 (L.drop (k + 1))) := by
        unfold Hid
        rw [HDR.out, hdk]
        rfl
      have HFA2 : Hid (FitAll (removeM mk (lockP s)).1 (L.drop (k + 1))) := by
        have h9 := HFA.out
        rw [hdk] at h9
        exact h9.2
      have HRM : Hid _ := remove_any (lockP s) HTH.out.fin hsl.1
      obtain ⟨⟨m2, e2⟩, hrd⟩ : ∃ q, removeM mk (lockP s) = q := ⟨_, rfl⟩
      rw [hrd] at HDR2 HFA2 HRM
      clear hse hg hc hsn hsl hdk HDR HFA hrd
      go_wp2_with fail
      go_at_call 63
      refine Calls.mono HRM.out ?_
      rintro e w4 ⟨rfl, h4⟩
      have HT4 : Hid _ := Thru.post HTH.out h4 HFA2.out.head
      have HR4 : Hid _ := HRO.out.post h4.fr
      clear h4 HRM
      try dsimp only
      by_cases h0 : e2 = 0
      case neg =>
        have b1 : (e2 != 0) = true := by simpa using h0
        have HU3 : Hid ((m2, (0 : Int), e2) = U) := by
          have h9 := HU2.out
          have h8 := HDR2.out
          rw [if_pos h0] at h8
          rw [h8] at h9
          rw [if_pos h0] at h9
          exact h9
        clear h0
        go_wp2
        go_ret2
        rw [← HU3.out]
        exact ⟨rfl, HT4.out.out⟩
      subst h0
      have HDR3 : Hid (dropsM m1 L = dropsM m2 (L.drop (k + 1))) := by
        have h8 := HDR2.out
        rw [if_neg (by simp)] at h8
        exact h8
      go_wp2
      go_roundw
      case rel => exact ⟨k + 1, m2, _, _, by omega, by go_num, HDR3.out, HFA2.out, HT4.out, HR4.out⟩
      case measure => simp [intOf]; omega
    · have hkk : k = L.length := by omega
      subst hkk
      have HU3 : Hid ((mk, (L.length : Int), (0 : Int)) = U) := by
        have h9 := HU2.out
        have h8 := HDR.out
        rw [List.drop_length] at h8
        rw [h8] at h9
        exact h9
      go_wp2
      go_ret2
      rw [← HU3.out]
      exact ⟨rfl, HTH.out.out⟩

end Go.Proofs.YtfimfbdlegookaaGreatDoor

/-! Refs of unlike names, in plain Lean: each stands for itself; a lock that stands keeps its own name alone. Conditions: as each theorem states. -/
namespace Go.Proofs.YtfimfbdlegookaaGreatDoor
open Go Go.RowKit

/-! ### Names and places -/
theorem name_no47 {k : B8} (h : nameB k = true) : (47 : UInt8) ∉ k := by
  intro hm
  unfold nameB at h
  simp only [Bool.and_eq_true, Bool.not_eq_true', List.any_eq_false] at h
  exact absurd (show badC 47 = true by decide) (by simpa using h.1 _ hm)
theorem place_inj {a b : B8} (h : placeP a = placeP b) : a = b := List.append_cancel_left h
theorem lock_inj {a b : B8} (h : lockP a = lockP b) : a = b := List.append_cancel_left h
theorem place_lock {a b : B8} : placeP a ≠ lockP b := fun h => by
  unfold placeP lockP at h
  simp at h
theorem under_name {d k : B8} {pre : B8} (hk : nameB k = true) (h : isUnder (pre ++ d) (pre ++ k) = true) : False := by
  obtain ⟨r, hr⟩ := (under_iff _ _).1 h
  rw [List.append_assoc] at hr
  have h9 := List.append_cancel_left hr
  exact name_no47 hk (by rw [h9]; simp)
theorem under_lp {a b : B8} : isUnder (lockP a) (placeP b) = false := by
  unfold isUnder lockP placeP
  simp [List.isPrefixOf]
theorem under_pl {a b : B8} : isUnder (placeP a) (lockP b) = false := by
  unfold isUnder lockP placeP
  simp [List.isPrefixOf]
theorem under_pp {a b : B8} (hb : nameB b = true) : isUnder (placeP a) (placeP b) = false := by
  cases h : isUnder (placeP a) (placeP b) with
  | false => rfl
  | true => exact (under_name hb h).elim
theorem under_ll {a b : B8} (hb : nameB b = true) : isUnder (lockP a) (lockP b) = false := by
  cases h : isUnder (lockP a) (lockP b) with
  | false => rfl
  | true => exact (under_name hb h).elim
theorem name_len {k : B8} (h : nameB k = true) : k.length ≤ 64 := by
  unfold nameB at h
  simp only [Bool.and_eq_true, decide_eq_true_eq] at h
  exact h.2.2.1
theorem path_name {k : B8} (hk : nameB k = true) : pathB (lockP k) = true ∧ pathB (placeP k) = true := by
  have hl := name_len hk
  have hc : cut 47 k = [k] := by
    have : ∀ l : B8, (47 : UInt8) ∉ l → cut 47 l = [l] := by
      intro l
      induction l with
      | nil => intro _; rfl
      | cons x l ih =>
        intro h
        have hx : (x == 47) = false := by
          refine beq_eq_false_iff_ne.2 (fun e => h ?_)
          rw [e]; simp
        rw [cut, if_neg (by rw [hx]; simp), ih (fun hm => h (by simp [hm]))]
    exact this k (name_no47 hk)
  have h1 : nameB [115] = true := by decide
  have h2 : nameB [108] = true := by decide
  have h3 : nameB [114] = true := by decide
  constructor
  · unfold pathB lockP
    have e : cut 47 ([115, 47, 108, 47] ++ k) = [115] :: [108] :: cut 47 k := by
      show cut 47 ([115] ++ 47 :: ([108] ++ 47 :: k)) = _
      rw [cut_append, cut_append]; rfl
    rw [e, hc]
    simp [h1, h2, hk]
    omega
  · unfold pathB placeP
    have e : cut 47 ([115, 47, 114, 47] ++ k) = [115] :: [114] :: cut 47 k := by
      show cut 47 ([115] ++ 47 :: ([114] ++ 47 :: k)) = _
      rw [cut_append, cut_append]; rfl
    rw [e, hc]
    simp [h1, h3, hk]
    omega

/-! ### Finds -/
theorem usedF_del_le (l : Files) (p : B8) : usedF (delF l p) ≤ usedF l := by
  induction l with
  | nil => exact Nat.le_refl _
  | cons x l ih =>
    unfold delF usedF at *
    rw [List.filter_cons]
    split
    · simp only [List.map_cons, List.sum_cons]; omega
    · simp only [List.map_cons, List.sum_cons]; omega
theorem usedF_put_le (l : Files) (p : B8) (f : Fi) : usedF (putF l p f) ≤ usedF l + f.data.length := by
  unfold putF
  rw [usedF_ins]
  have := usedF_del_le l p
  show f.data.length + _ ≤ _
  omega
theorem look_none_iff {l : Files} {p : B8} : look l p = none ↔ ∀ e ∈ l, e.1 ≠ p := by
  constructor
  · intro h e he hp
    have h9 : (look l p).isSome = true := look_some.2 ⟨e, he, hp⟩
    rw [h] at h9
    cases h9
  · intro h
    cases hq : look l p with
    | none => rfl
    | some x =>
      obtain ⟨e, he, hp⟩ := look_some.1 (show (look l p).isSome = true by rw [hq]; rfl)
      exact (h e he hp).elim
theorem delF_free {l : Files} {p : B8} (h : look l p = none) : delF l p = l := delF_none (look_none_iff.1 h)
theorem delF_put (l : Files) (p : B8) (f : Fi) : delF (putF l p f) p = delF l p := by
  have h : ∀ r : Files, (∀ e ∈ r, e.1 ≠ p) → delF (insF (p, f) r) p = r := by
    intro r
    induction r with
    | nil => intro _; simp [insF, delF]
    | cons y r ih =>
      intro hr
      have hy : (y.1 == p) = false := by simpa using hr y (by simp)
      have hr' := delF_none (l := r) (p := p) (fun e he => hr e (by simp [he]))
      unfold insF
      split
      · unfold delF at hr' ⊢
        simp [hy, hr']
      · have := ih (fun e he => hr e (by simp [he]))
        unfold delF at this ⊢
        rw [List.filter_cons, hy]
        simp only [Bool.not_false, if_true]
        rw [this]
  exact h _ (fun e he => (mem_del.1 he).2)
theorem paths_ins (q : B8 → Bool) (x : B8 × Fi) (h : q x.1 = false) : ∀ l : Files, (pathsL (insF x l)).filter q = (pathsL l).filter q
  | [] => by simp [insF, pathsL, h]
  | y :: r => by
    unfold insF
    split
    · simp [pathsL, h]
    · have := paths_ins q x h r
      unfold pathsL at this ⊢
      simp only [List.map_cons, List.filter_cons, this]
theorem paths_del (q : B8 → Bool) (p : B8) (h : q p = false) (l : Files) : (pathsL (delF l p)).filter q = (pathsL l).filter q := by
  induction l with
  | nil => rfl
  | cons y r ih =>
    unfold pathsL delF at *
    rw [List.filter_cons]
    by_cases hy : y.1 = p
    · simp [hy, h, ih]
    · simp [hy, List.filter_cons, ih]
theorem paths_put (q : B8 → Bool) (p : B8) (f : Fi) (h : q p = false) (l : Files) : (pathsL (putF l p f)).filter q = (pathsL l).filter q := by
  unfold putF
  rw [paths_ins q (p, f) h, paths_del q p h]

/-! ### Refs, and a lock -/
def updH (hv : B8 → Option B8) (k v : B8) : B8 → Option B8 := fun x => if x = k then some v else hv x
/-- .. in the files. -/
structure ApF (F : Files) (lk : Option B8) (hv : B8 → Option B8) (n : Nat) : Prop where
  used : usedF F ≤ 100 * n
  name : ∀ k v, hv k = some v → nameB k = true ∧ validB v = true
  lock : ∀ l, lk = some l → pathB (lockP l) = true ∧ (look F (lockP l)).isSome = true
  refs : ∀ k v, hv k = some v → ∃ t, look F (placeP k) = some ⟨1, lineM v, t⟩
  all : ∀ e ∈ F, (∃ k v, hv k = some v ∧ e.1 = placeP k) ∨ ∃ l, lk = some l ∧ e.1 = lockP l
  locks : (pathsL F).filter (isUnder lockD) = lk.toList.map lockP
structure Ap (m : Fs) (lk : Option B8) (hv : B8 → Option B8) (n : Nat) : Prop where
  plan : m.plan = []
  down : m.down = false
  room : 100000 ≤ m.room
  f : ApF m.now lk hv n
variable {m : Fs} {F : Files} {lk : Option B8} {hv : B8 → Option B8} {n : Nat}
theorem Ap.calls (h : Ap m lk hv n) (c : Nat) : Ap { m with calls := c } lk hv n := ⟨h.plan, h.down, h.room, h.f⟩
theorem ApF.noref (h : ApF F lk hv n) {k : B8} (hk : hv k = none) : look F (placeP k) = none := by
  refine look_none_iff.2 fun e he hp => ?_
  rcases h.all e he with ⟨k', v, h1, h2⟩ | ⟨l, -, h2⟩
  · have : k' = k := place_inj (h2.symm.trans hp)
    rw [this, hk] at h1; cases h1
  · exact place_lock (hp.symm.trans h2)
theorem ApF.nolock (h : ApF F lk hv n) {k : B8} (hk : lk ≠ some k) : look F (lockP k) = none := by
  refine look_none_iff.2 fun e he hp => ?_
  rcases h.all e he with ⟨k', v, h1, h2⟩ | ⟨l, h1, h2⟩
  · exact place_lock (h2.symm.trans hp)
  · have : l = k := lock_inj (h2.symm.trans hp)
    rw [this] at h1; exact hk h1
theorem ApF.may (h : ApF F lk hv n) {k : B8} (hk : nameB k = true) (hf : ∀ l, lk = some l → isUnder (lockP k) (lockP l) = false) (but : B8) : mayF F (lockP k) but = true := by
  unfold mayF
  rw [Bool.not_eq_true', List.any_eq_false]
  intro e he
  have : isUnder e.1 (lockP k) = false ∧ isUnder (lockP k) e.1 = false := by
    rcases h.all e he with ⟨k', v, h1, h2⟩ | ⟨l, h1, h2⟩
    · rw [h2]; exact ⟨under_pl, under_lp⟩
    · rw [h2]; exact ⟨under_ll hk, hf l h1⟩
  simp [this.1, this.2]
theorem ApF.mayP (h : ApF F lk hv n) {k : B8} (hk : nameB k = true) (but : B8) : mayF F (placeP k) but = true := by
  unfold mayF
  rw [Bool.not_eq_true', List.any_eq_false]
  intro e he
  have : isUnder e.1 (placeP k) = false ∧ isUnder (placeP k) e.1 = false := by
    rcases h.all e he with ⟨k', v, h1, h2⟩ | ⟨l, h1, h2⟩
    · rw [h2]; exact ⟨under_pp hk, under_pp (h.name _ _ h1).1⟩
    · rw [h2]; exact ⟨under_lp, under_pl⟩
  simp [this.1, this.2]
theorem ApF.mono (h : ApF F lk hv n) {k : Nat} (hk : n ≤ k) : ApF F lk hv k := ⟨by have := h.used; omega, h.name, h.lock, h.refs, h.all, h.locks⟩
theorem apF_set (h : ApF F lk hv n) {k v : B8} (hk : nameB k = true) (hb : validB v = true) (t1 : Int) : ApF (putF F (placeP k) ⟨1, lineM v, t1⟩) lk (updH hv k v) (n + 1) := by
  refine ⟨?_, ?_, ?_, ?_, ?_, ?_⟩
  · have h1 := usedF_put_le F (placeP k) ⟨1, lineM v, t1⟩
    have h2 := h.used
    have h3 : (lineM v).length = 65 := line_len hb
    simp only [h3] at h1
    omega
  · intro k' v' e
    unfold updH at e
    by_cases hkk : k' = k
    · rw [if_pos hkk] at e
      cases e
      rw [hkk]
      exact ⟨hk, hb⟩
    · rw [if_neg hkk] at e
      exact h.name _ _ e
  · intro l e
    refine ⟨(h.lock l e).1, ?_⟩
    rw [look_putF_ne place_lock]
    exact (h.lock l e).2
  · intro k' v' e
    unfold updH at e
    by_cases hkk : k' = k
    · rw [if_pos hkk] at e
      cases e
      rw [hkk, look_putF_same]
      exact ⟨t1, rfl⟩
    · rw [if_neg hkk] at e
      rw [look_putF_ne (fun h => hkk (place_inj h).symm)]
      exact h.refs _ _ e
  · intro e he
    rcases mem_put.1 he with rfl | ⟨he, -⟩
    · exact .inl ⟨k, v, by unfold updH; simp, rfl⟩
    · rcases h.all e he with ⟨k', v', h1, h2⟩ | h1
      · by_cases hkk : k' = k
        · exact .inl ⟨k', v, by unfold updH; simp [hkk], h2⟩
        · exact .inl ⟨k', v', by unfold updH; simp [hkk, h1], h2⟩
      · exact .inr h1
  · rw [paths_put _ _ _ (by rfl)]
    exact h.locks
theorem wrong_lockP {k v : B8} (hk : nameB k = true) (hv : validB v = true) : wrongE (lockP k) 1 (lineM v) = 0 := by
  unfold wrongE
  rw [(path_name hk).1, line_len hv]
  rfl
/-- The lock is laid. -/
theorem ap_create (h : Ap m lk hv n) (hn : n ≤ 200) {k v : B8} (hk : nameB k = true) (hb : validB v = true) (hf : ∀ l, lk = some l → l ≠ k ∧ isUnder (lockP k) (lockP l) = false) :
    createM m (lockP k) 1 (lineM v) = (does { m with calls := m.calls + 1 } (.put (lockP k) ⟨1, lineM v, 0⟩), 0) := by
  have hl : look m.now (lockP k) = none := h.f.nolock (fun e => (hf k e).1 rfl)
  have hfit : fitsM { m with calls := m.calls + 1 } (lockP k) (lineM v).length = true := by
    unfold fitsM
    rw [line_len hb]
    show decide (((65 : Nat) : Int) ≤ m.room - (usedF m.now : Int) + (oldLen m.now (lockP k) : Int)) = true
    have h1 := h.room
    have h2 := h.f.used
    exact decide_eq_true (by omega)
  unfold createM putM
  rw [call_calm h.plan h.down]
  simp only [ne_eq, not_true_eq_false, if_false, wrong_lockP hk hb, Bool.not_false, Bool.true_and]
  rw [if_neg (by rw [hl]; simp), hfit]
  unfold putsM
  rw [if_neg (by show ¬ ((look m.now (lockP k)).isNone = true ∧ mayF m.now (lockP k) [] = false); rw [h.f.may hk (fun l e => (hf l e).2)]; simp), if_neg (by simp)]
/-- .. or not: another one stands in the way. -/
theorem ap_create_no (h : Ap m lk hv n) {k v l : B8} (hk : nameB k = true) (hb : validB v = true) (hlk : lk = some l) (hc : l = k ∨ isUnder (lockP k) (lockP l) = true) :
    (createM m (lockP k) 1 (lineM v)).1 = { m with calls := m.calls + 1 } ∧ (createM m (lockP k) 1 (lineM v)).2 ≠ 0 ∧ (if (createM m (lockP k) 1 (lineM v)).2 = 8 then (13 : Int) else (createM m (lockP k) 1 (lineM v)).2) ≠ 0 := by
  unfold createM putM
  rw [call_calm h.plan h.down]
  simp only [ne_eq, not_true_eq_false, if_false, wrong_lockP hk hb, Bool.not_false, Bool.true_and]
  by_cases hs : (look m.now (lockP k)).isSome = true
  · rw [if_pos ⟨trivial, hs⟩]
    exact ⟨rfl, by simp, by simp⟩
  · rw [if_neg (fun h => hs h.2)]
    have hun : isUnder (lockP k) (lockP l) = true := by
      rcases hc with rfl | hc
      · exact (hs (h.f.lock _ hlk).2).elim
      · exact hc
    have hmay : mayF m.now (lockP k) [] = false := by
      obtain ⟨e, he, hp⟩ := look_some.1 (h.f.lock _ hlk).2
      unfold mayF
      rw [Bool.not_eq_false', List.any_eq_true]
      refine ⟨e, he, ?_⟩
      rw [hp]
      have : (lockP l == ([] : B8)) = false := rfl
      simp [this, hun]
    have hno : (look m.now (lockP k)).isNone = true := by
      cases hq : look m.now (lockP k) with
      | none => rfl
      | some x => rw [hq] at hs; simp at hs
    unfold putsM
    rw [if_pos ⟨hno, hmay⟩]
    exact ⟨rfl, by simp, by simp⟩
theorem no_range {next old : B8} (hb : validB next = true) (ho : old = [] ∨ validB old = true) : ¬ (validB next = false ∨ (old ≠ [] ∧ validB old = false)) := by
  rintro (e | ⟨e1, e2⟩)
  · rw [hb] at e; cases e
  · rcases ho with ho | ho
    · exact e1 ho
    · rw [ho] at e2; cases e2
/-- Whoever is not let in: nothing is changed. -/
theorem ap_locked (h : Ap m lk hv n) {k v l old : B8} (hk : nameB k = true) (hb : validB v = true) (hlk : lk = some l) (hc : l = k ∨ isUnder (lockP k) (lockP l) = true) (ho : old = [] ∨ validB old = true) :
    (setM m k old v).2 ≠ 0 ∧ Ap (setM m k old v).1 lk hv n := by
  obtain ⟨h1, h2, h3⟩ := ap_create_no (v := v) h hk hb hlk hc
  unfold setM
  rw [if_neg (by rw [hk]; simp), if_neg (no_range hb ho), if_pos h2]
  exact ⟨h3, by dsimp only; rw [h1]; exact h.calls _⟩
theorem look_lock_put {l : Files} {k p : B8} {f : Fi} : look (putF l (lockP k) f) (placeP p) = look l (placeP p) := look_putF_ne (fun e => place_lock e.symm)
theorem ap_read (h : Ap m lk hv n) {k : B8} (hk : nameB k = true) :
    (readM m (placeP k)).1 = { m with calls := m.calls + 1 } ∧ ((hv k = none ∧ (readM m (placeP k)).2 = (zeroFi, 7)) ∨ ∃ v, hv k = some v ∧ ∃ t, (readM m (placeP k)).2 = (⟨1, lineM v, t⟩, 0)) := by
  unfold readM
  rw [call_calm h.plan h.down]
  simp only [ne_eq, not_true_eq_false, if_false, (path_name hk).2, Bool.true_eq_false]
  cases hk' : hv k with
  | none => rw [h.f.noref hk']; exact ⟨rfl, .inl ⟨rfl, rfl⟩⟩
  | some v =>
    obtain ⟨t, ht⟩ := h.f.refs k v hk'
    rw [ht]
    exact ⟨rfl, .inr ⟨v, rfl, t, rfl⟩⟩
/-- A ref is set from what it is. -/
theorem ap_set (h : Ap m lk hv n) (hn : n ≤ 200) {k v : B8} (hk : nameB k = true) (hb : validB v = true) (hf : ∀ l, lk = some l → l ≠ k ∧ isUnder (lockP k) (lockP l) = false) :
    (setM m k ((hv k).getD []) v).2 = 0 ∧ Ap (setM m k ((hv k).getD []) v).1 lk (updH hv k v) (n + 1) ∧ (setM m k ((hv k).getD []) v).1.pend = [] ∧ (setM m k ((hv k).getD []) v).1.sure = (setM m k ((hv k).getD []) v).1.now := by
  have hold : (hv k).getD [] = [] ∨ validB ((hv k).getD []) = true := by
    cases hq : hv k with
    | none => exact .inl rfl
    | some x => exact .inr (h.f.name _ _ hq).2
  have hlk0 : look m.now (lockP k) = none := h.f.nolock (fun e => (hf k e).1 rfl)
  obtain ⟨t1, ht1⟩ : ∃ t : Int, ((m.time + 1 : Nat) : Int) = t := ⟨_, rfl⟩
  have hnow : (does { m with calls := m.calls + 1 } (.put (lockP k) ⟨1, lineM v, 0⟩)).now = putF m.now (lockP k) ⟨1, lineM v, t1⟩ := by rw [← ht1]; rfl
  have hc := ap_create h hn hk hb hf
  have hdp : (does { m with calls := m.calls + 1 } (.put (lockP k) ⟨1, lineM v, 0⟩)).plan = [] := h.plan
  have hdd : (does { m with calls := m.calls + 1 } (.put (lockP k) ⟨1, lineM v, 0⟩)).down = false := h.down
  have hdr : (does { m with calls := m.calls + 1 } (.put (lockP k) ⟨1, lineM v, 0⟩)).room = m.room := rfl
  generalize does { m with calls := m.calls + 1 } (.put (lockP k) ⟨1, lineM v, 0⟩) = m1 at *
  -- the read
  have hexp : expectM m1 k ((hv k).getD []) = ({ m1 with calls := m1.calls + 1 }, 0) := by
    unfold expectM expectE readM
    rw [call_calm hdp hdd]
    simp only [ne_eq, not_true_eq_false, if_false, (path_name hk).2, Bool.true_eq_false]
    rw [hnow, look_lock_put]
    cases hq : hv k with
    | none => rw [h.f.noref hq]; rfl
    | some x =>
      obtain ⟨t, ht⟩ := h.f.refs k x hq
      rw [ht]
      have hx := valid_ne (h.f.name _ _ hq).2
      simp [hx]
  have hs1 : syncM { m1 with calls := m1.calls + 1 } = (settle { m1 with calls := m1.calls + 2 }, 0) := sync_plain (m := { m1 with calls := m1.calls + 1 }) hdp hdd
  obtain ⟨m2, hm2⟩ : ∃ m2, settle { m1 with calls := m1.calls + 2 } = m2 := ⟨_, rfl⟩
  have h2now : m2.now = putF m.now (lockP k) ⟨1, lineM v, t1⟩ := by rw [← hm2]; exact hnow
  have h2p : m2.plan = [] := by rw [← hm2]; exact hdp
  have h2d : m2.down = false := by rw [← hm2]; exact hdd
  have h2r : m2.room = m.room := by rw [← hm2]; exact hdr
  rw [hm2] at hs1
  clear hm2
  have hmv : moveM m2 (lockP k) (placeP k) false = (does { m2 with calls := m2.calls + 1 } (.mv (lockP k) (placeP k)), 0) := by
    unfold moveM mvM
    rw [call_calm h2p h2d]
    simp only [ne_eq, not_true_eq_false, if_false, (path_name hk).1, (path_name hk).2, Bool.true_eq_false, or_self]
    rw [h2now, look_putF_same, if_neg (by simp), if_neg (by simp), if_neg (fun e => place_lock e.symm), if_neg ?_]
    rintro ⟨-, hmay⟩
    have : mayF (putF m.now (lockP k) ⟨1, lineM v, t1⟩) (placeP k) (lockP k) = true := by
      unfold mayF
      rw [Bool.not_eq_true', List.any_eq_false]
      intro e he
      rcases mem_put.1 he with rfl | ⟨he, -⟩
      · simp
      · have : isUnder e.1 (placeP k) = false ∧ isUnder (placeP k) e.1 = false := by
          rcases h.f.all e he with ⟨k', v, h1, h2⟩ | ⟨l, h1, h2⟩
          · rw [h2]; exact ⟨under_pp hk, under_pp (h.f.name _ _ h1).1⟩
          · rw [h2]; exact ⟨under_lp, under_pl⟩
        simp [this.1, this.2]
    rw [this] at hmay
    cases hmay
  have h3now : (does { m2 with calls := m2.calls + 1 } (.mv (lockP k) (placeP k))).now = putF m.now (placeP k) ⟨1, lineM v, t1⟩ := by
    show (match look m2.now (lockP k) with | some x => putF (delF m2.now (lockP k)) (placeP k) x | none => m2.now) = _
    rw [h2now, look_putF_same, delF_put, delF_free hlk0]
  have h3p : (does { m2 with calls := m2.calls + 1 } (.mv (lockP k) (placeP k))).plan = [] := h2p
  have h3d : (does { m2 with calls := m2.calls + 1 } (.mv (lockP k) (placeP k))).down = false := h2d
  have h3r : (does { m2 with calls := m2.calls + 1 } (.mv (lockP k) (placeP k))).room = m.room := h2r
  generalize does { m2 with calls := m2.calls + 1 } (.mv (lockP k) (placeP k)) = m3 at *
  have hres : setM m k ((hv k).getD []) v = (settle { m3 with calls := m3.calls + 1 }, 0) := by
    unfold setM
    rw [if_neg (by rw [hk]; simp), if_neg (no_range hb hold), hc]
    simp only [ne_eq, not_true_eq_false, if_false]
    rw [hexp]
    unfold setMid
    simp only [if_true]
    rw [hs1]
    simp only [ne_eq, not_true_eq_false, if_false]
    unfold setEnd
    rw [hmv]
    simp only [ne_eq, not_true_eq_false, if_false]
    rw [sync_plain h3p h3d]
  rw [hres]
  refine ⟨rfl, ⟨h3p, h3d, by show 100000 ≤ m3.room; rw [h3r]; exact h.room, ?_⟩, rfl, rfl⟩
  show ApF m3.now lk (updH hv k v) (n + 1)
  rw [h3now]
  exact apF_set h.f hk hb t1
theorem ap_get (h : Ap m lk hv n) {k : B8} (hk : nameB k = true) : Ap (getM m k).1 lk hv n ∧ (getM m k).2 = match hv k with | some v => (v, 0) | none => ([], 7) := by
  unfold getM
  rw [if_neg (by rw [hk]; simp)]
  obtain ⟨h1, h2⟩ := ap_read h hk
  rw [h1]
  refine ⟨h.calls _, ?_⟩
  rcases h2 with ⟨h2, h3⟩ | ⟨v, h2, t, h3⟩
  · rw [h3, h2]
    rfl
  · rw [h3, h2]
    unfold getE
    simp [trim_line, (h.f.name _ _ h2).2]
theorem get_noname {k : B8} (hk : nameB k = false) : getM m k = (m, [], 6) := by
  unfold getM
  rw [if_pos hk]
theorem set_noname {k old v : B8} (hk : nameB k = false) : setM m k old v = (m, 6) := by
  unfold setM
  rw [if_pos hk]
/-- All locks are taken away. -/
def cntL : Option B8 → Int
  | some l => if nameB l = true then 1 else 0
  | none => 0
def restL : Option B8 → Option B8
  | some l => if nameB l = true then none else some l
  | none => none
theorem ap_unlock (h : Ap m lk hv n) : (unlockM m).2 = (cntL lk, 0) ∧ Ap (unlockM m).1 (restL lk) hv n := by
  have hl : listM m lockD = ({ m with calls := m.calls + 1 }, lk.toList.map lockP, 0) := by
    unfold listM
    rw [call_calm h.plan h.down]
    have hp : pathB lockD = true := by decide
    have h0 : lockD ≠ [] := by decide
    simp only [ne_eq, not_true_eq_false, if_false, h0, hp, Bool.true_eq_false]
    show (_, (pathsL m.now).filter (isUnder lockD), _) = _
    rw [h.f.locks]
  have htr : ∀ l : B8, Lib.trimPrefix (lockP l) (lockD ++ [47]) = l := by
    intro l
    unfold Lib.trimPrefix
    have : Lib.hasPrefix (lockP l) (lockD ++ [47]) = true := by
      unfold Lib.hasPrefix lockP lockD
      simp
    rw [if_pos this]
    unfold lockP lockD
    simp
  unfold unlockM
  rw [hl]
  simp only [ne_eq, not_true_eq_false, if_false]
  cases lk with
  | none =>
    exact ⟨rfl, h.calls _⟩
  | some l =>
    by_cases hn : nameB l = true
    · have : lastL [lockP l] lockD = [l] := by
        unfold lastL
        simp [htr, hn]
      rw [show cntL (some l) = 1 from if_pos hn, show restL (some l) = none from if_pos hn]
      simp only [Option.toList_some, List.map_cons, List.map_nil, this]
      have hrm : removeM { m with calls := m.calls + 1 } (lockP l) = (does { m with calls := m.calls + 2 } (.del (lockP l)), 0) := by
        unfold removeM
        rw [call_calm (m := { m with calls := m.calls + 1 }) h.plan h.down]
        unfold removesM
        simp only [ne_eq, not_true_eq_false, if_false, (h.f.lock l rfl).1, Bool.true_eq_false]
        have h9 := (h.f.lock l rfl).2
        cases hq : look m.now (lockP l) with
        | none => rw [hq] at h9; simp at h9
        | some x => rfl
      unfold dropsM
      rw [hrm]
      simp only [ne_eq, not_true_eq_false, if_false]
      unfold dropsM
      simp only [ne_eq, not_true_eq_false, if_false]
      refine ⟨rfl, h.plan, h.down, h.room, ⟨?_, h.f.name, (fun l' e => by cases e), ?_, ?_, ?_⟩⟩
      · show usedF (delF m.now (lockP l)) ≤ _
        exact Nat.le_trans (usedF_del_le _ _) h.f.used
      · intro k v e
        show ∃ t, look (delF m.now (lockP l)) (placeP k) = _
        rw [look_delF_ne (fun e => place_lock e.symm)]
        exact h.f.refs _ _ e
      · intro e he
        have he : e ∈ delF m.now (lockP l) := he
        obtain ⟨he1, he2⟩ := mem_del.1 he
        rcases h.f.all e he1 with h1 | ⟨l', h1, h2⟩
        · exact .inl h1
        · cases h1
          exact (he2 h2).elim
      · show (pathsL (delF m.now (lockP l))).filter (isUnder lockD) = []
        have h1 := h.f.locks
        have h2 : (pathsL (delF m.now (lockP l))) = (pathsL m.now).filter (fun p => !(p == lockP l)) := by
          unfold pathsL delF
          rw [List.filter_map]
          rfl
        rw [h2, List.filter_filter]
        have h3 : ((pathsL m.now).filter (isUnder lockD)).filter (fun p => !(p == lockP l)) = [] := by rw [h1]; simp
        rw [List.filter_filter] at h3
        rw [← h3]
        congr 1
        funext x
        exact Bool.and_comm _ _
    · have hn0 : nameB l = false := by simpa using hn
      have : lastL [lockP l] lockD = [] := by
        unfold lastL
        simp [htr, hn0]
      rw [show cntL (some l) = 0 from if_neg hn, show restL (some l) = some l from if_neg hn]
      simp only [Option.toList_some, List.map_cons, List.map_nil, this, dropsM, ne_eq, not_true_eq_false, if_false]
      exact ⟨rfl, h.calls _⟩

end Go.Proofs.YtfimfbdlegookaaGreatDoor

/-! A map of names and hashes: looked up, set. Conditions: names of at most 1000000 signs. -/
namespace Go.Proofs.YtfimfbdlegookaaGreatDoor
open Go Go.RowKit

def enH (e : B8 × Fi) : Lit × DataW Value := (.string e.1, .held (S8 e.2.data))
def datH (l : Files) : DataW Value := .map (l.map enH)
def lookD (l : Files) (p : B8) : B8 := match look l p with
  | some f => f.data
  | none => []
theorem zero_str (w : World) : (zeroValue 9).run Tryz.prog w = .ok (S8 []) w := by kernel_rfl
theorem filter_enH (p : B8) : ∀ l : Files, (l.map enH).filter (fun q => !q.1.sameKey (.string p)) = (delF l p).map enH
  | [] => rfl
  | e :: l => by
    have ih := filter_enH p l
    unfold delF at ih ⊢
    have hk : (enH e).1.sameKey (.string p) = (e.1 == p) := rfl
    rw [List.map_cons, List.filter_cons, List.filter_cons, hk]
    split
    · rw [List.map_cons, ih]
    · exact ih
theorem insert_enH (x : B8 × Fi) : ∀ l : Files, DataW.insert (enH x) (l.map enH) = (insF x l).map enH
  | [] => rfl
  | y :: l => by
    rw [List.map_cons, DataW.insert, insF]
    have hb : (enH x).1.before (enH y).1 = ltB x.1 y.1 := before_ltB _ _
    rw [hb]
    split
    · rfl
    · rw [insert_enH x l]; rfl
theorem datH_put (l : Files) (p : B8) (f : Fi) : (datH l).put (.string p) (.held (S8 f.data)) = datH (putF l p f) := by
  unfold datH DataW.put putF
  simp only
  rw [filter_enH]
  have : (Lit.string p, DataW.held (S8 f.data)) = enH (p, f) := rfl
  rw [this, insert_enH]
theorem find_enH (p : B8) : ∀ l : Files, (l.map enH).find? (fun q => q.1.sameKey (.string p)) = (l.find? fun e => e.1 == p).map enH
  | [] => rfl
  | e :: l => by
    have hk : (enH e).1.sameKey (.string p) = (e.1 == p) := rfl
    rw [List.map_cons, List.find?_cons, List.find?_cons, hk]
    cases e.1 == p
    · exact find_enH p l
    · rfl
theorem datH_at (l : Files) (p : B8) (z : DataW Value) : (datH l).atKey (.string p) z = match look l p with | some f => .held (S8 f.data) | none => z := by
  unfold datH DataW.atKey look
  simp only
  rw [find_enH]
  cases h : l.find? fun e => e.1 == p with
  | none => rfl
  | some e => rfl
theorem datH_has (l : Files) (p : B8) : Maps.has (datH l) (.string p) = (look l p).isSome := by
  unfold datH
  rw [Maps.has_eq, Bool.eq_iff_iff, List.any_eq_true]
  unfold look
  constructor
  · rintro ⟨q, hq, hk⟩
    obtain ⟨e, he, rfl⟩ := List.mem_map.1 hq
    have : e.1 == p := hk
    rw [Option.isSome_map, List.find?_isSome]
    exact ⟨e, he, this⟩
  · intro h
    rw [Option.isSome_map, List.find?_isSome] at h
    obtain ⟨e, he, hk⟩ := h
    exact ⟨enH e, List.mem_map.2 ⟨e, he, rfl⟩, hk⟩
structure IsHave (w : World) (b : Nat) (l : Files) : Prop where
  map : w.ownsMap Tryz.prog 9 elemV b l.length (datH l)
theorem have_made (w : World) : IsHave (w.alloc (.map #[] 0)) w.heap.size [] := ⟨World.ownsMap_made _ _ _ _⟩
theorem IsHave.stay {w w' : World} {b : Nat} {l : Files} (h : IsHave w b l) (hb : w'.heap[b]? = w.heap[b]?) : IsHave w' b l := by
  obtain ⟨es, clock, he, F, hs, hD⟩ := h.map
  exact ⟨es, clock, hb.trans he, F, hs, hD⟩
theorem IsHave.lt {w : World} {b : Nat} {l : Files} (h : IsHave w b l) : b < w.heap.size := h.map.lt
theorem IsHave.notU8 {w : World} {b : Nat} {l : Files} (h : IsHave w b l) : ¬ IsU8 w b := by
  obtain ⟨es, clock, he, _⟩ := h.map
  rintro ⟨cs, t, fr, hc, -⟩
  rw [he] at hc
  cases hc
/-- m[p]. -/
theorem IsHave.look_run {w : World} {b : Nat} {l : Files} (h : IsHave w b l) (p : B8) (hp : p.length ≤ 1000000) :
    (Instr.lookup 30 (.map (some b)) (S8 p) true).run Tryz.prog w = .ok (.tuple #[S8 (lookD l p), .bool (look l p).isSome]) w ∧ (Instr.lookup 30 (.map (some b)) (S8 p) false).run Tryz.prog w = .ok (S8 (lookD l p)) w := by
  have h2 := h.map
  obtain ⟨v, ps, h4, h5⟩ := h2.look_ok K_str Tryz.underlying30 (zero_str w) rfl (key_str p hp)
  obtain ⟨v', ps', h6, h7⟩ := h2.lookup K_str Tryz.underlying30 (zero_str w) rfl (key_str p hp)
  rw [datH_at] at h5 h7
  rw [datH_has] at h4
  have hz : (match look l p with | some f => DataW.held (S8 f.data) | none => DataW.held (S8 [])) = (DataW.held (S8 (lookD l p)) : DataW Value) := by
    unfold lookD
    cases look l p <;> rfl
  rw [hz] at h5 h7
  have e1 : v = S8 (lookD l p) := DataW.held.inj (congrArg Prod.fst (Option.some.inj h5))
  have e2 : v' = S8 (lookD l p) := DataW.held.inj (congrArg Prod.fst (Option.some.inj h7))
  subst e1
  subst e2
  exact ⟨h4, h6⟩
section
variable {ops : Array Oper} {rest : List Oper} {o : Oper} {a : Act} {Q : Exit → Act → World → Prop} {w : World}
theorem set_have (hgd : o.guard = none) (m x v : Operand) (hop : o.op = Op.mapUpdate 30 m x v) {b : Nat} {l : Files} (hf : IsHave w b l) (hl : l.length ≤ 10000000)
    (hm : a.eval m = .map (some b)) (p : B8) (hp : p.length ≤ 1000000) (hx : a.eval x = S8 p) (f : Fi) (hv : a.eval v = S8 f.data)
    (h : ∀ w', IsHave w' b (putF l p f) → w.grownBy w' (some b) → wpList Tryz.prog ops Q rest (a.put o.dst undef) w') : wpList Tryz.prog ops Q (o :: rest) a w := by
  refine wpList_mapUpdate_own w hgd m x v _ hop _ _ K_str Tryz.underlying30 elemV b _ _ hm hf.map (by unfold maxLen; omega) (S8 p) (S8 f.data) (.string p) hx hv (key_str p hp) (.held (S8 f.data)) [] rfl ?_
  intro w' hown hg
  rw [datH_put] at hown
  refine h w' ⟨?_⟩ hg
  obtain ⟨es, clock, hb, F, hs, hD⟩ := hown
  refine ⟨es, clock, hb, F, ?_, hD⟩
  have : Maps.size (datH (putF l p f)) = es.size := by rw [hD]; simp [Maps.size, length_sorted]
  rw [← this]
  simp [datH, Maps.size]
end

end Go.Proofs.YtfimfbdlegookaaGreatDoor

/-! marlaw8.RefsApart. Conditions: as each theorem states. -/
namespace Go.Proofs.YtfimfbdlegookaaGreatDoor
open Go Go.RowKit
set_option linter.unusedVariables false
set_option linter.unusedSimpArgs false
set_option linter.unusedSectionVars false

def underB (d s : B8) : Bool := pathB d && (pathB s && isUnder d s)
set_option maxRecDepth 100000 in
theorem under_any (d s : B8) (w : World) (hE : Env w) (hd : d.length ≤ 1000000) (hs : s.length ≤ 1000000) :
    Calls Tryz.prog 16 #[S8 d, S8 s] w fun e w' => e = .returned (.bool (underB d s)) ∧ Ext w w' := by
  have HE : Hid (Env w) := hE
  clear hE
  obtain ⟨a, ha⟩ : ∃ a, pathB d = a := ⟨_, rfl⟩
  obtain ⟨b, hb⟩ : ∃ b, pathB s = b := ⟨_, rfl⟩
  obtain ⟨c, hc⟩ : ∃ c, isUnder d s = c := ⟨_, rfl⟩
  have HR : Hid (underB d s = (a && (b && c))) := by unfold Hid underB; rw [ha, hb, hc]
  have HA : Hid _ := ha
  have HB : Hid _ := hb
  have HC : Hid _ := hc
  clear ha hb hc
  rw [HR.out]
  go_enter Tryz.func16, Tryz.ntmps16
  go_wp2_with fail
  go_at_call 66
  refine (path_l d w HE.out (by omega)).mono ?_
  rw [HA.out]
  rintro e w1 ⟨rfl, hx1⟩
  have HX1 : Hid (Ext w w1) := hx1
  clear hx1
  cases a with
  | false =>
    go_wp2
    go_ret
    exact ⟨rfl, HX1.out⟩
  | true =>
    go_wp2_with fail
    go_at_call 66
    refine (path_l s w1 (HE.out.ext HX1.out) (by omega)).mono ?_
    rw [HB.out]
    rintro e w2 ⟨rfl, hx2⟩
    have HX2 : Hid (Ext w w2) := HX1.out.trans hx2
    clear hx2
    cases b with
    | false =>
      go_wp2
      go_ret
      exact ⟨rfl, HX2.out⟩
    | true =>
      go_wp2_with fail
      go_at_call 67
      refine (prefix_any _ _ _).mono ?_
      rw [show ((⟨d.toArray⟩ : ByteArray) ++ ⟨#[47]⟩).data.toList.isPrefixOf (⟨s.toArray⟩ : ByteArray).data.toList = c by rw [str_app d [47]]; exact HC.out]
      rintro e w3 ⟨rfl, rfl⟩
      go_wp2
      go_ret
      exact ⟨rfl, HX2.out⟩

variable [Inhabited BaseW]
/-- A block of the call's own that lies apart is written. -/
theorem One.grown {w0 w w' : World} {S O : Nat → Prop} {f : Value} {m : Fs} {b : Nat} (h : One w0 S O w f m) (hg : w.grownBy w' (some b)) (hb : w0.heap.size ≤ b) (hO : ¬ O b) (hS : ¬ S b) (hu : ¬ IsU8 w b) : One w0 S O w' f m := by
  have hs := hg.size
  have hne : ∀ k, k ≠ b → k < w.heap.size → w'.heap[k]? = w.heap[k]? := fun k hk hlt => hg.block k hlt (fun e => hk (Option.some.inj e))
  refine ⟨Ext.of_fr h.ext (Fr.of_grown (O := fun k => k = b) hg rfl hu) (fun k hk => by omega), (h.fs.stay (fun k hk hlt => hne k (fun e => hO (e ▸ hk)) hlt) (fun k hk hlt => hne k (fun e => hS (e ▸ hk)) hlt) (grown_keepR hg hu)).mono (fun _ h => h) (fun k hk => by omega), fun k hk => by have := h.lo k hk; omega, fun k hk => by have := h.loS k hk; omega, h.disS⟩
def hvOf (hl : Files) (k : B8) : Option B8 := (look hl k).map (·.data)
theorem hvOf_put (hl : Files) (k v : B8) : hvOf (putF hl k ⟨0, v, 0⟩) = updH (hvOf hl) k v := by
  funext x
  unfold hvOf updH
  by_cases h : x = k
  · subst h
    rw [look_putF_same]
    simp
  · rw [if_neg h, look_putF_ne (fun e => h e.symm)]
theorem hvOf_look (hl : Files) (k : B8) : lookD hl k = (hvOf hl k).getD [] := by
  unfold lookD hvOf
  cases look hl k <;> rfl
theorem ap_told {m : Fs} {lk : Option B8} {hl : Files} {n : Nat} (h : Ap m lk (hvOf hl) n) (k : B8) :
    Ap (getM m k).1 lk (hvOf hl) n ∧ (getM m k).2.1 = lookD hl k ∧ ((getM m k).2.2 == 0) = (look hl k).isSome := by
  rw [hvOf_look]
  cases hk : nameB k with
  | false =>
    rw [get_noname hk]
    have hno : look hl k = none := by
      cases hq : look hl k with
      | none => rfl
      | some x =>
        have h9 := (h.f.name k x.data (by unfold hvOf; rw [hq]; rfl)).1
        rw [hk] at h9
        cases h9
    unfold hvOf
    rw [hno]
    exact ⟨h, rfl, rfl⟩
  | true =>
    obtain ⟨h1, h2⟩ := ap_get h hk
    rw [h2]
    refine ⟨h1, ?_⟩
    unfold hvOf
    cases look hl k with
    | none => exact ⟨rfl, rfl⟩
    | some x => exact ⟨rfl, rfl⟩
def lkO (lk : B8) : Option B8 := if pathB (lockP lk) = true then some lk else none
/-- A user lays a lock. -/
theorem ap_user (lk : B8) : ((userWrite (newM 1048576) (lockP lk) 1 []).2 == 0) = pathB (lockP lk) ∧ Ap (userWrite (newM 1048576) (lockP lk) 1 []).1 (lkO lk) (hvOf []) 1 := by
  have hd : (newM 1048576).down = false := rfl
  unfold userWrite lkO
  rw [if_neg (by rw [hd]; simp)]
  cases hp : pathB (lockP lk) with
  | false =>
    have hw : wrongE (lockP lk) 1 [] = 6 := by unfold wrongE; rw [if_pos hp]
    rw [hw, if_pos (by decide), if_neg (by simp)]
    exact ⟨rfl, rfl, rfl, by decide, Nat.zero_le _, (fun k v h => by simp [hvOf, look] at h), (fun l h => by cases h), (fun k v h => by simp [hvOf, look] at h), (fun e he => by cases he), rfl⟩
  | true =>
    have hw : wrongE (lockP lk) 1 [] = 0 := by unfold wrongE; rw [hp]; rfl
    have hpt : putsM (newM 1048576) (lockP lk) 1 [] true = (does (newM 1048576) (.put (lockP lk) ⟨1, [], 0⟩), 0) := by
      unfold putsM
      rw [if_neg (by simp [newM, mayF]), if_neg (by simp)]
    rw [hw, hpt, if_neg (by simp)]
    simp only [ne_eq, not_true_eq_false, if_false, if_true]
    have hnow : ap [] (.put (lockP lk) ⟨1, [], 1⟩) = [(lockP lk, ⟨1, [], 1⟩)] := rfl
    have hun : isUnder lockD (lockP lk) = true := by unfold isUnder lockD lockP; simp [List.isPrefixOf]
    refine ⟨rfl, rfl, rfl, (show (100000 : Int) ≤ 1048576 by decide), ?_⟩
    show ApF (ap [] (.put (lockP lk) ⟨1, [], 1⟩)) _ _ _
    rw [hnow]
    refine ⟨Nat.zero_le _, (fun k v h => by simp [hvOf, look] at h), fun l h => ?_, (fun k v h => by simp [hvOf, look] at h), fun e he => ?_, ?_⟩
    · cases h
      exact ⟨hp, by simp [look]⟩
    · rw [List.mem_singleton.1 he]
      exact .inr ⟨lk, rfl, rfl⟩
    · simp [pathsL, hun]
/-- What the law asks of a name beside the lock. -/
def hitB (lk n : B8) : Bool := n == lk || (underB (lockP lk) (lockP n) || underB (lockP n) (lockP lk))
theorem hit_free {lk n : B8} (hn : nameB n = true) (h : (pathB (lockP lk) && hitB lk n) = false) : ∀ l, lkO lk = some l → l ≠ n ∧ isUnder (lockP n) (lockP l) = false := by
  intro l hl
  unfold lkO at hl
  by_cases hp : pathB (lockP lk) = true
  · rw [if_pos hp] at hl
    cases hl
    rw [hp] at h
    unfold hitB underB at h
    simp only [Bool.true_and, Bool.or_eq_false_iff, hp, (path_name hn).1] at h
    exact ⟨fun e => by rw [e] at h; simp at h, by simpa using h.2.2⟩
  · rw [if_neg hp] at hl
    cases hl
theorem hit_taken {lk n : B8} (hn : nameB n = true) (h : (pathB (lockP lk) && hitB lk n) = true) : lkO lk = some lk ∧ (lk = n ∨ isUnder (lockP n) (lockP lk) = true) := by
  obtain ⟨hp, hh⟩ := Bool.and_eq_true_iff.1 h
  refine ⟨by unfold lkO; rw [if_pos hp], ?_⟩
  unfold hitB underB at hh
  simp only [Bool.or_eq_true, Bool.and_eq_true, beq_iff_eq, hp, (path_name hn).1, true_and, under_ll hn] at hh
  rcases hh with hh | hh | hh
  · exact .inl hh.symm
  · cases hh
  · exact .inr hh
/-- A ref is set, or not. -/
theorem ap_round {m : Fs} {lk n v : B8} {hl : Files} {k : Nat} (h : Ap m (lkO lk) (hvOf hl) k) (hk : k ≤ 200) (hb : validB v = true) :
    ((pathB (lockP lk) && hitB lk n) = true → ((setM m n (lookD hl n) v).2 == 0) = false ∧ Ap (setM m n (lookD hl n) v).1 (lkO lk) (hvOf hl) (k + 1)) ∧
    ((pathB (lockP lk) && hitB lk n) = false → ((setM m n (lookD hl n) v).2 == 0) = nameB n ∧ Ap (setM m n (lookD hl n) v).1 (lkO lk) (hvOf (if nameB n = true then putF hl n ⟨0, v, 0⟩ else hl)) (k + 1)) := by
  have hup : Ap m (lkO lk) (hvOf hl) (k + 1) := ⟨h.plan, h.down, h.room, h.f.mono (by omega)⟩
  cases hn : nameB n with
  | false =>
    rw [set_noname hn, if_neg (by simp)]
    exact ⟨fun _ => ⟨rfl, hup⟩, fun _ => ⟨rfl, hup⟩⟩
  | true =>
    rw [if_pos rfl, hvOf_look, hvOf_put]
    refine ⟨fun hc => ?_, fun hc => ?_⟩
    · obtain ⟨h1, h2⟩ := hit_taken hn hc
      have ho : (hvOf hl n).getD [] = [] ∨ validB ((hvOf hl n).getD []) = true := by
        cases hq : hvOf hl n with
        | none => exact .inl rfl
        | some x => exact .inr (h.f.name _ _ hq).2
      obtain ⟨h3, h4⟩ := ap_locked h hn hb h1 h2 ho
      exact ⟨beq_eq_false_iff_ne.2 h3, h4.plan, h4.down, h4.room, h4.f.mono (by omega)⟩
    · obtain ⟨h3, h4, -⟩ := ap_set h hk hn hb (hit_free hn hc)
      exact ⟨beq_iff_eq.2 h3, h4⟩

theorem locks_len {m : Fs} {lk : Option B8} {hv : B8 → Option B8} {n : Nat} (h : Ap m lk hv n) : (lastL (listM m lockD).2.1 lockD).length ≤ 1 := by
  have hl : (listM m lockD).2.1 = lk.toList.map lockP := by
    unfold listM
    rw [call_calm h.plan h.down]
    have hp : pathB lockD = true := by decide
    have h0 : lockD ≠ [] := by decide
    simp only [ne_eq, not_true_eq_false, if_false, h0, hp, Bool.true_eq_false]
    exact h.f.locks
  have h1 := last_len (listM m lockD).2.1 lockD
  rw [hl] at h1 ⊢
  refine Nat.le_trans h1 ?_
  cases lk <;> simp

end Go.Proofs.YtfimfbdlegookaaGreatDoor
