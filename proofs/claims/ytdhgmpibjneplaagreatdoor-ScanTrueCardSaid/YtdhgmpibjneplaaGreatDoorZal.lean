/- The roots of the primes, as a row lays them. Conditions: what the row lists. -/
import Derived.Test.YtdhgmpibjneplaaGreatDoorZak
import Derived.Test.YtdhgmpibjneplaaGreatDoorCards
import Derived.Test.YtdhgmpibjneplaaGreatDoorTie
import Derived.OpenShut
import Derived.LaidMore
import Derived.Lay
import Derived.Deep.DeepHandedRow
import Derived.Lib.LaidTab
import Derived.Stop.LaidErr
import Derived.ProofKit
import Derived.SizedLaws
import Derived.Deep.Slices
import Derived.Deep.Fields
import Derived.ChangeSame
import Derived.Test.YtdhgmpibjneplaaGreatDoorZai
import Derived.Test.YtdhgmpibjneplaaGreatDoorZag

set_option linter.unusedVariables false
set_option linter.unusedSimpArgs false
set_option linter.unusedSectionVars false

/-! marlaw5: what comes in: operations, by their fields, their slices, their events, read as the texts say. Conditions: what one slice may hold. -/
namespace Go.Proofs.YtdhgmpibjneplaaGreatDoor
open Go Go.ChangeShapes Go.WideShapes Go.ChangeAt Go.RowKit Go.Deep

theorem own : ownKnob Tryz.prog.godebug = none := by kernel_rfl
theorem laidOut : laidOutB Tryz.prog = true := by kernel_rfl
theorem cellsU8 : Tryz.prog.cellsOf 5 = 1 := by kernel_rfl
theorem bytesU8 : Tryz.prog.bytesOf 5 = 1 := by kernel_rfl
theorem env_of {W : World} (hs : W.ShapedOpen Tryz.prog) : Env W :=
  ⟨Go.Proofs.cell_of_shapedOpen_int (zero := #[.int .i64 0]) (t := 3) hs (of_decide_eq_true (by kernel_rfl)) (by kernel_rfl) rfl (by kernel_rfl) (by kernel_rfl) Tryz.underlying3⟩

theorem byte_wf {x : Int} (h : (Lit.int .u8 x).wf = true) : 0 ≤ x ∧ x < 256 := by
  have h1 : IntKind.u8.min = 0 := rfl
  have h2 : IntKind.u8.max = 255 := rfl
  simp only [Lit.wf, Bool.and_eq_true, decide_eq_true_eq] at h
  omega
theorem trodAll_below (hl : laidOutB Tryz.prog = true) {H : Type} {enc : TypeId × Value → H} {W W' : World} (hb : Below W.heap.size W W') : ∀ {ts : List TypeId} {vs : List Value} {ds : List (DataW H)} {ps : List MemPlace}, DataW.TrodAll enc Tryz.prog W 0 (fun _ => true) true ts vs ds ps → (∀ x ∈ ps, x.block < W.heap.size) → (∀ t ∈ ts, Tryz.prog.readableRec t = true ∧ t < Tryz.prog.types.size) →
    DataW.TrodAll enc Tryz.prog W' 0 (fun b => decide (b < W.heap.size)) true ts vs ds ps
  | [], vs, ds, ps, h, _, _ => by
    obtain ⟨rfl, rfl, rfl⟩ := trodAll_nil h
    exact trodAll_mk0
  | t :: ts, vs, ds, ps, h, hlt, hr => by
    obtain ⟨v, vs', d, ds', p, q, rfl, rfl, rfl, h0, h1⟩ := trodAll_cons h
    exact ⟨p, q, Below.trod hl (hr t (by simp)).1 (hr t (by simp)).2 h0 hb (fun x hx => hlt x (by simp [hx])), trodAll_below hl hb h1 (fun x hx => hlt x (by simp [hx])) (fun t ht => hr t (by simp [ht])), rfl⟩

theorem i64_wf {n : Int} (h : (Lit.int .i64 n).wf = true) : I64 n := by
  have h1 : IntKind.i64.min = -9223372036854775808 := rfl
  have h2 : IntKind.i64.max = 9223372036854775807 := rfl
  simp only [Lit.wf, Bool.and_eq_true, decide_eq_true_eq] at h
  unfold I64
  omega

section
variable {H : Type} {enc : TypeId × Value → H} {P : Program} {w : World} {base : Nat} {spare : Nat → Bool} {held : Bool}
theorem slice_fields {t e : TypeId} {fs : Array Field} {fuel : Nat} {cs : List Value} {x : DataW H × List MemPlace} (ht : P.underlying t = some (.slice e)) (he : P.underlying e = some (.struct fs))
    (hone : oneCellFields P fs = true) (hC : P.cellsOf e = fs.size) (h : DataW.trod enc P w base spare held fuel t cs = some x) :
    (cs = [.slice none 0 0] ∧ x = (.nil, [])) ∨
    ∃ (a : Addr) (len cap m : Nat) (D : Nat → DataW H) (Pl : Nat → List MemPlace), cs = [.slice (some a) len cap] ∧ base ≤ a.block ∧ len ≤ cap ∧ cap ≤ maxLen ∧ m = (if spare a.block then cap else len) ∧
      x = (.slice ((List.range len).map D) ((List.range (m - len)).map fun j => D (len + j)), MemPlace.row a (m * fs.size) ++ (List.range m).flatMap Pl) ∧
      ∀ i, i < m → ∃ (ys : List (DataW H × List MemPlace)) (n : Nat), D i = .agg (ys.map (·.1)) ∧ Pl i = ys.flatMap (·.2) ∧ ys.length = fs.size ∧
        ∀ (j : Nat) (f : Field), fs[j]? = some f → ∃ (v : Value) (y : DataW H × List MemPlace), w.cell? (a.add (i * fs.size + j)) = some v ∧ ys[j]? = some y ∧ DataW.trod enc P w base spare held n f.type [v] = some y := by
  rcases open_slice ht h with h0 | ⟨a, len, cap, m, n, D, Pl, hcs, hb, hl, hm, hmm, hx, hi⟩
  · exact .inl h0
  · refine .inr ⟨a, len, cap, m, D, Pl, hcs, hb, hl, hm, hmm, by rw [hC] at hx; exact hx, fun i him => ?_⟩
    obtain ⟨cs', hc, ht'⟩ := hi i him
    rw [hC] at hc
    obtain ⟨ys, n', hn', hy, hlen, hyl, hf⟩ := DataW.trod_struct he ht'
    obtain ⟨_, hcl, hat⟩ := World.cells?_some hc
    simp only [Prod.mk.injEq] at hy
    refine ⟨ys, n', hy.1, hy.2, hyl, fun j f hj => ?_⟩
    obtain ⟨ho, hk⟩ := hone_of hone j f hj
    have hjl : j < fs.size := (Array.getElem?_eq_some_iff.1 hj).1
    have hcell := hat j hjl
    have hv : cs'[j]? = some (cs'[j]'(by omega)) := List.getElem?_eq_getElem (by omega)
    have h1 := hf j f hj
    rw [ho, hk] at h1
    have hone' : (cs'.drop j).take 1 = [cs'[j]'(by omega)] := by
      rw [List.drop_eq_getElem_cons (by omega)]
      rfl
    rw [hone'] at h1
    have hys : ys[j]? = some (ys[j]'(by omega)) := List.getElem?_eq_getElem (by omega)
    refine ⟨_, _, ?_, hys, h1.trans hys⟩
    rw [← Go.Deep.add_add, hcell, hv]

end

/-! ### What one slice may hold, at any depth -/
def Szd {H : Type} (t : TypeId) (d : DataW H) : Prop := ∀ n ∈ d.weights Tryz.prog t, n ≤ reachBytes
theorem szd_arg {H : Type} {ts : List TypeId} {ds : List (DataW H)} {j : Nat} {t : TypeId} {d : DataW H} (h : (DataW.weightsEach Tryz.prog ts ds).all (· ≤ reachBytes) = true) (ht : ts[j]? = some t) (hd : ds[j]? = some d) : Szd t d := fun n hn => by
  have := List.all_eq_true.1 h _ (DataW.weights_mem_each ht hd n hn)
  simpa using this
theorem wAll_mem {H : Type} {P : Program} {e : TypeId} : ∀ {l : List (DataW H)} {d : DataW H}, d ∈ l → ∀ n ∈ d.weights P e, n ∈ DataW.weightsAll P e l
  | d' :: r, d, hd, n, hn => by
    simp only [DataW.weightsAll, List.mem_append]
    rcases List.mem_cons.1 hd with rfl | h
    · exact Or.inl hn
    · exact Or.inr (wAll_mem h n hn)
theorem szd_slice {H : Type} {t q : TypeId} {e s : List (DataW H)} (h : Szd t (.slice e s)) (hu : Tryz.prog.underlying t = some (.slice q)) : (e.length + s.length) * Tryz.prog.bytesOf q ≤ reachBytes ∧ ∀ d ∈ e, Szd q d := by
  refine ⟨h _ (by simp [DataW.weights, hu]), fun d hd n hn => h n ?_⟩
  simp only [DataW.weights, hu, List.mem_cons, List.mem_append]
  exact Or.inr (Or.inl (wAll_mem hd n hn))
theorem szd_agg {H : Type} {t : TypeId} {fs : Array Field} {parts : List (DataW H)} {j : Nat} {f : Field} {d : DataW H} (h : Szd t (.agg parts)) (hu : Tryz.prog.underlying t = some (.struct fs)) (hf : fs[j]? = some f) (hd : parts[j]? = some d) : Szd f.type d := fun n hn => by
  refine h n ?_
  simp only [DataW.weights, hu]
  refine DataW.weights_mem_each (j := j) ?_ hd n hn
  rw [List.getElem?_map, Array.getElem?_toList, hf]
  rfl

section
variable {H : Type} {enc : TypeId × Value → H} {W : World}
theorem trod_i64 {n : Nat} {v : Value} {y : DataW H × List MemPlace} (h : DataW.trod enc Tryz.prog W 0 (fun _ => true) true n 3 [v] = some y) : ∃ z, v = .int .i64 z ∧ I64 z := by
  obtain ⟨z, hc, -, hw⟩ := DataW.trod_int Tryz.underlying3 h
  simp only [List.cons.injEq, and_true] at hc
  exact ⟨z, hc, i64_wf hw⟩
theorem trod_s8 {n : Nat} {v : Value} {y : DataW H × List MemPlace} (h : DataW.trod enc Tryz.prog W 0 (fun _ => true) true n 9 [v] = some y) : ∃ l : B8, v = S8 l := by
  obtain ⟨s, hc, -, -⟩ := DataW.trod_string Tryz.underlying9 h
  simp only [List.cons.injEq, and_true] at hc
  exact ⟨s.data.toList, hc⟩

theorem row_of_cells {a : Addr} {len cap : Nat} {cs : List Value} (hl : len ≤ cap) (hm : cap ≤ maxLen) (hn : len ≤ 140737488355328) (hc : ∀ i u, cs[i]? = some u → W.cell? (a.add i) = some u) : Row W (.slice (some a) len cap) len cs := by
  unfold maxLen at hm
  refine ⟨some a, cap, rfl, hl, by omega, hn, fun hne => ?_⟩
  obtain ⟨x, r, rfl⟩ : ∃ x r, cs = x :: r := by
    cases cs with
    | nil => exact (hne rfl).elim
    | cons x r => exact ⟨x, r, rfl⟩
  have hspot : a.spot = none := by
    have := World.cell?_spot (hc 0 x rfl)
    simpa [Addr.add] using this
  obtain ⟨b, o, sp⟩ := a
  simp only at hspot
  subst hspot
  refine ⟨b, o, rfl, fun i u hu => ?_⟩
  have hadd : (⟨b, o, none⟩ : Addr).add i = ⟨b, o + i, none⟩ := by unfold Addr.add; split <;> simp_all
  rw [← hadd]
  exact hc i u hu


theorem trod_bytes {n : Nat} {v : Value} {y : DataW H × List MemPlace} (h : DataW.trod enc Tryz.prog W 0 (fun _ => true) true n 35 [v] = some y) (hb : Szd 35 y.1) : ∃ l : B8, IsBytes W v l := by
  rcases open_ints Tryz.underlying35 Tryz.underlying5 cellsU8 h with ⟨hcs, hx⟩ | ⟨a, len, cap, zs, hcs, _, hl, hm, hz, rfl, hcell, hwz⟩
  · simp only [List.cons.injEq, and_true] at hcs
    subst hcs
    exact ⟨[], Row.nil _⟩
  · simp only [List.cons.injEq, and_true] at hcs
    subst hcs
    simp only [if_true] at hz
    have hs := (szd_slice hb Tryz.underlying35).1
    rw [bytesU8] at hs
    have hr := reachBytes_lt
    simp only [lits, List.length_map, List.length_take, List.length_drop, Nat.mul_one] at hs
    have hlen : len ≤ 140737488355328 := by omega
    refine ⟨(zs.take len).map fun z => UInt8.ofNat z.toNat, ?_⟩
    have hll : ((zs.take len).map fun z => UInt8.ofNat z.toNat).length = len := by simp; omega
    unfold IsBytes
    rw [hll]
    refine row_of_cells hl hm hlen fun i u hu => ?_
    have hi : i < len := by
      have := (List.getElem?_eq_some_iff.1 hu).1
      simp at this
      omega
    have hc := hcell i (by omega)
    rw [hc, ← hu]
    have hzi : zs[i]? = some zs[i] := List.getElem?_eq_getElem (by omega)
    have hw := byte_wf (hwz zs[i] (List.getElem_mem (by omega)))
    rw [List.getElem?_map, List.getElem?_map, List.getElem?_take_of_lt hi, hzi]
    simp only [Option.map_some, List.getD_eq_getElem?_getD, hzi, Option.getD_some, Option.some.injEq, Value.int.injEq, true_and, UInt8.toNat_ofNat']
    omega
theorem row_low {w : World} {v : Value} {n : Nat} {cs : List Value} (h : Row w v n cs) (hn : cs ≠ []) : ∀ k, v.ownBlock = some k → k < w.heap.size := by
  obtain ⟨a, cap, rfl, h1, h2, h3, h4⟩ := h
  obtain ⟨b, o, rfl, hc⟩ := h4 hn
  intro k hk
  cases cs with
  | nil => exact (hn rfl).elim
  | cons x r =>
    have := World.block_lt_of_cell? _ _ (hc 0 x rfl)
    have hb : b = k := by simpa [Value.ownBlock] using hk
    subst hb
    exact this
theorem oldB_of [Inhabited BaseW] {v : Value} {l : B8} (h : IsBytes baseW v l) : OldB v l := by
  refine ⟨h, fun a n c he hn => row_low h ?_ a.block (by rw [he]; rfl)⟩
  obtain ⟨a', cap, hv, -⟩ := h
  rw [he] at hv
  simp only [Value.slice.injEq] at hv
  intro h0
  have := congrArg List.length h0
  simp at this
  rw [this] at hv
  exact hn hv.2.1

theorem flat_inv (m : Nat) (hm : 0 < m) (css : List (List Value)) (h : ∀ c ∈ css, c.length = m) (q : Nat) (u : Value) (hq : css.flatten[q]? = some u) : ∃ c, css[q / m]? = some c ∧ c[q % m]? = some u := by
  induction css generalizing q with
  | nil => simp at hq
  | cons c r ih =>
    have hc := h c (by simp)
    by_cases hl : q < m
    · refine ⟨c, by rw [Nat.div_eq_of_lt hl]; rfl, ?_⟩
      rw [Nat.mod_eq_of_lt hl]
      simpa [List.flatten_cons, List.getElem?_append_left (show q < c.length by omega)] using hq
    · rw [List.flatten_cons, List.getElem?_append_right (by omega), hc] at hq
      obtain ⟨d, h1, h2⟩ := ih (fun x hx => h x (by simp [hx])) (q - m) hq
      refine ⟨d, ?_, ?_⟩
      · have : q / m = (q - m) / m + 1 := by
          rw [Nat.div_eq_sub_div hm (by omega)]
        rw [this]
        exact h1
      · rw [Nat.mod_eq_sub_mod (by omega)]
        exact h2


theorem one_ev : oneCellFields Tryz.prog (match Tryz.prog.underlying 108 with | some (.struct fs) => fs | _ => #[]) = true := by kernel_rfl
theorem cells_ev : Tryz.prog.cellsOf 108 = 7 := by kernel_rfl
theorem cells_opn : Tryz.prog.cellsOf 38 = 8 := by kernel_rfl
theorem bytes_ev : 1 ≤ Tryz.prog.bytesOf 108 := of_decide_eq_true (by kernel_rfl)
theorem mul_ge {a b c : Nat} (h : a * b ≤ c) (hb : 1 ≤ b) : a ≤ c := Nat.le_trans (Nat.le_mul_of_pos_right a hb) h
/-- A slice of structs, from what each row says. -/
theorem readO_of {α : Type} (m : Nat) (hm0 : 0 < m) {a : Addr} {len cap : Nat} (d0 : List Value × α) (hl : len ≤ cap) (hm : cap ≤ maxLen) (hn : len ≤ 140737488355328) {p : List Value → α → Prop} (hp : ∀ c x, p c x → c.length = m)
    (key : ∀ i, i < len → ∃ ce : List Value × α, p ce.1 ce.2 ∧ ∀ j u, ce.1[j]? = some u → W.cell? (a.add (i * m + j)) = some u) : ∃ xs : List α, ReadO W p (.slice (some a) len cap) xs ∧ xs.length = len ∧ ∀ x ∈ xs, ∃ c, p c x := by
  have key2 : ∀ i, ∃ ce : List Value × α, i < len → p ce.1 ce.2 ∧ ∀ j u, ce.1[j]? = some u → W.cell? (a.add (i * m + j)) = some u := fun i => by
    by_cases h : i < len
    · obtain ⟨ce, h1⟩ := key i h
      exact ⟨ce, fun _ => h1⟩
    · exact ⟨d0, fun hc => (h hc).elim⟩
  have CE := fun i => (key2 i).choose_spec
  generalize hce : (fun i => (key2 i).choose) = ce at CE
  have CE' : ∀ i, i < len → p (ce i).1 (ce i).2 ∧ ∀ j u, (ce i).1[j]? = some u → W.cell? (a.add (i * m + j)) = some u := fun i hil => by
    have := CE i hil
    rw [← hce]
    exact this
  have hget : ∀ (i : Nat) c, ((List.range len).map fun i => (ce i).1)[i]? = some c → i < len ∧ c = (ce i).1 := fun i c hc => by
    have hil := (List.getElem?_eq_some_iff.1 hc).1
    simp only [List.length_map, List.length_range] at hil
    refine ⟨hil, ?_⟩
    rw [List.getElem?_map, List.getElem?_range hil] at hc
    exact (Option.some.inj hc).symm
  have hrow : Row W (.slice (some a) len cap) len ((List.range len).map fun i => (ce i).1).flatten := by
    refine row_of_cells hl hm hn fun q u hq => ?_
    obtain ⟨c, hc, hu⟩ := flat_inv m hm0 _ (fun c hc => by
      obtain ⟨i, hir, rfl⟩ := List.mem_map.1 hc
      exact hp _ _ (CE' i (by simpa using hir)).1) q u hq
    obtain ⟨hil, rfl⟩ := hget _ _ hc
    have := (CE' _ hil).2 _ u hu
    rwa [show q / m * m + q % m = q by rw [Nat.mul_comm]; exact Nat.div_add_mod q m] at this
  refine ⟨(List.range len).map fun i => (ce i).2, ⟨(List.range len).map fun i => (ce i).1, by rw [List.length_map, List.length_range]; exact hrow, fun hne => ?_, by simp, fun i c e hc he => ?_⟩, by simp, fun x hx => ?_⟩
  · refine row_low hrow fun h0 => ?_
    have hlen : 0 < len := by
      cases len with
      | zero => exact (hne rfl).elim
      | succ n => omega
    have h1 := hp _ _ (CE' 0 hlen).1
    have h2 : ((List.range len).map fun i => (ce i).1)[0]? = some (ce 0).1 := by rw [List.getElem?_map, List.getElem?_range hlen]; rfl
    have h3 := List.mem_of_getElem? h2
    have h4 := List.flatten_eq_nil_iff.1 h0 _ h3
    rw [h4] at h1
    simp at h1
    omega
  · obtain ⟨hil, rfl⟩ := hget _ _ hc
    rw [List.getElem?_map, List.getElem?_range hil] at he
    cases he
    exact (CE' i hil).1
  · obtain ⟨i, hir, rfl⟩ := List.mem_map.1 hx
    exact ⟨_, (CE' i (by simpa using hir)).1⟩
end

section
variable [Inhabited BaseW] {H : Type} {enc : TypeId × Value → H} {W : World}
set_option maxRecDepth 100000 in
theorem trod_evs (hW : baseW = W) {n : Nat} {v : Value} {y : DataW H × List MemPlace} (h : DataW.trod enc Tryz.prog W 0 (fun _ => true) true n 36 [v] = some y) (hb : Szd 36 y.1) : ∃ es : List Ev, ReadO W IsEvI v es ∧ ∀ e ∈ es, I64 e.keep ∧ I64 e.torn := by
  rcases slice_fields Tryz.underlying36 Tryz.underlying108 one_ev cells_ev h with ⟨hcs, hx⟩ | ⟨a, len, cap, m, D, Pl, hcs, _, hl, hm, hmm, rfl, hi⟩
  · simp only [List.cons.injEq, and_true] at hcs
    subst hcs
    exact ⟨[], ⟨[], Row.nil _, fun h => (h rfl).elim, Each.nil _⟩, by simp⟩
  · simp only [List.cons.injEq, and_true] at hcs
    subst hcs
    simp only [if_true] at hmm
    subst hmm
    obtain ⟨hs1, hs2⟩ := szd_slice hb Tryz.underlying36
    have hlen := mul_ge hs1 bytes_ev
    have hr := reachBytes_lt
    simp only [List.length_map, List.length_range] at hlen
    obtain ⟨xs, h1, -, h2⟩ := readO_of (W := W) (a := a) (len := len) (p := fun c (e : Ev) => IsEvI c e ∧ I64 e.keep ∧ I64 e.torn) 7 (by omega) ([], ⟨0, 0, 0, 0, 0, [], []⟩) hl hm (by omega) (fun c x hx => hx.1.length.1) (fun i hil => by
      obtain ⟨ys, k, hD, -, hyl, hf⟩ := hi i (by omega)
      have hSi : Szd 108 (D i) := hs2 _ (List.mem_map.2 ⟨i, by simpa using hil, rfl⟩)
      obtain ⟨v0, y0, c0, e0, t0⟩ := hf 0 _ rfl
      obtain ⟨v1, y1, c1, e1, t1⟩ := hf 1 _ rfl
      obtain ⟨v2, y2, c2, e2, t2⟩ := hf 2 _ rfl
      obtain ⟨v3, y3, c3, e3, t3⟩ := hf 3 _ rfl
      obtain ⟨v4, y4, c4, e4, t4⟩ := hf 4 _ rfl
      obtain ⟨v5, y5, c5, e5, t5⟩ := hf 5 _ rfl
      obtain ⟨v6, y6, c6, e6, t6⟩ := hf 6 _ rfl
      obtain ⟨z0, rfl, i0⟩ := trod_i64 t0
      obtain ⟨z1, rfl, i1⟩ := trod_i64 t1
      obtain ⟨z2, rfl, i2⟩ := trod_i64 t2
      obtain ⟨z3, rfl, i3⟩ := trod_i64 t3
      obtain ⟨z4, rfl, i4⟩ := trod_i64 t4
      obtain ⟨pp, rfl⟩ := trod_s8 t5
      rw [hD] at hSi
      have hS6 := szd_agg (j := 6) hSi Tryz.underlying108 rfl (by rw [List.getElem?_map, e6]; rfl)
      obtain ⟨dl, hd⟩ := trod_bytes t6 hS6
      refine ⟨([.int .i64 z0, .int .i64 z1, .int .i64 z2, .int .i64 z3, .int .i64 z4, S8 pp, v6], ⟨z0, z1, z2, z3, z4, pp, dl⟩), ⟨⟨v6, rfl, oldB_of (by rw [hW]; exact hd)⟩, i3, i4⟩, fun j u hu => ?_⟩
      rcases j with _ | _ | _ | _ | _ | _ | _ | j
      · cases hu; exact c0
      · cases hu; exact c1
      · cases hu; exact c2
      · cases hu; exact c3
      · cases hu; exact c4
      · cases hu; exact c5
      · cases hu; exact c6
      · simp at hu)
    exact ⟨xs, h1.mono (fun c x hx => hx.1), fun e he => by obtain ⟨c, hc⟩ := h2 e he; exact hc.2⟩
end

end Go.Proofs.YtdhgmpibjneplaaGreatDoor

/-! What comes in: operations of marlaw13, texts, rows, by their fields. Conditions: what one slice may hold. -/
namespace Go.Proofs.YtdhgmpibjneplaaGreatDoor
open Go Go.ChangeShapes Go.WideShapes Go.ChangeAt Go.RowKit Go.Deep
set_option linter.unusedVariables false
set_option linter.unusedSimpArgs false
set_option linter.unusedSectionVars false

section
variable {H : Type} {enc : TypeId × Value → H} {P : Program} {w : World} {base : Nat} {spare : Nat → Bool} {held : Bool}
theorem slice_parts {t e : TypeId} {fs : Array Field} {fuel : Nat} {cs : List Value} {x : DataW H × List MemPlace} (ht : P.underlying t = some (.slice e)) (he : P.underlying e = some (.struct fs))
    (h : DataW.trod enc P w base spare held fuel t cs = some x) :
    (cs = [.slice none 0 0] ∧ x = (.nil, [])) ∨
    ∃ (a : Addr) (len cap m : Nat) (D : Nat → DataW H) (Pl : Nat → List MemPlace), cs = [.slice (some a) len cap] ∧ len ≤ cap ∧ cap ≤ maxLen ∧ m = (if spare a.block then cap else len) ∧
      x = (.slice ((List.range len).map D) ((List.range (m - len)).map fun j => D (len + j)), MemPlace.row a (m * P.cellsOf e) ++ (List.range m).flatMap Pl) ∧
      ∀ i, i < m → ∃ (ys : List (DataW H × List MemPlace)) (n : Nat) (cs' : List Value), D i = .agg (ys.map (·.1)) ∧ ys.length = fs.size ∧ cs'.length = P.cellsOf e ∧ (∀ j u, cs'[j]? = some u → w.cell? (a.add (i * P.cellsOf e + j)) = some u) ∧
        ∀ (j : Nat) (f : Field), fs[j]? = some f → ∃ y, ys[j]? = some y ∧ DataW.trod enc P w base spare held n f.type ((cs'.drop f.offset).take (P.cellsOf f.type)) = some y := by
  rcases open_slice ht h with h0 | ⟨a, len, cap, m, n, D, Pl, hcs, hb, hl, hm, hmm, hx, hi⟩
  · exact .inl h0
  · refine .inr ⟨a, len, cap, m, D, Pl, hcs, hl, hm, hmm, hx, fun i him => ?_⟩
    obtain ⟨cs', hc, ht'⟩ := hi i him
    obtain ⟨ys, n', hn', hy, hlen, hyl, hf⟩ := DataW.trod_struct he ht'
    obtain ⟨_, hcl, hat⟩ := World.cells?_some hc
    simp only [Prod.mk.injEq] at hy
    refine ⟨ys, n', cs', hy.1, hyl, hlen, fun j u hu => ?_, fun j f hj => ?_⟩
    · have hjl := (List.getElem?_eq_some_iff.1 hu).1
      rw [← Go.Deep.add_add, hat j (by omega)]
      exact hu
    · have hjl : j < fs.size := (Array.getElem?_eq_some_iff.1 hj).1
      have hys : ys[j]? = some (ys[j]'(by omega)) := List.getElem?_eq_getElem (by omega)
      exact ⟨_, hys, (hf j f hj).trans hys⟩
end
theorem cells_int : Tryz.prog.cellsOf 3 = 1 := by kernel_rfl
theorem cells_str : Tryz.prog.cellsOf 9 = 1 := by kernel_rfl
theorem bytes_str : 1 ≤ Tryz.prog.bytesOf 9 := of_decide_eq_true (by kernel_rfl)
theorem cells_sop : Tryz.prog.cellsOf 40 = 9 := by kernel_rfl
theorem bytes_sop : 1 ≤ Tryz.prog.bytesOf 40 := of_decide_eq_true (by kernel_rfl)
theorem list9 {α : Type} {l : List α} (h : l.length = 9) : ∃ x0 r, l = x0 :: r ∧ r.length = 8 := by
  match l, h with
  | x0 :: r, h => exact ⟨x0, r, rfl, by simpa using h⟩
theorem list8v {α : Type} {l : List α} (h : l.length = 8) : ∃ x0 x1 x2 x3 x4 x5 x6 x7, l = [x0, x1, x2, x3, x4, x5, x6, x7] := by
  match l, h with
  | [x0, x1, x2, x3, x4, x5, x6, x7], _ => exact ⟨x0, x1, x2, x3, x4, x5, x6, x7, rfl⟩

section
variable [Inhabited BaseW] {H : Type} {enc : TypeId × Value → H} {W : World}
set_option maxRecDepth 100000 in
/-- One operation of the file system, by its eight cells. -/
theorem trod_opn (hW : baseW = W) {n : Nat} {cs : List Value} {y : DataW H × List MemPlace} (h : DataW.trod enc Tryz.prog W 0 (fun _ => true) true n 38 cs = some y) (hcs : cs.length = 8) (hb : Szd 38 y.1) : ∃ o : Opn, IsOpn W cs o ∧ I64 o.keep ∧ I64 o.torn ∧ ∀ e ∈ o.plan, I64 e.keep ∧ I64 e.torn := by
  obtain ⟨ys, n', hn', hy, hlen, hyl, hf⟩ := DataW.trod_struct Tryz.underlying38 h
  obtain ⟨v0, v1, v2, v3, v4, v5, v6, v7, rfl⟩ := list8v hcs
  have hyl8 : ys.length = 8 := hyl
  obtain ⟨y0, y1, y2, y3, y4, y5, y6, y7, rfl⟩ := list8v hyl8
  have t0 : DataW.trod enc Tryz.prog W 0 (fun _ => true) true n' 3 (([v0, v1, v2, v3, v4, v5, v6, v7].drop 0).take (Tryz.prog.cellsOf 3)) = some y0 := hf 0 _ rfl
  have t1 : DataW.trod enc Tryz.prog W 0 (fun _ => true) true n' 3 (([v0, v1, v2, v3, v4, v5, v6, v7].drop 1).take (Tryz.prog.cellsOf 3)) = some y1 := hf 1 _ rfl
  have t2 : DataW.trod enc Tryz.prog W 0 (fun _ => true) true n' 3 (([v0, v1, v2, v3, v4, v5, v6, v7].drop 2).take (Tryz.prog.cellsOf 3)) = some y2 := hf 2 _ rfl
  have t3 : DataW.trod enc Tryz.prog W 0 (fun _ => true) true n' 3 (([v0, v1, v2, v3, v4, v5, v6, v7].drop 3).take (Tryz.prog.cellsOf 3)) = some y3 := hf 3 _ rfl
  have t4 : DataW.trod enc Tryz.prog W 0 (fun _ => true) true n' 9 (([v0, v1, v2, v3, v4, v5, v6, v7].drop 4).take (Tryz.prog.cellsOf 9)) = some y4 := hf 4 _ rfl
  have t5 : DataW.trod enc Tryz.prog W 0 (fun _ => true) true n' 9 (([v0, v1, v2, v3, v4, v5, v6, v7].drop 5).take (Tryz.prog.cellsOf 9)) = some y5 := hf 5 _ rfl
  have t6 : DataW.trod enc Tryz.prog W 0 (fun _ => true) true n' 35 (([v0, v1, v2, v3, v4, v5, v6, v7].drop 6).take (Tryz.prog.cellsOf 35)) = some y6 := hf 6 _ rfl
  have t7 : DataW.trod enc Tryz.prog W 0 (fun _ => true) true n' 36 (([v0, v1, v2, v3, v4, v5, v6, v7].drop 7).take (Tryz.prog.cellsOf 36)) = some y7 := hf 7 _ rfl
  have cb : Tryz.prog.cellsOf 35 = 1 := by kernel_rfl
  have ce : Tryz.prog.cellsOf 36 = 1 := by kernel_rfl
  rw [cells_int] at t0 t1 t2 t3
  rw [cells_str] at t4 t5
  rw [cb] at t6
  rw [ce] at t7
  obtain ⟨z0, rfl, i0⟩ := trod_i64 t0
  obtain ⟨z1, rfl, i1⟩ := trod_i64 t1
  obtain ⟨z2, rfl, i2⟩ := trod_i64 t2
  obtain ⟨z3, rfl, i3⟩ := trod_i64 t3
  obtain ⟨pp, rfl⟩ := trod_s8 t4
  obtain ⟨qq, rfl⟩ := trod_s8 t5
  subst hy
  have hS6 := szd_agg (j := 6) hb Tryz.underlying38 rfl rfl
  have hS7 := szd_agg (j := 7) hb Tryz.underlying38 rfl rfl
  obtain ⟨dl, hd⟩ := trod_bytes t6 hS6
  obtain ⟨es, he, hek⟩ := trod_evs hW t7 hS7
  exact ⟨⟨z0, z1, z2, z3, pp, qq, dl, es⟩, ⟨v6, v7, rfl, oldB_of (by rw [hW]; exact hd), he⟩, i2, i3, hek⟩
set_option maxRecDepth 100000 in
theorem trod_sops (hW : baseW = W) {n : Nat} {v : Value} {y : DataW H × List MemPlace} (h : DataW.trod enc Tryz.prog W 0 (fun _ => true) true n 22 [v] = some y) (hb : Szd 22 y.1) : ∃ os : List Sop, IsSops W v os ∧ ∀ o ∈ os, I64 o.f.keep ∧ I64 o.f.torn ∧ ∀ e ∈ o.f.plan, I64 e.keep ∧ I64 e.torn := by
  rcases slice_parts Tryz.underlying22 Tryz.underlying40 h with ⟨hcs, hx⟩ | ⟨a, len, cap, m, D, Pl, hcs, hl, hm, hmm, rfl, hi⟩
  · simp only [List.cons.injEq, and_true] at hcs
    subst hcs
    exact ⟨[], ⟨[], Row.nil _, fun h => (h rfl).elim, Each.nil _⟩, by simp⟩
  · simp only [List.cons.injEq, and_true] at hcs
    subst hcs
    simp only [if_true] at hmm
    subst hmm
    obtain ⟨hs1, hs2⟩ := szd_slice hb Tryz.underlying22
    have hlen := mul_ge hs1 bytes_sop
    have hr := reachBytes_lt
    simp only [List.length_map, List.length_range] at hlen
    obtain ⟨xs, h1, -, h2⟩ := readO_of (W := W) (a := a) (len := len) (p := fun c (o : Sop) => IsSop W c o ∧ I64 o.f.keep ∧ I64 o.f.torn ∧ ∀ e ∈ o.f.plan, I64 e.keep ∧ I64 e.torn) 9 (by omega) ([], ⟨0, ⟨0, 0, 0, 0, [], [], [], []⟩⟩) hl hm (by omega) (fun c x hx => hx.1.length) (fun i hil => by
      obtain ⟨ys, k, cs', hD, hyl, hcl, hat, hf⟩ := hi i (by omega)
      have hSi : Szd 40 (D i) := hs2 _ (List.mem_map.2 ⟨i, by simpa using hil, rfl⟩)
      rw [cells_sop] at hcl hat
      obtain ⟨x0, fr, rfl, hfr⟩ := list9 hcl
      obtain ⟨y0, e0, t0⟩ : ∃ y, ys[0]? = some y ∧ DataW.trod enc Tryz.prog W 0 (fun _ => true) true k 3 (((x0 :: fr).drop 0).take (Tryz.prog.cellsOf 3)) = some y := hf 0 _ rfl
      obtain ⟨y1, e1, t1⟩ : ∃ y, ys[1]? = some y ∧ DataW.trod enc Tryz.prog W 0 (fun _ => true) true k 38 (((x0 :: fr).drop 1).take (Tryz.prog.cellsOf 38)) = some y := hf 1 _ rfl
      rw [cells_int] at t0
      rw [cells_opn] at t1
      obtain ⟨z0, rfl, i0⟩ := trod_i64 t0
      rw [hD] at hSi
      have hS4 := szd_agg (j := 1) hSi Tryz.underlying40 rfl (by rw [List.getElem?_map, e1]; rfl)
      have hd4 : ((Value.int .i64 z0 :: fr).drop 1).take 8 = fr := List.take_of_length_le (by rw [List.drop_succ_cons, List.drop_zero]; omega)
      rw [hd4] at t1
      obtain ⟨o, hop, ho⟩ := trod_opn hW t1 hfr hS4
      exact ⟨(_, ⟨z0, o⟩), ⟨⟨fr, rfl, hop⟩, ho⟩, fun j u hu => hat j u hu⟩)
    exact ⟨xs, h1.mono (fun c x hx => hx.1), fun e he => by obtain ⟨c, hc⟩ := h2 e he; exact hc.2⟩
set_option maxRecDepth 100000 in
/-- An argument: operations of marlaw13. -/
theorem arg_sops (hW : baseW = W) {base : Nat} {v : Value} {d : DataW H} {p : List MemPlace} {ts : List TypeId} {ds : List (DataW H)} {j : Nat}
    (hval : Value.okWide Tryz.prog W .any base 22 v) (h : DataW.Trod enc Tryz.prog W 0 (fun _ => true) true 22 v d p)
    (hsz : (DataW.weightsEach Tryz.prog ts ds).all (· ≤ reachBytes) = true) (ht : ts[j]? = some 22) (hd : ds[j]? = some d) : ∃ os : List Sop, IsSops W v os ∧ ∀ o ∈ os, I64 o.f.keep ∧ I64 o.f.torn ∧ ∀ e ∈ o.f.plan, I64 e.keep ∧ I64 e.torn := by
  obtain ⟨a0, len, cap, rfl⟩ := okWide_slice Tryz.underlying22 hval
  obtain ⟨fuel, hf⟩ := h
  exact trod_sops hW (y := (d, p)) (by simpa [Value.cells] using hf) (szd_arg hsz ht hd)
end
section
variable {H : Type} {enc : TypeId × Value → H} {W : World}
set_option maxRecDepth 100000 in
theorem trod_strs {n : Nat} {v : Value} {y : DataW H × List MemPlace} (h : DataW.trod enc Tryz.prog W 0 (fun _ => true) true n 23 [v] = some y) (hb : Szd 23 y.1) : ∃ l : List B8, IsStrs W v l := by
  rcases open_slice1 Tryz.underlying23 cells_str h with ⟨hcs, hx⟩ | ⟨a, len, cap, m, n', V, D, Pl, hcs, _, hl, hm, hmm, rfl, hi⟩
  · simp only [List.cons.injEq, and_true] at hcs
    subst hcs
    exact ⟨[], Row.nil _⟩
  · simp only [List.cons.injEq, and_true] at hcs
    subst hcs
    simp only [if_true] at hmm
    subst hmm
    obtain ⟨hs1, hs2⟩ := szd_slice hb Tryz.underlying23
    have hlen := mul_ge hs1 bytes_str
    have hr := reachBytes_lt
    simp only [List.length_map, List.length_range] at hlen
    have key : ∀ i, ∃ b : B8, i < len → V i = S8 b := fun i => by
      by_cases hil : i < len
      · obtain ⟨b, hb⟩ := trod_s8 (hi i (by omega)).2
        exact ⟨b, fun _ => hb⟩
      · exact ⟨[], fun h => (hil h).elim⟩
    refine ⟨(List.range len).map fun i => (key i).choose, ?_⟩
    unfold IsStrs
    rw [List.length_map, List.length_range]
    refine row_of_cells hl hm (by omega) fun i u hu => ?_
    have hil := (List.getElem?_eq_some_iff.1 hu).1
    simp only [List.length_map, List.length_range] at hil
    rw [List.getElem?_map, List.getElem?_map, List.getElem?_range hil] at hu
    cases hu
    rw [← (key i).choose_spec hil]
    exact (hi i (by omega)).1
set_option maxRecDepth 100000 in
/-- An argument: texts. -/
theorem arg_strs {base : Nat} {v : Value} {d : DataW H} {p : List MemPlace} {ts : List TypeId} {ds : List (DataW H)} {j : Nat}
    (hval : Value.okWide Tryz.prog W .any base 23 v) (h : DataW.Trod enc Tryz.prog W 0 (fun _ => true) true 23 v d p)
    (hsz : (DataW.weightsEach Tryz.prog ts ds).all (· ≤ reachBytes) = true) (ht : ts[j]? = some 23) (hd : ds[j]? = some d) : ∃ l : List B8, IsStrs W v l := by
  obtain ⟨a0, len, cap, rfl⟩ := okWide_slice Tryz.underlying23 hval
  obtain ⟨fuel, hf⟩ := h
  exact trod_strs (y := (d, p)) (by simpa [Value.cells] using hf) (szd_arg hsz ht hd)
end

end Go.Proofs.YtdhgmpibjneplaaGreatDoor

/-! The roots of the primes, as a row lays them. Conditions: what the row lists. -/
namespace Go.Proofs.YtdhgmpibjneplaaGreatDoor
open Go Go.ChangeShapes Go.WideShapes Go.ChangeAt Go.RowKit Go.Deep

def tabH : List Int := shaH.map fun x => (x.toNat : Int)
def tabK : List Int := shaK.map fun x => (x.toNat : Int)
theorem tab_h : Rows.laid_marline_sha_squares = (Lib.tabData .u32 tabH : DataW Unit) := by kernel_rfl
theorem tab_k : Rows.laid_marline_sha_cubes = (Lib.tabData .u32 tabK : DataW Unit) := by kernel_rfl
theorem block_of {W : World} {name : String} {zs : List Int} {g : Nat} {zero : Array Value} {t : TypeId} (hS : W.ShapedOpen Tryz.prog) (h : Lib.TabIs Tryz.prog W name .u32 zs) (hg : Tryz.prog.globalNamed name = some g) (hlt : g < Tryz.prog.globals.size)
    (h0 : ((begin Tryz.prog (fun _ _ => 0) default).world.heap[g]?).bind Obj.row? = some (zero, t)) : W.heap[g]? = some (.cells (zs.map fun z => Value.int .u32 z).toArray t (0, 0)) := by
  obtain ⟨cs, hh, -, -⟩ := hS.1 g zero t hlt h0
  unfold Lib.TabIs World.var? at h
  rw [hg] at h
  simp only [Option.bind_some, hh, Option.some.injEq] at h
  rw [hh, h]
theorem envS_of {W : World} {x : String × DataW Unit} {rest : List (String × DataW Unit)}
    (hL : laidMet Tryz.prog (x :: ("marline/sha.cubes", Rows.laid_marline_sha_cubes) :: ("marline/sha.squares", Rows.laid_marline_sha_squares) :: rest) W) (hS : W.ShapedOpen Tryz.prog) : EnvS W := by
  have hK := laidMet.tail hL
  have hH := laidMet.tail hK
  rw [tab_k] at hK
  rw [tab_h] at hH
  have tk := Lib.tabIs_of_head (g := 2) (by kernel_rfl) (by kernel_rfl) Tryz.underlying234 Tryz.underlying205 (by kernel_rfl) (by kernel_rfl) hK
  have th := Lib.tabIs_of_head (g := 1) (by kernel_rfl) (by kernel_rfl) Tryz.underlying233 Tryz.underlying205 (by kernel_rfl) (by kernel_rfl) hH
  have bk := block_of (g := 2) (zero := (List.replicate 64 (.int .u32 0)).toArray) (t := 234) hS tk (by kernel_rfl) (of_decide_eq_true (by kernel_rfl)) (by kernel_rfl)
  have bh := block_of (g := 1) (zero := (List.replicate 8 (.int .u32 0)).toArray) (t := 233) hS th (by kernel_rfl) (of_decide_eq_true (by kernel_rfl)) (by kernel_rfl)
  have ek : (tabK.map fun z => Value.int .u32 z) = shaK.map U32 := by unfold tabK; rw [List.map_map]; rfl
  have eh : (tabH.map fun z => Value.int .u32 z) = shaH.map U32 := by unfold tabH; rw [List.map_map]; rfl
  rw [ek] at bk
  rw [eh] at bh
  exact ⟨⟨_, bh⟩, ⟨_, bk⟩⟩

end Go.Proofs.YtdhgmpibjneplaaGreatDoor
