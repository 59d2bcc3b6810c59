/- The roots of the primes, as a row lays them. Conditions: what the row lists. -/
import Derived.Test.YtfgdmlmfgnhpaaaGreatDoorZam
import Derived.Test.YtfgdmlmfgnhpaaaGreatDoorZaf
import Derived.Test.YtfgdmlmfgnhpaaaGreatDoorZah
import Derived.Lib.LaidTab
import Derived.Stop.LaidErr

set_option linter.unusedVariables false
set_option linter.unusedSimpArgs false
set_option linter.unusedSectionVars false

/-! What comes in: operations of marlaw13, texts, rows, by their fields. Conditions: what one slice may hold. -/
namespace Go.Proofs.YtfgdmlmfgnhpaaaGreatDoor
open Go Go.ChangeShapes Go.WideShapes Go.ChangeAt Go.RowKit Go.Deep
set_option linter.unusedVariables false
set_option linter.unusedSimpArgs false
set_option linter.unusedSectionVars false

section
variable {H : Type} {enc : TypeId × Value → H} {P : Program} {w : World} {base : Nat} {spare : Nat → Bool} {held : Bool}
theorem slice_parts {t e : TypeId} {fs : Array Field} {fuel : Nat} {cs : List Value} {x : DataW H × List MemPlace} (ht : P.underlying t = some (.slice e)) (he : P.underlying e = some (.struct fs))
    (h : DataW.trod enc P w base spare held fuel t cs = some x) :
    (cs = [.slice none 0 0] ∧ x = (.nil, [])) ∨
    ∃ (a : Addr) (len cap m : Nat) (D : Nat → DataW H) (Pl : Nat → List MemPlace), cs = [.slice (some a) len cap] ∧ len ≤ cap ∧ cap ≤ maxLen ∧ m = (if spare a.block then cap else len) ∧
      x = (.slice ((List.range len).map D) ((List.range (m - len)).map fun j => D (len + j)), MemPlace.row a (m * P.cellsOf e) ++ (List.range m).flatMap Pl) ∧
      ∀ i, i < m → ∃ (ys : List (DataW H × List MemPlace)) (n : Nat) (cs' : List Value), D i = .agg (ys.map (·.1)) ∧ ys.length = fs.size ∧ cs'.length = P.cellsOf e ∧ (∀ j u, cs'[j]? = some u → w.cell? (a.add (i * P.cellsOf e + j)) = some u) ∧
        ∀ (j : Nat) (f : Field), fs[j]? = some f → ∃ y, ys[j]? = some y ∧ DataW.trod enc P w base spare held n f.type ((cs'.drop f.offset).take (P.cellsOf f.type)) = some y := by
  rcases open_slice ht h with h0 | ⟨a, len, cap, m, n, D, Pl, hcs, hb, hl, hm, hmm, hx, hi⟩
  · exact .inl h0
  · refine .inr ⟨a, len, cap, m, D, Pl, hcs, hl, hm, hmm, hx, fun i him => ?_⟩
    obtain ⟨cs', hc, ht'⟩ := hi i him
    obtain ⟨ys, n', hn', hy, hlen, hyl, hf⟩ := DataW.trod_struct he ht'
    obtain ⟨_, hcl, hat⟩ := World.cells?_some hc
    simp only [Prod.mk.injEq] at hy
    refine ⟨ys, n', cs', hy.1, hyl, hlen, fun j u hu => ?_, fun j f hj => ?_⟩
    · have hjl := (List.getElem?_eq_some_iff.1 hu).1
      rw [← Go.Deep.add_add, hat j (by omega)]
      exact hu
    · have hjl : j < fs.size := (Array.getElem?_eq_some_iff.1 hj).1
      have hys : ys[j]? = some (ys[j]'(by omega)) := List.getElem?_eq_getElem (by omega)
      exact ⟨_, hys, (hf j f hj).trans hys⟩
end
theorem cells_int : Tryz.prog.cellsOf 3 = 1 := by kernel_rfl
theorem cells_str : Tryz.prog.cellsOf 9 = 1 := by kernel_rfl
theorem list3v {α : Type} {l : List α} (h : l.length = 3) : ∃ x0 x1 x2, l = [x0, x1, x2] := by
  match l, h with
  | [x0, x1, x2], _ => exact ⟨x0, x1, x2, rfl⟩
theorem list2v {α : Type} {l : List α} (h : l.length = 2) : ∃ x0 x1, l = [x0, x1] := by
  match l, h with
  | [x0, x1], _ => exact ⟨x0, x1, rfl⟩
theorem cells_rw : Tryz.prog.cellsOf 85 = 3 := by kernel_rfl
theorem bytes_rw : 1 ≤ Tryz.prog.bytesOf 85 := of_decide_eq_true (by kernel_rfl)
theorem cells_ent : Tryz.prog.cellsOf 83 = 2 := by kernel_rfl
section
variable [Inhabited BaseW] {H : Type} {enc : TypeId × Value → H} {W : World}
end
section
variable {H : Type} {enc : TypeId × Value → H} {W : World}
set_option maxRecDepth 100000 in
theorem trod_rows {n : Nat} {v : Value} {y : DataW H × List MemPlace} (h : DataW.trod enc Tryz.prog W 0 (fun _ => true) true n 51 [v] = some y) (hb : Szd 51 y.1) : ∃ l : List Rw, IsRws W v l ∧ ∀ r ∈ l, I64 r.mode := by
  rcases slice_parts Tryz.underlying51 Tryz.underlying85 h with ⟨hcs, hx⟩ | ⟨a, len, cap, m, D, Pl, hcs, hl, hm, hmm, rfl, hi⟩
  · simp only [List.cons.injEq, and_true] at hcs
    subst hcs
    exact ⟨[], Row.nil _, by simp⟩
  · simp only [List.cons.injEq, and_true] at hcs
    subst hcs
    simp only [if_true] at hmm
    subst hmm
    obtain ⟨hs1, hs2⟩ := szd_slice hb Tryz.underlying51
    have hlen := mul_ge hs1 bytes_rw
    have hr := reachBytes_lt
    simp only [List.length_map, List.length_range] at hlen
    obtain ⟨xs, h1, -, h2⟩ := readO_of (W := W) (a := a) (len := len) (p := fun c (o : Rw) => c = rwC o ∧ I64 o.mode) 3 (by omega) ([], ⟨[], 0, []⟩) hl hm (by omega) (fun c x hx => by rw [hx.1]; rfl) (fun i hil => by
      obtain ⟨ys, k, cs', hD, hyl, hcl, hat, hf⟩ := hi i (by omega)
      rw [cells_rw] at hcl hat
      obtain ⟨x0, x1, x2, rfl⟩ := list3v hcl
      obtain ⟨y0, e0, t0⟩ : ∃ y, ys[0]? = some y ∧ DataW.trod enc Tryz.prog W 0 (fun _ => true) true k 9 (([x0, x1, x2].drop 0).take (Tryz.prog.cellsOf 9)) = some y := hf 0 _ rfl
      obtain ⟨y1, e1, t1⟩ : ∃ y, ys[1]? = some y ∧ DataW.trod enc Tryz.prog W 0 (fun _ => true) true k 83 (([x0, x1, x2].drop 1).take (Tryz.prog.cellsOf 83)) = some y := hf 1 _ rfl
      rw [cells_str] at t0
      rw [cells_ent] at t1
      have t1 : DataW.trod enc Tryz.prog W 0 (fun _ => true) true k 83 [x1, x2] = some y1 := t1
      obtain ⟨zs, k', hk', hy, hlen', hzl, hg⟩ := DataW.trod_struct Tryz.underlying83 t1
      have hzl2 : zs.length = 2 := hzl
      obtain ⟨z0, z1, rfl⟩ := list2v hzl2
      have s0 : DataW.trod enc Tryz.prog W 0 (fun _ => true) true k' 3 (([x1, x2].drop 0).take (Tryz.prog.cellsOf 3)) = some z0 := hg 0 _ rfl
      have s1 : DataW.trod enc Tryz.prog W 0 (fun _ => true) true k' 9 (([x1, x2].drop 1).take (Tryz.prog.cellsOf 9)) = some z1 := hg 1 _ rfl
      rw [cells_int] at s0
      rw [cells_str] at s1
      obtain ⟨pp, rfl⟩ := trod_s8 t0
      obtain ⟨mm, rfl, i0⟩ := trod_i64 s0
      obtain ⟨qq, rfl⟩ := trod_s8 s1
      exact ⟨(_, ⟨pp, mm, qq⟩), ⟨rfl, i0⟩, fun j u hu => hat j u hu⟩)
    obtain ⟨css, hrow, -, heach⟩ := h1
    have hcs : ∀ (css : List (List Value)) (L : List Rw), Each (fun c (o : Rw) => c = rwC o ∧ I64 o.mode) css L → css.flatten = L.flatMap rwC := by
      intro css L hE
      have h9 : css = L.map rwC := by
        obtain ⟨hEl, hEa⟩ := hE
        apply List.ext_getElem (by rw [List.length_map]; exact hEl)
        intro k h1 h2
        rw [List.length_map] at h2
        rw [List.getElem_map]
        exact (hEa k _ _ (List.getElem?_eq_getElem h1) (List.getElem?_eq_getElem h2)).1
      rw [h9, List.flatMap_def]
    refine ⟨xs, ?_, fun e he => by obtain ⟨c, hc⟩ := h2 e he; exact hc.2⟩
    rw [hcs css xs heach] at hrow
    exact hrow
set_option maxRecDepth 100000 in
/-- An argument: rows. -/
theorem arg_rows {base : Nat} {v : Value} {d : DataW H} {p : List MemPlace} {ts : List TypeId} {ds : List (DataW H)} {j : Nat}
    (hval : Value.okWide Tryz.prog W .any base 51 v) (h : DataW.Trod enc Tryz.prog W 0 (fun _ => true) true 51 v d p)
    (hsz : (DataW.weightsEach Tryz.prog ts ds).all (· ≤ reachBytes) = true) (ht : ts[j]? = some 51) (hd : ds[j]? = some d) : ∃ l : List Rw, IsRws W v l ∧ ∀ r ∈ l, I64 r.mode := by
  obtain ⟨a0, len, cap, rfl⟩ := okWide_slice Tryz.underlying51 hval
  obtain ⟨fuel, hf⟩ := h
  exact trod_rows (y := (d, p)) (by simpa [Value.cells] using hf) (szd_arg hsz ht hd)
end

end Go.Proofs.YtfgdmlmfgnhpaaaGreatDoor

/-! The roots of the primes, as a row lays them. Conditions: what the row lists. -/
namespace Go.Proofs.YtfgdmlmfgnhpaaaGreatDoor
open Go Go.ChangeShapes Go.WideShapes Go.ChangeAt Go.RowKit Go.Deep

def tabH : List Int := shaH.map fun x => (x.toNat : Int)
def tabK : List Int := shaK.map fun x => (x.toNat : Int)
theorem tab_h : Rows.laid_marline_sha_squares = (Lib.tabData .u32 tabH : DataW Unit) := by kernel_rfl
theorem tab_k : Rows.laid_marline_sha_cubes = (Lib.tabData .u32 tabK : DataW Unit) := by kernel_rfl
theorem block_of {W : World} {name : String} {zs : List Int} {g : Nat} {zero : Array Value} {t : TypeId} (hS : W.ShapedOpen Tryz.prog) (h : Lib.TabIs Tryz.prog W name .u32 zs) (hg : Tryz.prog.globalNamed name = some g) (hlt : g < Tryz.prog.globals.size)
    (h0 : ((begin Tryz.prog (fun _ _ => 0) default).world.heap[g]?).bind Obj.row? = some (zero, t)) : W.heap[g]? = some (.cells (zs.map fun z => Value.int .u32 z).toArray t (0, 0)) := by
  obtain ⟨cs, hh, -, -⟩ := hS.1 g zero t hlt h0
  unfold Lib.TabIs World.var? at h
  rw [hg] at h
  simp only [Option.bind_some, hh, Option.some.injEq] at h
  rw [hh, h]
theorem envS_of {W : World} {x : String × DataW Unit} {rest : List (String × DataW Unit)}
    (hL : laidMet Tryz.prog (x :: ("marline/sha.cubes", Rows.laid_marline_sha_cubes) :: ("marline/sha.squares", Rows.laid_marline_sha_squares) :: rest) W) (hS : W.ShapedOpen Tryz.prog) : EnvS W := by
  have hK := laidMet.tail hL
  have hH := laidMet.tail hK
  rw [tab_k] at hK
  rw [tab_h] at hH
  have tk := Lib.tabIs_of_head (g := 1) (by kernel_rfl) (by kernel_rfl) Tryz.underlying281 Tryz.underlying252 (by kernel_rfl) (by kernel_rfl) hK
  have th := Lib.tabIs_of_head (g := 0) (by kernel_rfl) (by kernel_rfl) Tryz.underlying280 Tryz.underlying252 (by kernel_rfl) (by kernel_rfl) hH
  have bk := block_of (g := 1) (zero := (List.replicate 64 (.int .u32 0)).toArray) (t := 281) hS tk (by kernel_rfl) (of_decide_eq_true (by kernel_rfl)) (by kernel_rfl)
  have bh := block_of (g := 0) (zero := (List.replicate 8 (.int .u32 0)).toArray) (t := 280) hS th (by kernel_rfl) (of_decide_eq_true (by kernel_rfl)) (by kernel_rfl)
  have ek : (tabK.map fun z => Value.int .u32 z) = shaK.map U32 := by unfold tabK; rw [List.map_map]; rfl
  have eh : (tabH.map fun z => Value.int .u32 z) = shaH.map U32 := by unfold tabH; rw [List.map_map]; rfl
  rw [ek] at bk
  rw [eh] at bh
  exact ⟨⟨_, bh⟩, ⟨_, bk⟩⟩

end Go.Proofs.YtfgdmlmfgnhpaaaGreatDoor
