/- sha.New, Sum, ID. Conditions: at most 100000 bytes; the roots of the primes as laid. -/
import Derived.Test.YtfgdmlmfgnhpaaaGreatDoorZag
import Derived.Deep.QuietTactic
import Derived.BigQuiet
import Derived.Deep.MidRow
import Derived.Test.YtfgdmlmfgnhpaaaGreatDoorZaf
import Derived.Defers
import Derived.Laws.Pointers
import Derived.Laws.LoneSync
import Derived.RegionCalls
import Derived.ChangeAlike
import Derived.Laws.NewBlocks

set_option linter.unusedVariables false
set_option linter.unusedSimpArgs false

/-! sha.schedule: a block's words, spread over the rounds. Conditions: a block of 64 bytes. -/
namespace Go.Proofs.YtfgdmlmfgnhpaaaGreatDoor
open Go Go.RowKit

/-- A block of n cells that hold words. -/
def wordsC (l : List UInt32) (n : Nat) : Array Value := ((l ++ List.replicate (n - l.length) 0).map U32).toArray
theorem wordsC_size {l : List UInt32} {n : Nat} (h : l.length ≤ n) : (wordsC l n).size = n := by
  unfold wordsC
  simp
  omega
theorem wordsC_get {l : List UInt32} {n i : Nat} (h : i < l.length) : (wordsC l n)[i]? = some (U32 (l.getD i 0)) := by
  unfold wordsC
  simp [List.getElem?_append, h, List.getD_eq_getElem?_getD]
theorem wordsC_put {l : List UInt32} {n : Nat} (x : UInt32) (h : l.length < n) : wordsC (l ++ [x]) n = ((wordsC l n).toList.take l.length ++ [U32 x] ++ (wordsC l n).toList.drop (l.length + 1)).toArray := by
  unfold wordsC
  apply Array.ext'
  simp only [List.toList_toArray, List.map_append, List.map_cons, List.map_nil]
  rw [List.take_left' (by simp), show n - l.length = (n - (l ++ [x]).length) + 1 by simp; omega, List.replicate_succ, List.map_cons, List.append_assoc, List.append_assoc]
  congr 1
  rw [List.drop_append, List.length_map, show l.length + 1 - l.length = 1 by omega, List.drop_eq_nil_of_le (by simp)]
  simp
theorem wordsC_full {l : List UInt32} {n : Nat} (h : l.length = n) : wordsC l n = (l.map U32).toArray := by
  unfold wordsC
  rw [show n - l.length = 0 by omega]
  simp
theorem words_cell {w : World} {g : Nat} {l : List UInt32} {n i : Nat} {t : TypeId} {fr : Nat × Nat} (hg : w.heap[g]? = some (.cells (wordsC l n) t fr)) (h : i < l.length) : w.cell? ⟨g, i, none⟩ = some (U32 (l.getD i 0)) :=
  (cell_of_row w g i _ _ _ hg).trans (wordsC_get h)
theorem info_u32 : (Tryz.prog.info? 252).map (·.size) = some 1 := by kernel_rfl
theorem conv_u32 (y : UInt8) : Value.int .u32 (IntKind.u32.wrap (y.toNat : Int)) = U32 y.toUInt32 := by
  have := y.toNat_lt
  rw [wrap_u32 _ (by omega)]
  simp [U32]
theorem shl24 (x : UInt32) : Value.int .u32 (IntKind.u32.wrap ((x.toNat : Int) * 16777216)) = U32 (x <<< 24) := by
  have h := shl32 x 24 (by decide)
  have e : IntKind.u32.wrap ((x.toNat : Int) * 16777216) = ((x.toNat : Int) * 16777216) % 4294967296 := by rw [IntKind.wrap_u32]
  rw [e]
  exact congrArg _ h
theorem shl16 (x : UInt32) : Value.int .u32 (IntKind.u32.wrap ((x.toNat : Int) * 65536)) = U32 (x <<< 16) := by
  have h := shl32 x 16 (by decide)
  have e : IntKind.u32.wrap ((x.toNat : Int) * 65536) = ((x.toNat : Int) * 65536) % 4294967296 := by rw [IntKind.wrap_u32]
  rw [e]
  exact congrArg _ h
theorem shl8 (x : UInt32) : Value.int .u32 (IntKind.u32.wrap ((x.toNat : Int) * 256)) = U32 (x <<< 8) := by
  have h := shl32 x 8 (by decide)
  have e : IntKind.u32.wrap ((x.toNat : Int) * 256) = ((x.toNat : Int) * 256) % 4294967296 := by rw [IntKind.wrap_u32]
  rw [e]
  exact congrArg _ h
theorem or_u32 (x y : UInt32) : Value.int .u32 (bits .or .u32 (x.toNat : Int) (y.toNat : Int)) = U32 (x ||| y) := congrArg _ (bits_or32 x y)
theorem add_u32 (x y : UInt32) : Value.int .u32 (((x.toNat : Int) + (y.toNat : Int)) % 4294967296) = U32 (x + y) := congrArg _ (add32 x y)
theorem sched_snoc (b : B8) (k : Nat) : wSched b (k + 1) = wSched b k ++ [if k < 16 then be4 b k else wNext (wSched b k) k] := rfl

section
variable {ops : Array Oper} {rest : List Oper} {o : Oper} {a : Act} {Q : Exit → Act → World → Prop} {w : World}
/-- A store of all cells of a block known whole. -/
theorem store_all (hgd : o.guard = none) (ty : TypeId) (x y : Operand) (ho : o.op = .store ty x y) (g j : Nat) (hx : a.eval x = .pointer (some ⟨g, j, none⟩)) (vs : Array Value) (hy : a.eval y = .agg vs) (h1 : ∀ v ∈ vs.toList, v.oneCell' = true)
    (t : TypeId) (cur : Array Value) (hg : w.heap[g]? = some (.cells cur t (0, 0))) (hj : j + vs.size ≤ cur.size) (hi : (Tryz.prog.info? ty).map (·.size) = some vs.size) (new : Array Value) (hnew : new = (cur.toList.take j ++ vs.toList ++ cur.toList.drop (j + vs.size)).toArray)
    (h : ∀ w', w'.heap[g]? = some (.cells new t (0, 0)) → w.grownBy w' (some g) → wpList Tryz.prog ops Q rest (a.put o.dst undef) w') : wpList Tryz.prog ops Q (o :: rest) a w :=
  wpList_plain hgd fun _ hK => by
    have hs := run_storeCells_at (P := Tryz.prog) g j t vs.toList 0 cur w hg (by simpa using hj) h1
    have hr : (storeVar ty ⟨g, j, none⟩ (.agg vs)).run Tryz.prog w = .ok () (w.setRow g new) := by
      cases hq : Tryz.prog.info? ty with
      | none => simp [hq] at hi
      | some i =>
        have hs1 : i.size = vs.size := by simpa [hq] using hi
        simp only [Nat.add_zero, Array.length_toList] at hs
        rw [hnew]
        simp [storeVar, sizeOf, typeInfo, hq, Value.cells, hs1, hs]
    unfold Oper.wp execOp
    simp only [ho, hx, hy, Instr.storeAt, Instr.sureAddr, Sem.run_bind, Sem.run_pure, Result.andThen_ok, hr]
    exact hK _ _ (h _ (setRow_heap _ _ _ _ _ _ hg) (setRow_grown _ _ _))
end
theorem size_a64 : (Tryz.prog.info? 281).map (·.size) = some 64 := by kernel_rfl
theorem size_a8 : (Tryz.prog.info? 280).map (·.size) = some 8 := by kernel_rfl
theorem u32s_one (l : List UInt32) : ∀ v ∈ (l.map U32).toArray.toList, v.oneCell' = true := by
  intro v hv
  obtain ⟨x, -, rfl⟩ := List.mem_map.1 (by simpa using hv)
  rfl
theorem addw_u32 (x y : UInt32) : Value.int .u32 (IntKind.u32.wrap ((x.toNat : Int) + (y.toNat : Int))) = U32 (x + y) := by
  rw [IntKind.wrap_u32]
  exact add_u32 x y
/-- What the loop holds. -/
structure Sch (w wr : World) (b : B8) (k : Nat) : Prop where
  ext : Ext w wr
  now : wr.heap[w.heap.size + 1]? = some (.cells (wordsC (wSched b k) 64) 281 (0, 0))
  res : wr.heap[w.heap.size]? = some (.cells (wordsC [] 64) 281 (0, 0))
theorem Sch.more {w wr w2 : World} {b : B8} {k : Nat} (h : Sch w wr b k) (hx : Ext wr w2) : Sch w w2 b k := ⟨h.ext.trans hx, Ext.row hx h.now, Ext.row hx h.res⟩
theorem Sch.put {w wr w2 : World} {b : B8} {k : Nat} (h : Sch w wr b k) (hg : w2.heap[w.heap.size + 1]? = some (.cells (wordsC (wSched b (k + 1)) 64) 281 (0, 0))) (hgr : wr.grownBy w2 (some (w.heap.size + 1))) : Sch w w2 b (k + 1) :=
  ⟨Below.grown h.ext hgr h.ext.size (fun j hj => by cases hj; omega), hg, (hgr.block _ (Array.getElem?_eq_some_iff.1 h.res).1 (by simp)).trans h.res⟩

set_option maxRecDepth 100000 in
set_option maxHeartbeats 4000000 in
theorem schedule_any (v : Value) (b : B8) (w : World) (hv : IsBytes w v b) (hb : b.length = 64) :
    Calls Tryz.prog 283 #[v] w fun e w' => e = .returned (.agg ((wSched b 64).map U32).toArray) ∧ Ext w w' := by
  obtain ⟨a, cap, rfl, h1, h2, h3, h4⟩ := hv.get
  have H4 : Hid _ := h4
  have H64 : Hid _ := hb
  clear h4 hv hb
  go_enter Tryz.func283, Tryz.ntmps283
  go_wp2_with fail
  go_loopw [9] (fun i wr => ∃ k : Nat, k ≤ 64 ∧ i = .int .i64 k ∧ Sch w wr b k) (fun i _ => 64 - (intOf i).toNat)
  case atStart => exact ⟨0, by omega, rfl, ((Ext.refl _).alloc _).alloc _, by have h9 := alloc_at1 w (.cells (wordsC [] 64) 281) (.cells (wordsC [] 64) 281); exact h9, by have h9 := Ext.row ((Ext.refl _).alloc (.cells (wordsC [] 64) 281)) (alloc_at w (.cells (wordsC [] 64) 281)); exact h9⟩
  case round =>
    obtain ⟨k, hk, rfl, hS⟩ := hrel
    have HS : Hid _ := hS
    have hsl := sched_len b k
    clear hS
    by_cases hlt : k < 16
    · obtain ⟨bb, oo, rfl, hc⟩ := H4.out (4 * k) (by have := H64.out; omega)
      have hx := HS.out.ext
      have d0 := hx.cell (hc (4 * k) (by have := H64.out; omega))
      have d1 := hx.cell (hc (4 * k + 1) (by have := H64.out; omega))
      have d2 := hx.cell (hc (4 * k + 2) (by have := H64.out; omega))
      have d3 := hx.cell (hc (4 * k + 3) (by have := H64.out; omega))
      obtain ⟨y0, hy0⟩ : ∃ y, b.getD (4 * k) 0 = y := ⟨_, rfl⟩
      obtain ⟨y1, hy1⟩ : ∃ y, b.getD (4 * k + 1) 0 = y := ⟨_, rfl⟩
      obtain ⟨y2, hy2⟩ : ∃ y, b.getD (4 * k + 2) 0 = y := ⟨_, rfl⟩
      obtain ⟨y3, hy3⟩ : ∃ y, b.getD (4 * k + 3) 0 = y := ⟨_, rfl⟩
      rw [hy0] at d0
      rw [hy1] at d1
      rw [hy2] at d2
      rw [hy3] at d3
      have HSN : Hid (wSched b (k + 1) = wSched b k ++ [(((y0.toUInt32 <<< 24) ||| (y1.toUInt32 <<< 16)) ||| (y2.toUInt32 <<< 8)) ||| y3.toUInt32]) := by
        unfold Hid
        rw [sched_snoc, if_pos hlt]
        unfold be4
        rw [hy0, hy1, hy2, hy3]
      clear hy0 hy1 hy2 hy3 hc hx
      obtain ⟨x0, hx0⟩ : ∃ x, y0.toUInt32 = x := ⟨_, rfl⟩
      obtain ⟨x1, hx1⟩ : ∃ x, y1.toUInt32 = x := ⟨_, rfl⟩
      obtain ⟨x2, hx2⟩ : ∃ x, y2.toUInt32 = x := ⟨_, rfl⟩
      obtain ⟨x3, hx3⟩ : ∃ x, y3.toUInt32 = x := ⟨_, rfl⟩
      rw [hx0, hx1, hx2, hx3] at HSN
      have HX0 : Hid _ := hx0
      have HX1 : Hid _ := hx1
      have HX2 : Hid _ := hx2
      have HX3 : Hid _ := hx3
      clear hx0 hx1 hx2 hx3
      have n0 : 4 * (k : Int) < (b.length : Int) := by have := H64.out; omega
      have n1 : 4 * (k : Int) + 1 < (b.length : Int) := by have := H64.out; omega
      have n2 : 4 * (k : Int) + 2 < (b.length : Int) := by have := H64.out; omega
      have n3 : 4 * (k : Int) + 3 < (b.length : Int) := by have := H64.out; omega
      have W0 : Hid (IntKind.i64.wrap (4 * (k : Int)) = 4 * (k : Int) ∧ (4 * (k : Int)).toNat = 4 * k) := ⟨IntWalk.i64_in _ (by omega), by omega⟩
      have W1 : Hid (IntKind.i64.wrap (4 * (k : Int) + 1) = 4 * (k : Int) + 1 ∧ (4 * (k : Int) + 1).toNat = 4 * k + 1) := ⟨IntWalk.i64_in _ (by omega), by omega⟩
      have W2 : Hid (IntKind.i64.wrap (4 * (k : Int) + 2) = 4 * (k : Int) + 2 ∧ (4 * (k : Int) + 2).toNat = 4 * k + 2) := ⟨IntWalk.i64_in _ (by omega), by omega⟩
      have W3 : Hid (IntKind.i64.wrap (4 * (k : Int) + 3) = 4 * (k : Int) + 3 ∧ (4 * (k : Int) + 3).toNat = 4 * k + 3) := ⟨IntWalk.i64_in _ (by omega), by omega⟩
      go_wp2_with fail
      apply wp_region_mix 35 [_, _, _, _, .pointer (some ⟨bb, oo + 4 * k, none⟩), .int .u8 y0.toNat, U32 x0, U32 (x0 <<< 24), _, _, _, _, .pointer (some ⟨bb, oo + (4 * k + 1), none⟩), .int .u8 y1.toNat, U32 x1, U32 (x1 <<< 16), U32 ((x0 <<< 24) ||| (x1 <<< 16)), _, _, _, _, .pointer (some ⟨bb, oo + (4 * k + 2), none⟩), .int .u8 y2.toNat, U32 x2, U32 (x2 <<< 8), U32 (((x0 <<< 24) ||| (x1 <<< 16)) ||| (x2 <<< 8)), _, _, _, _, .pointer (some ⟨bb, oo + (4 * k + 3), none⟩), .int .u8 y3.toNat, U32 x3, U32 ((((x0 <<< 24) ||| (x1 <<< 16)) ||| (x2 <<< 8)) ||| x3), .pointer (some ⟨w.heap.size + 1, k, none⟩)] [none, none, none, none, none, none, none, none, none, none, none, none, none, none, none, none, none, none, none, none, none, none, none, none, none, none, none, none, none, none, none, none, none, none, none] [[], [], [], [2], [1, 3], [4], [5], [6], [], [], [9], [10], [8, 11], [12], [13], [14], [7, 15], [], [], [18], [19], [17, 20], [21], [22], [23], [16, 24], [], [], [27], [28], [26, 29], [30], [31], [25, 32], [0]] (by kernel_rfl) (by kernel_rfl) (by simp [mixV])
      · trivial
      · simp (maxSteps := 1000000) only [List.take_succ_cons, List.take_zero, oblFrom, stepObl, fillFrom, Act.put, List.setIfInBounds_toArray, List.set_cons_zero, List.set_cons_succ, knows, getV, mixV, List.getD_cons_zero, List.getD_cons_succ, and_true, true_and, forall_const]
        refine ⟨?_, ?_, ?_, ?_, ?_, ?_, ?_, ?_, ?_, ?_, ?_, ?_, ?_, ?_, ?_, ?_, ?_, ?_, ?_, ?_, ?_, ?_, ?_, ?_, ?_, ?_, ?_, ?_, ?_, ?_, ?_, ?_, ?_, ?_, ?_⟩
        · intro xs wq hq R hR
          go_simp
          exact hR _ _ (Ext.refl _) rfl
        · intro xs wq hq R hR
          go_simp
          exact hR _ _ (Ext.refl _) rfl
        · intro xs wq hq R hR
          go_simp
          exact hR _ _ (Ext.refl _) rfl
        · intro xs wq hq hk R hR
          go_simp
          exact hR _ _ (Ext.refl _) rfl
        · intro xs wq hq hk R hR
          obtain ⟨hk0, hk1⟩ := hk
          go_simp
          simp only [W0.out.1]
          rw [if_pos ⟨by omega, by omega⟩, W0.out.2]
          exact hR _ _ (Ext.refl _) rfl
        · intro xs wq hq hk R hR
          have f0 := hq.cell d0
          go_simp
          exact hR _ _ (Ext.refl _) rfl
        · intro xs wq hq hk R hR
          go_simp
          exact hR _ _ (Ext.refl _) (by rw [← HX0.out]; exact conv_u32 y0)
        · intro xs wq hq hk R hR
          go_simp
          exact hR _ _ (Ext.refl _) (shl24 x0)
        · intro xs wq hq R hR
          go_simp
          exact hR _ _ (Ext.refl _) rfl
        · intro xs wq hq R hR
          go_simp
          exact hR _ _ (Ext.refl _) rfl
        · intro xs wq hq hk R hR
          go_simp
          exact hR _ _ (Ext.refl _) rfl
        · intro xs wq hq hk R hR
          go_simp
          exact hR _ _ (Ext.refl _) rfl
        · intro xs wq hq hk R hR
          obtain ⟨hk0, hk1⟩ := hk
          go_simp
          simp only [W0.out.1, W1.out.1]
          rw [if_pos ⟨by omega, by omega⟩, W1.out.2]
          exact hR _ _ (Ext.refl _) rfl
        · intro xs wq hq hk R hR
          have f1 := hq.cell d1
          go_simp
          exact hR _ _ (Ext.refl _) rfl
        · intro xs wq hq hk R hR
          go_simp
          exact hR _ _ (Ext.refl _) (by rw [← HX1.out]; exact conv_u32 y1)
        · intro xs wq hq hk R hR
          go_simp
          exact hR _ _ (Ext.refl _) (shl16 x1)
        · intro xs wq hq hk R hR
          obtain ⟨hk0, hk1⟩ := hk
          go_simp
          exact hR _ _ (Ext.refl _) (or_u32 (x0 <<< 24) (x1 <<< 16))
        · intro xs wq hq R hR
          go_simp
          exact hR _ _ (Ext.refl _) rfl
        · intro xs wq hq R hR
          go_simp
          exact hR _ _ (Ext.refl _) rfl
        · intro xs wq hq hk R hR
          go_simp
          exact hR _ _ (Ext.refl _) rfl
        · intro xs wq hq hk R hR
          go_simp
          exact hR _ _ (Ext.refl _) rfl
        · intro xs wq hq hk R hR
          obtain ⟨hk0, hk1⟩ := hk
          go_simp
          simp only [W0.out.1, W2.out.1]
          rw [if_pos ⟨by omega, by omega⟩, W2.out.2]
          exact hR _ _ (Ext.refl _) rfl
        · intro xs wq hq hk R hR
          have f2 := hq.cell d2
          go_simp
          exact hR _ _ (Ext.refl _) rfl
        · intro xs wq hq hk R hR
          go_simp
          exact hR _ _ (Ext.refl _) (by rw [← HX2.out]; exact conv_u32 y2)
        · intro xs wq hq hk R hR
          go_simp
          exact hR _ _ (Ext.refl _) (shl8 x2)
        · intro xs wq hq hk R hR
          obtain ⟨hk0, hk1⟩ := hk
          go_simp
          exact hR _ _ (Ext.refl _) (or_u32 ((x0 <<< 24) ||| (x1 <<< 16)) (x2 <<< 8))
        · intro xs wq hq R hR
          go_simp
          exact hR _ _ (Ext.refl _) rfl
        · intro xs wq hq R hR
          go_simp
          exact hR _ _ (Ext.refl _) rfl
        · intro xs wq hq hk R hR
          go_simp
          exact hR _ _ (Ext.refl _) rfl
        · intro xs wq hq hk R hR
          go_simp
          exact hR _ _ (Ext.refl _) rfl
        · intro xs wq hq hk R hR
          obtain ⟨hk0, hk1⟩ := hk
          go_simp
          simp only [W0.out.1, W3.out.1]
          rw [if_pos ⟨by omega, by omega⟩, W3.out.2]
          exact hR _ _ (Ext.refl _) rfl
        · intro xs wq hq hk R hR
          have f3 := hq.cell d3
          go_simp
          exact hR _ _ (Ext.refl _) rfl
        · intro xs wq hq hk R hR
          go_simp
          exact hR _ _ (Ext.refl _) (by rw [← HX3.out]; exact conv_u32 y3)
        · intro xs wq hq hk R hR
          obtain ⟨hk0, hk1⟩ := hk
          go_simp
          exact hR _ _ (Ext.refl _) (or_u32 (((x0 <<< 24) ||| (x1 <<< 16)) ||| (x2 <<< 8)) x3)
        · intro xs wq hq hk R hR
          go_simp
          exact hR _ _ (Ext.refl _) rfl
      intro xs w2 hx2 hk
      simp only [heldV, Nat.zero_add, Nat.reduceAdd, and_true] at hk
      have q0 := hk.1
      replace hk := hk.2
      have q1 := hk.1
      replace hk := hk.2
      have q2 := hk.1
      replace hk := hk.2
      have q3 := hk.1
      replace hk := hk.2
      have q4 := hk.1
      replace hk := hk.2
      have q5 := hk.1
      replace hk := hk.2
      have q6 := hk.1
      replace hk := hk.2
      have q7 := hk.1
      replace hk := hk.2
      have q8 := hk.1
      replace hk := hk.2
      have q9 := hk.1
      replace hk := hk.2
      have q10 := hk.1
      replace hk := hk.2
      have q11 := hk.1
      replace hk := hk.2
      have q12 := hk.1
      replace hk := hk.2
      have q13 := hk.1
      replace hk := hk.2
      have q14 := hk.1
      replace hk := hk.2
      have q15 := hk.1
      replace hk := hk.2
      have q16 := hk.1
      replace hk := hk.2
      have q17 := hk.1
      replace hk := hk.2
      have q18 := hk.1
      replace hk := hk.2
      have q19 := hk.1
      replace hk := hk.2
      have q20 := hk.1
      replace hk := hk.2
      have q21 := hk.1
      replace hk := hk.2
      have q22 := hk.1
      replace hk := hk.2
      have q23 := hk.1
      replace hk := hk.2
      have q24 := hk.1
      replace hk := hk.2
      have q25 := hk.1
      replace hk := hk.2
      have q26 := hk.1
      replace hk := hk.2
      have q27 := hk.1
      replace hk := hk.2
      have q28 := hk.1
      replace hk := hk.2
      have q29 := hk.1
      replace hk := hk.2
      have q30 := hk.1
      replace hk := hk.2
      have q31 := hk.1
      replace hk := hk.2
      have q32 := hk.1
      replace hk := hk.2
      have q33 := hk.1
      replace hk := hk.2
      have q34 := hk
      clear hk
      simp (maxSteps := 1000000) only [List.take_succ_cons, List.take_zero, List.drop_succ_cons, List.drop_zero, fillFrom, Act.put, List.setIfInBounds_toArray, List.set_cons_zero, List.set_cons_succ, Nat.zero_add, Nat.reduceAdd, q0, q1, q2, q3, q4, q5, q6, q7, q8, q9, q10, q11, q12, q13, q14, q15, q16, q17, q18, q19, q20, q21, q22, q23, q24, q25, q26, q27, q28, q29, q30, q31, q32, q33, q34]
      clear q0 q1 q2 q3 q4 q5 q6 q7 q8 q9 q10 q11 q12 q13 q14 q15 q16 q17 q18 q19 q20 q21 q22 q23 q24 q25 q26 q27 q28 q29 q30 q31 q32 q33 q34
      have HS2 : Hid _ := Sch.more HS.out hx2
      have hnow := HS2.out.now
      have hsz := wordsC_size (l := wSched b k) (n := 64) (by omega)
      have hpt := wordsC_put (l := wSched b k) (n := 64) ((((x0 <<< 24) ||| (x1 <<< 16)) ||| (x2 <<< 8)) ||| x3) (by omega)
      rw [← HSN.out, hsl] at hpt
      go_wp2_with (refine store_field rfl 252 (.tmp 48) (.tmp 47) rfl (w.heap.size + 1) k rfl (U32 ((((x0 <<< 24) ||| (x1 <<< 16)) ||| (x2 <<< 8)) ||| x3)) rfl rfl _ (wordsC (wSched b k) 64) hnow (by omega) info_u32 (wordsC (wSched b (k + 1)) 64) hpt ?_; intro w3 hg3 hgr3)
      have HS3 : Hid _ := Sch.put HS2.out hg3 hgr3
      clear hg3 hgr3 hnow hsz hpt
      go_roundw
      case rel => exact ⟨k + 1, by omega, by go_num, HS3.out⟩
      case measure => simp [intOf]; omega
    · by_cases hlt2 : k < 64
      · have hnow := HS.out.now
        obtain ⟨X, hX⟩ : ∃ x, (wSched b k).getD (k - 15) 0 = x := ⟨_, rfl⟩
        obtain ⟨Y, hY⟩ : ∃ x, (wSched b k).getD (k - 2) 0 = x := ⟨_, rfl⟩
        obtain ⟨A0, hA⟩ : ∃ x, (wSched b k).getD (k - 16) 0 = x := ⟨_, rfl⟩
        obtain ⟨B0, hB⟩ : ∃ x, (wSched b k).getD (k - 7) 0 = x := ⟨_, rfl⟩
        have e15 := words_cell hnow (i := k - 15) (by omega)
        have e2 := words_cell hnow (i := k - 2) (by omega)
        have e16 := words_cell hnow (i := k - 16) (by omega)
        have e7 := words_cell hnow (i := k - 7) (by omega)
        rw [hX] at e15
        rw [hY] at e2
        rw [hA] at e16
        rw [hB] at e7
        obtain ⟨p1, hp1⟩ : ∃ x, rotl X 25 = x := ⟨_, rfl⟩
        obtain ⟨q1, hq1⟩ : ∃ x, rotl X 14 = x := ⟨_, rfl⟩
        obtain ⟨p2, hp2⟩ : ∃ x, p1 ^^^ q1 = x := ⟨_, rfl⟩
        obtain ⟨r1, hr1⟩ : ∃ x, X >>> 3 = x := ⟨_, rfl⟩
        obtain ⟨s1, hs1⟩ : ∃ x, p2 ^^^ r1 = x := ⟨_, rfl⟩
        obtain ⟨p3, hp3⟩ : ∃ x, rotl Y 15 = x := ⟨_, rfl⟩
        obtain ⟨q3, hq3⟩ : ∃ x, rotl Y 13 = x := ⟨_, rfl⟩
        obtain ⟨p4, hp4⟩ : ∃ x, p3 ^^^ q3 = x := ⟨_, rfl⟩
        obtain ⟨r2, hr2⟩ : ∃ x, Y >>> 10 = x := ⟨_, rfl⟩
        obtain ⟨s2, hs2⟩ : ∃ x, p4 ^^^ r2 = x := ⟨_, rfl⟩
        obtain ⟨z1, hz1⟩ : ∃ x, A0 + s1 = x := ⟨_, rfl⟩
        obtain ⟨z2, hz2⟩ : ∃ x, z1 + B0 = x := ⟨_, rfl⟩
        obtain ⟨z3, hz3⟩ : ∃ x, z2 + s2 = x := ⟨_, rfl⟩
        have HZ1 : Hid _ := hz1
        have HZ2 : Hid _ := hz2
        have HZ3 : Hid _ := hz3
        have HSN : Hid (wSched b (k + 1) = wSched b k ++ [z3]) := by
          unfold Hid
          rw [sched_snoc, if_neg hlt]
          unfold wNext
          rw [hX, hY, hA, hB, hp1, hq1, hp2, hr1, hs1, hp3, hq3, hp4, hr2, hs2, hz1, hz2, hz3]
        have f1 : bits BinOp.xor IntKind.u32 (p1.toNat : Int) (q1.toNat : Int) = (p2.toNat : Int) := by rw [← hp2]; exact bits_xor32 _ _
        have f2 : (X.toNat : Int) / 8 = (r1.toNat : Int) := by rw [← hr1]; exact shr32 X 3 (by decide)
        have f3 : bits BinOp.xor IntKind.u32 (p2.toNat : Int) (r1.toNat : Int) = (s1.toNat : Int) := by rw [← hs1]; exact bits_xor32 _ _
        have f4 : bits BinOp.xor IntKind.u32 (p3.toNat : Int) (q3.toNat : Int) = (p4.toNat : Int) := by rw [← hp4]; exact bits_xor32 _ _
        have f5 : (Y.toNat : Int) / 1024 = (r2.toNat : Int) := by rw [← hr2]; exact shr32 Y 10 (by decide)
        have f6 : bits BinOp.xor IntKind.u32 (p4.toNat : Int) (r2.toNat : Int) = (s2.toNat : Int) := by rw [← hs2]; exact bits_xor32 _ _
        have HP1 : Hid _ := hp1
        have HQ1 : Hid _ := hq1
        have HP3 : Hid _ := hp3
        have HQ3 : Hid _ := hq3
        have W15 : Hid (IntKind.i64.wrap ((k : Int) - 15) = ((k - 15 : Nat) : Int)) := by unfold Hid; rw [IntWalk.i64_in _ (by omega)]; omega
        have W2 : Hid (IntKind.i64.wrap ((k : Int) - 2) = ((k - 2 : Nat) : Int)) := by unfold Hid; rw [IntWalk.i64_in _ (by omega)]; omega
        have W16 : Hid (IntKind.i64.wrap ((k : Int) - 16) = ((k - 16 : Nat) : Int)) := by unfold Hid; rw [IntWalk.i64_in _ (by omega)]; omega
        have W7 : Hid (IntKind.i64.wrap ((k : Int) - 7) = ((k - 7 : Nat) : Int)) := by unfold Hid; rw [IntWalk.i64_in _ (by omega)]; omega
        clear hX hY hA hB hp1 hq1 hp2 hr1 hs1 hp3 hq3 hp4 hr2 hs2 hz1 hz2 hz3 hnow
        have w15 := W15.out
        have w2 := W2.out
        have n15 : ((k - 15 : Nat) : Int) < 64 := by omega
        have n2 : ((k - 2 : Nat) : Int) < 64 := by omega
        go_upto_region 7 with fail
        go_quiet (fail)
        have hx2 : Ext wr (wr.drewN nq) := Ext.drawn _ _
        have HS2 : Hid _ := Sch.more HS.out hx2
        clear w15 w2 n15 n2
        have g16 := hx2.cell e16
        have g7 := hx2.cell e7
        clear e15 e2 e16 e7 hx2
        go_wp2_with fail
        go_at_call 284
        refine (rot7 X _).mono ?_
        rw [HP1.out]
        rintro e w3 ⟨rfl, rfl⟩
        go_wp2_with fail
        go_at_call 284
        refine (rot18 X _).mono ?_
        rw [HQ1.out]
        rintro e w3 ⟨rfl, rfl⟩
        go_wp2_with fail
        go_at_call 284
        refine (rot17 Y _).mono ?_
        rw [HP3.out]
        rintro e w3 ⟨rfl, rfl⟩
        go_wp2_with fail
        go_at_call 284
        refine (rot19 Y _).mono ?_
        rw [HQ3.out]
        rintro e w3 ⟨rfl, rfl⟩
        go_wp2_with fail
        apply wp_region_mix 15 [_, _, _, .pointer (some ⟨w.heap.size + 1, k - 16, none⟩), U32 A0, _, U32 z1, _, _, .pointer (some ⟨w.heap.size + 1, k - 7, none⟩), U32 B0, U32 z2, _, U32 z3, .pointer (some ⟨w.heap.size + 1, k, none⟩)] [none, none, none, none, none, none, none, none, none, none, none, none, none, none, none] [[], [], [1], [2], [3], [], [4, 5], [], [7], [8], [9], [6, 10], [], [11, 12], [0]] (by kernel_rfl) (by kernel_rfl) (by simp [mixV])
        · trivial
        · simp (maxSteps := 1000000) only [List.take_succ_cons, List.take_zero, oblFrom, stepObl, fillFrom, Act.put, List.setIfInBounds_toArray, List.set_cons_zero, List.set_cons_succ, knows, getV, mixV, List.getD_cons_zero, List.getD_cons_succ, and_true, true_and, forall_const]
          refine ⟨?_, ?_, ?_, ?_, ?_, ?_, ?_, ?_, ?_, ?_, ?_, ?_, ?_, ?_, ?_⟩
          · intro xs wq hq R hR
            go_simp
            exact hR _ _ (Ext.refl _) rfl
          · intro xs wq hq R hR
            go_simp
            exact hR _ _ (Ext.refl _) rfl
          · intro xs wq hq hk R hR
            go_simp
            exact hR _ _ (Ext.refl _) rfl
          · intro xs wq hq hk R hR
            go_simp
            simp only [W16.out]
            rw [if_pos ⟨by omega, by omega⟩]
            exact hR _ _ (Ext.refl _) rfl
          · intro xs wq hq hk R hR
            have f0 := hq.cell g16
            go_simp
            exact hR _ _ (Ext.refl _) rfl
          · intro xs wq hq R hR
            go_simp
            exact hR _ _ (Ext.refl _) rfl
          · intro xs wq hq hk R hR
            obtain ⟨hk0, hk1⟩ := hk
            go_simp
            exact hR _ _ (Ext.refl _) (by rw [← HZ1.out]; exact addw_u32 A0 s1)
          · intro xs wq hq R hR
            go_simp
            exact hR _ _ (Ext.refl _) rfl
          · intro xs wq hq hk R hR
            go_simp
            exact hR _ _ (Ext.refl _) rfl
          · intro xs wq hq hk R hR
            go_simp
            simp only [W7.out]
            rw [if_pos ⟨by omega, by omega⟩]
            exact hR _ _ (Ext.refl _) rfl
          · intro xs wq hq hk R hR
            have f0 := hq.cell g7
            go_simp
            exact hR _ _ (Ext.refl _) rfl
          · intro xs wq hq hk R hR
            obtain ⟨hk0, hk1⟩ := hk
            go_simp
            exact hR _ _ (Ext.refl _) (by rw [← HZ2.out]; exact addw_u32 z1 B0)
          · intro xs wq hq R hR
            go_simp
            exact hR _ _ (Ext.refl _) rfl
          · intro xs wq hq hk R hR
            obtain ⟨hk0, hk1⟩ := hk
            go_simp
            exact hR _ _ (Ext.refl _) (by rw [← HZ3.out]; exact addw_u32 z2 s2)
          · intro xs wq hq hk R hR
            go_simp
            exact hR _ _ (Ext.refl _) rfl
        intro xs w4 hx4 hk
        simp only [heldV, Nat.zero_add, Nat.reduceAdd, and_true] at hk
        obtain ⟨q0, q1, q2, q3, q4, q5, q6, q7, q8, q9, q10, q11, q12, q13, q14⟩ := hk
        simp (maxSteps := 1000000) only [List.take_succ_cons, List.take_zero, List.drop_succ_cons, List.drop_zero, fillFrom, Act.put, List.setIfInBounds_toArray, List.set_cons_zero, List.set_cons_succ, Nat.zero_add, Nat.reduceAdd, q0, q1, q2, q3, q4, q5, q6, q7, q8, q9, q10, q11, q12, q13, q14]
        clear q0 q1 q2 q3 q4 q5 q6 q7 q8 q9 q10 q11 q12 q13 q14
        have HS4 : Hid _ := Sch.more HS2.out hx4
        have hnow := HS4.out.now
        have hsz := wordsC_size (l := wSched b k) (n := 64) (by omega)
        have hpt := wordsC_put (l := wSched b k) (n := 64) z3 (by omega)
        rw [← HSN.out, hsl] at hpt
        clear f1 f2 f3 f4 f5 f6 g16 g7 hx4
        go_wp2_with (refine store_field rfl 252 (.tmp 87) (.tmp 86) rfl (w.heap.size + 1) k rfl (U32 z3) rfl rfl _ (wordsC (wSched b k) 64) hnow (by omega) info_u32 (wordsC (wSched b (k + 1)) 64) hpt ?_; intro w5 hg5 hgr5)
        have HS5 : Hid _ := Sch.put HS4.out hg5 hgr5
        clear hg5 hgr5 hnow hsz hpt
        go_roundw
        case rel => exact ⟨k + 1, by omega, by go_num, HS5.out⟩
        case measure => simp [intOf]; omega
      · have hkk : k = 64 := by omega
        subst hkk
        have hnow := HS.out.now
        have hres := HS.out.res
        have hext := HS.out.ext
        have hful := wordsC_full (n := 64) hsl
        rw [hful] at hnow
        have hs64 : ((wSched b 64).map U32).toArray.size = 64 := by simp [hsl]
        obtain ⟨V, hV⟩ : ∃ V, ((wSched b 64).map U32).toArray = V := ⟨_, rfl⟩
        have hone := u32s_one (wSched b 64)
        rw [hV] at hnow hs64 hone
        have HV : Hid _ := hV
        have hr0 : (wordsC [] 64).size = 64 := wordsC_size (Nat.zero_le _)
        have hr1 : (wordsC [] 64).toList.drop (0 + V.size) = [] := by rw [hs64]; exact List.drop_eq_nil_of_le (by rw [Array.length_toList, hr0]; omega)
        have HEXT : Hid _ := hext
        clear hsl hful hV hext
        go_wp2_with (first
          | (refine wpList_load_row rfl 281 (.tmp 3) rfl (w.heap.size + 1) rfl 281 V (0, 0) _ hnow Tryz.underlying281 rfl (by rw [hs64]; exact size_a64) ?_)
          | (refine store_all rfl 281 (.tmp 2) (.tmp 89) rfl w.heap.size 0 rfl V rfl hone _ (wordsC [] 64) hres (by rw [hs64, hr0]; omega) (by rw [hs64]; exact size_a64) V (by rw [hr1]; simp) ?_; intro w5 hg5 hgr5))
        refine bodyPost_ret (results_cell_row rfl _ _ w.heap.size 281 V (0, 0) _ rfl hg5 Tryz.underlying281 rfl (by rw [hs64]; exact size_a64)) rfl ?_
        rw [HV.out]
        exact ⟨rfl, Below.grown HEXT.out hgr5 (HEXT.out).size (fun j hj => by cases hj; omega)⟩

end Go.Proofs.YtfgdmlmfgnhpaaaGreatDoor

/-! sha.Hasher.mix: a block is taken. Conditions: as each theorem states. -/
namespace Go.Proofs.YtfgdmlmfgnhpaaaGreatDoor
open Go Go.RowKit

/-- A hasher's cells; the constants' cells. -/
def hCells (cb : Nat) (st : List UInt32) (rest : Value) (n : Int) : Array Value := ((.pointer (some ⟨cb, 0, none⟩)) :: (st.map U32 ++ [rest, .int .i64 n])).toArray
def kCells (o : List Value) : Array Value := (o ++ (shaH.map U32 ++ shaK.map U32)).toArray
theorem hCells_st {cb : Nat} {st : List UInt32} {rest : Value} {n : Int} {j : Nat} (h : j < st.length) : (hCells cb st rest n)[1 + j]? = some (U32 (st.getD j 0)) := by
  unfold hCells
  simp [show 1 + j = j + 1 by omega, List.getElem?_append, h, List.getD_eq_getElem?_getD]
theorem kCells_each {o : List Value} {j : Nat} (ho : o.length = 3) (h : j < 64) : (kCells o)[11 + j]? = some (U32 (shaK.getD j 0)) := by
  unfold kCells
  rw [List.getElem?_toArray, List.getElem?_append_right (by omega), List.getElem?_append_right (by rw [ho, List.length_map]; show 8 ≤ _; omega), List.length_map, ho]
  rw [show 11 + j - 3 - shaH.length = j by show 11 + j - 3 - 8 = j; omega, List.getElem?_map, List.getElem?_eq_getElem (show j < shaK.length from h)]
  simp [List.getD_eq_getElem?_getD, show j < shaK.length from h]
theorem list8 {l : List UInt32} (h : l.length = 8) : ∃ a0 a1 a2 a3 a4 a5 a6 a7, l = [a0, a1, a2, a3, a4, a5, a6, a7] := by
  match l, h with
  | [a0, a1, a2, a3, a4, a5, a6, a7], _ => exact ⟨a0, a1, a2, a3, a4, a5, a6, a7, rfl⟩

/-- What the rounds hold. -/
structure MixR (w wr : World) (gw gs : Nat) (V : Array Value) (st W : List UInt32) (k : Nat) (c : List UInt32) : Prop where
  ext : Ext w wr
  now : wr.heap[gw]? = some (.cells V 281 (0, 0))
  cur : wr.heap[gs]? = some (.cells (c.map U32).toArray 280 (0, 0))
  eq : rnds st W k = c
  low : w.heap.size ≤ gw ∧ gw < gs
theorem MixR.more {w wr w2 : World} {gw gs : Nat} {V : Array Value} {st W : List UInt32} {k : Nat} {c : List UInt32} (h : MixR w wr gw gs V st W k c) (hx : Ext wr w2) : MixR w w2 gw gs V st W k c :=
  ⟨h.ext.trans hx, Ext.row hx h.now, Ext.row hx h.cur, h.eq, h.low⟩
theorem MixR.put {w wr w2 : World} {gw gs : Nat} {V : Array Value} {st W : List UInt32} {k : Nat} {c new : List UInt32} (h : MixR w wr gw gs V st W k c) (hg : w2.heap[gs]? = some (.cells (new.map U32).toArray 280 (0, 0))) (hgr : wr.grownBy w2 (some gs)) (he : rnd c (shaK.getD k 0) (W.getD k 0) = new) : MixR w w2 gw gs V st W (k + 1) new :=
  ⟨Below.grown h.ext hgr h.ext.size (fun j hj => by cases hj; have := h.low; omega), (hgr.block _ (Array.getElem?_eq_some_iff.1 h.now).1 (by have := h.low; simp; omega)).trans h.now, hg, by show rnd (rnds st W k) _ _ = _; rw [h.eq]; exact he, h.low⟩

def partM (st fin : List UInt32) (k : Nat) : List UInt32 := (List.zipWith (· + ·) st fin).take k ++ st.drop k
theorem partM_len {st fin : List UInt32} {k : Nat} (hs : st.length = 8) (hf : fin.length = 8) (hk : k ≤ 8) : (partM st fin k).length = 8 := by
  unfold partM
  simp [hs, hf]
  omega
theorem partM_get {st fin : List UInt32} {k : Nat} (hs : st.length = 8) (hf : fin.length = 8) (hk : k < 8) : (partM st fin k).getD k 0 = st.getD k 0 := by
  unfold partM
  rw [List.getD_eq_getElem?_getD, List.getElem?_append_right (by simp [hs, hf]; omega), List.getD_eq_getElem?_getD]
  simp [hs, hf, show min k 8 = k by omega]
theorem partM_set {st fin : List UInt32} {k : Nat} (hs : st.length = 8) (hf : fin.length = 8) (hk : k < 8) : partM st fin (k + 1) = (partM st fin k).set k (st.getD k 0 + fin.getD k 0) := by
  obtain ⟨i0, i1, i2, i3, i4, i5, i6, i7, rfl⟩ := list8 hs
  obtain ⟨j0, j1, j2, j3, j4, j5, j6, j7, rfl⟩ := list8 hf
  match k, hk with
  | 0, _ => rfl
  | 1, _ => rfl
  | 2, _ => rfl
  | 3, _ => rfl
  | 4, _ => rfl
  | 5, _ => rfl
  | 6, _ => rfl
  | 7, _ => rfl
theorem hCells_put {cb : Nat} {st : List UInt32} {rest : Value} {n : Int} {j : Nat} (x : UInt32) (h : j < st.length) : hCells cb (st.set j x) rest n = ((hCells cb st rest n).toList.take (1 + j) ++ [U32 x] ++ (hCells cb st rest n).toList.drop (1 + j + 1)).toArray := by
  unfold hCells
  apply Array.ext'
  simp only [List.toList_toArray, show 1 + j = j + 1 by omega, List.take_succ_cons, List.drop_succ_cons, List.cons_append]
  congr 1
  rw [List.map_set, List.take_append_of_le_length (by simp; omega), List.drop_append_of_le_length (by simp; omega), List.set_eq_take_append_cons_drop, if_pos (by simpa using h)]
  simp
theorem hCells_size {cb : Nat} {st : List UInt32} {rest : Value} {n : Int} : (hCells cb st rest n).size = st.length + 3 := by
  unfold hCells
  simp
theorem index_words {F : Array Value} {k : Nat} {v : Value} (w : World) (h : F[k]? = some v) (hk : k < 8) : (Instr.index 280 (.agg F) (.int .i64 (k : Int))).run Tryz.prog w = .ok v w := by
  simp [Instr.index, run_underlying Tryz.underlying280, asIntOf]
  rw [if_pos hk]
  simp [part, isAgg, run_underlying Tryz.underlying252, h]
structure Mix2 (w wr : World) (hb cb : Nat) (st fin : List UInt32) (rest : Value) (n : Int) (k : Nat) : Prop where
  fr : Fr (fun j => j = hb) w wr
  cells : wr.heap[hb]? = some (.cells (hCells cb (partM st fin k) rest n) 285 (0, 0))
theorem not_u8h {w : World} {hb : Nat} {cs : Array Value} {fr : Nat × Nat} (hg : w.heap[hb]? = some (.cells cs 285 fr)) : ¬ IsU8 w hb := cells_u8 hg (by kernel_rfl)

set_option maxRecDepth 100000 in
set_option maxHeartbeats 2000000 in
theorem mix_any (hb cb : Nat) (st : List UInt32) (rest v : Value) (n : Int) (b : B8) (o : List Value) (w : World) (hst : st.length = 8) (ho : o.length = 3)
    (hg : w.heap[hb]? = some (.cells (hCells cb st rest n) 285 (0, 0))) (hc : w.heap[cb]? = some (.cells (kCells o) 283 (0, 0))) (hv : IsBytes w v b) (hl : b.length = 64) :
    Calls Tryz.prog 238 #[.pointer (some ⟨hb, 0, none⟩), v] w fun e w' => e = .returned (.tuple #[]) ∧ w'.heap[hb]? = some (.cells (hCells cb (mixM st b) rest n) 285 (0, 0)) ∧ Fr (fun k => k = hb) w w' := by
  have HG : Hid _ := hg
  have HC : Hid _ := hc
  have HV : Hid _ := hv
  have HL : Hid _ := hl
  have hbl := (Array.getElem?_eq_some_iff.1 hg).1
  obtain ⟨a, cap, rfl, h1, h2, h3, -⟩ := hv.get
  obtain ⟨i0, i1, i2, i3, i4, i5, i6, i7, hse⟩ := list8 hst
  have HSE : Hid _ := hse
  have hrange : w.rangeAt hb 1 [U32 i0, U32 i1, U32 i2, U32 i3, U32 i4, U32 i5, U32 i6, U32 i7] := fun j u hu => by
    have hj := (List.getElem?_eq_some_iff.1 hu).1
    have hj8 : j < 8 := by simpa using hj
    rw [cell_of_row w hb (1 + j) _ _ _ hg, hCells_st (by omega), hse]
    have : ([U32 i0, U32 i1, U32 i2, U32 i3, U32 i4, U32 i5, U32 i6, U32 i7] : List Value) = [i0, i1, i2, i3, i4, i5, i6, i7].map U32 := rfl
    rw [this, List.getElem?_map] at hu
    rw [← hu, List.getD_eq_getElem?_getD]
    cases hx : ([i0, i1, i2, i3, i4, i5, i6, i7] : List UInt32)[j]? with
    | none => rw [List.getElem?_eq_none_iff] at hx; simp at hx; omega
    | some x => rfl
  have HRG : Hid _ := hrange
  have HST : Hid _ := hst
  have HO : Hid _ := ho
  clear hg hc hv hl hst ho hse hrange
  go_enter Tryz.func238, Tryz.ntmps238
  go_wp2_with fail
  go_at_call 283
  refine (schedule_any _ b w HV.out HL.out).mono ?_
  rintro e w1 ⟨rfl, hx1⟩
  have hsl := sched_len b 64
  have hs64 : ((wSched b 64).map U32).toArray.size = 64 := by simp [hsl]
  obtain ⟨V, hV⟩ : ∃ V, ((wSched b 64).map U32).toArray = V := ⟨_, rfl⟩
  have hone := u32s_one (wSched b 64)
  rw [hV] at hs64 hone ⊢
  have HVV : Hid _ := hV
  have hr0 : (wordsC [] 64).size = 64 := wordsC_size (Nat.zero_le _)
  have hr1 : (wordsC [] 64).toList.drop (0 + V.size) = [] := by rw [hs64]; exact List.drop_eq_nil_of_le (by rw [Array.length_toList, hr0]; omega)
  have hal : (w1.alloc (.cells (wordsC [] 64) 281)).heap[w1.heap.size]? = some (.cells (wordsC [] 64) 281 (0, 0)) := alloc_at _ _
  go_upto_region 1 with (refine store_all rfl 281 (.tmp 4) (.tmp 16) rfl w1.heap.size 0 rfl V rfl hone _ (wordsC [] 64) hal (by rw [hs64, hr0]; omega) (by rw [hs64]; exact size_a64) V (by rw [hr1]; simp) ?_; intro w2 hg2 hgr2)
  have hx2 : Ext w w2 := Below.grown (hx1.alloc _) hgr2 (by have := hx1.size; simp; omega) (fun j hj => by cases hj; exact hx1.size)
  have hrg2 : w2.rangeAt hb 1 [U32 i0, U32 i1, U32 i2, U32 i3, U32 i4, U32 i5, U32 i6, U32 i7] := fun j u hu => hx2.cell (HRG.out j u hu)
  have HG2 : Hid _ := hg2
  have HX2 : Hid _ := hx2
  have HX1 : Hid _ := hx1
  obtain ⟨gw, hgw⟩ : ∃ k, w1.heap.size = k := ⟨_, rfl⟩
  rw [hgw] at HG2 ⊢
  have hgwl : w.heap.size ≤ gw := by rw [← hgw]; exact hx1.size
  have hgw2 : gw < w2.heap.size := (Array.getElem?_eq_some_iff.1 HG2.out).1
  clear hone hr0 hr1 hal hg2 hgr2 hx1 hx2 hV hgw hsl
  go_upto_region 2 with (refine wpList_load_mid rfl 280 (.tmp 19) rfl hb 1 rfl [U32 i0, U32 i1, U32 i2, U32 i3, U32 i4, U32 i5, U32 i6, U32 i7] _ hrg2 Tryz.underlying280 rfl size_a8 ?_)
  obtain ⟨w3, hw3⟩ : ∃ wq, wq = w2.alloc (.cells #[U32 i0, U32 i1, U32 i2, U32 i3, U32 i4, U32 i5, U32 i6, U32 i7] 280) := ⟨_, rfl⟩
  have hw3' : w2.alloc (.cells #[U32 i0, U32 i1, U32 i2, U32 i3, U32 i4, U32 i5, U32 i6, U32 i7] 280) = w3 := hw3.symm
  rw [hw3']
  have hx3 : Ext w2 w3 := by rw [hw3]; exact (Ext.refl _).alloc _
  have HM0 : Hid (MixR w w3 gw w2.heap.size V st (wSched b 64) 0 [i0, i1, i2, i3, i4, i5, i6, i7]) := ⟨Ext.trans HX2.out hx3, Ext.row hx3 HG2.out, by rw [hw3]; exact alloc_at _ _, HSE.out, hgwl, hgw2⟩
  obtain ⟨gs, hgs⟩ : ∃ k, w2.heap.size = k := ⟨_, rfl⟩
  rw [hgs] at HM0 ⊢
  clear hw3 hw3' hx3 hrg2 hgs hgw2
  obtain ⟨W, hW⟩ : ∃ W, wSched b 64 = W := ⟨_, rfl⟩
  have HVG : Hid (∀ j, j < 64 → V[j]? = some (U32 (W.getD j 0))) := fun j hj => by
    rw [← hW, ← HVV.out, List.getElem?_toArray, List.getElem?_map, List.getElem?_eq_getElem (by rw [sched_len]; exact hj), List.getD_eq_getElem?_getD, List.getElem?_eq_getElem (by rw [sched_len]; exact hj)]
    rfl
  have HWE : Hid (mixM st b = List.zipWith (· + ·) st (rnds st W 64)) := by unfold Hid mixM; rw [hW]
  rw [hW] at HM0
  clear hW HVV
  go_wp2_with fail
  go_loopw [21] (fun i wr => ∃ (k : Nat) (a0 a1 a2 a3 a4 a5 a6 a7 : UInt32), k ≤ 64 ∧ i = .int .i64 k ∧ Hid (MixR w wr gw gs V st W k [a0, a1, a2, a3, a4, a5, a6, a7])) (fun i _ => 64 - (intOf i).toNat)
  case atStart => exact ⟨0, i0, i1, i2, i3, i4, i5, i6, i7, by omega, rfl, HM0.out⟩
  case round =>
    obtain ⟨k, a0, a1, a2, a3, a4, a5, a6, a7, hk, rfl, HM⟩ := hrel
    by_cases hlt : k < 64
    · obtain ⟨kk, hkk⟩ : ∃ x, shaK.getD k 0 = x := ⟨_, rfl⟩
      obtain ⟨ww, hww⟩ : ∃ x, W.getD k 0 = x := ⟨_, rfl⟩
      obtain ⟨x1, hx1⟩ : ∃ x, rotl a4 26 = x := ⟨_, rfl⟩
      obtain ⟨x2, hx2⟩ : ∃ x, rotl a4 21 = x := ⟨_, rfl⟩
      obtain ⟨x3, hx3⟩ : ∃ x, x1 ^^^ x2 = x := ⟨_, rfl⟩
      obtain ⟨x4, hx4⟩ : ∃ x, rotl a4 7 = x := ⟨_, rfl⟩
      obtain ⟨x5, hx5⟩ : ∃ x, x3 ^^^ x4 = x := ⟨_, rfl⟩
      obtain ⟨y1, hy1⟩ : ∃ x, a7 + x5 = x := ⟨_, rfl⟩
      obtain ⟨y2, hy2⟩ : ∃ x, a4 &&& a5 = x := ⟨_, rfl⟩
      obtain ⟨y3, hy3⟩ : ∃ x, ~~~a4 = x := ⟨_, rfl⟩
      obtain ⟨y4, hy4⟩ : ∃ x, y3 &&& a6 = x := ⟨_, rfl⟩
      obtain ⟨y5, hy5⟩ : ∃ x, y2 ^^^ y4 = x := ⟨_, rfl⟩
      obtain ⟨y6, hy6⟩ : ∃ x, y1 + y5 = x := ⟨_, rfl⟩
      obtain ⟨y7, hy7⟩ : ∃ x, y6 + kk = x := ⟨_, rfl⟩
      obtain ⟨tt, htt⟩ : ∃ x, y7 + ww = x := ⟨_, rfl⟩
      obtain ⟨z1, hz1⟩ : ∃ x, rotl a0 30 = x := ⟨_, rfl⟩
      obtain ⟨z2, hz2⟩ : ∃ x, rotl a0 19 = x := ⟨_, rfl⟩
      obtain ⟨z3, hz3⟩ : ∃ x, z1 ^^^ z2 = x := ⟨_, rfl⟩
      obtain ⟨z4, hz4⟩ : ∃ x, rotl a0 10 = x := ⟨_, rfl⟩
      obtain ⟨z5, hz5⟩ : ∃ x, z3 ^^^ z4 = x := ⟨_, rfl⟩
      obtain ⟨v1, hv1⟩ : ∃ x, a0 &&& a1 = x := ⟨_, rfl⟩
      obtain ⟨v2, hv2⟩ : ∃ x, a0 &&& a2 = x := ⟨_, rfl⟩
      obtain ⟨v3, hv3⟩ : ∃ x, v1 ^^^ v2 = x := ⟨_, rfl⟩
      obtain ⟨v4, hv4⟩ : ∃ x, a1 &&& a2 = x := ⟨_, rfl⟩
      obtain ⟨v5, hv5⟩ : ∃ x, v3 ^^^ v4 = x := ⟨_, rfl⟩
      obtain ⟨uu, huu⟩ : ∃ x, z5 + v5 = x := ⟨_, rfl⟩
      obtain ⟨n0, hn0⟩ : ∃ x, tt + uu = x := ⟨_, rfl⟩
      obtain ⟨n4, hn4⟩ : ∃ x, a3 + tt = x := ⟨_, rfl⟩
      have HX1 : Hid _ := hx1
      have HX2 : Hid _ := hx2
      have Gfx3 : Hid (bits BinOp.xor IntKind.u32 (x1.toNat : Int) (x2.toNat : Int) = (x3.toNat : Int)) := by unfold Hid; rw [← hx3]; exact bits_xor32 _ _
      have HX4 : Hid _ := hx4
      have Gfx5 : Hid (bits BinOp.xor IntKind.u32 (x3.toNat : Int) (x4.toNat : Int) = (x5.toNat : Int)) := by unfold Hid; rw [← hx5]; exact bits_xor32 _ _
      have Gfy1 : Hid (IntKind.u32.wrap ((a7.toNat : Int) + (x5.toNat : Int)) = (y1.toNat : Int)) := by unfold Hid; rw [← hy1, IntKind.wrap_u32]; exact add32 _ _
      have Gmy1 : Hid (((a7.toNat : Int) + (x5.toNat : Int)) % 4294967296 = (y1.toNat : Int)) := by unfold Hid; rw [← hy1]; exact add32 _ _
      have Gfy2 : Hid (bits BinOp.and IntKind.u32 (a4.toNat : Int) (a5.toNat : Int) = (y2.toNat : Int)) := by unfold Hid; rw [← hy2]; exact bits_and32 _ _
      have Gfy3 : Hid (bits BinOp.xor IntKind.u32 4294967295 (a4.toNat : Int) = (y3.toNat : Int)) := by unfold Hid; rw [← hy3]; exact bits_not32 _
      have Gfy4 : Hid (bits BinOp.and IntKind.u32 (y3.toNat : Int) (a6.toNat : Int) = (y4.toNat : Int)) := by unfold Hid; rw [← hy4]; exact bits_and32 _ _
      have Gfy5 : Hid (bits BinOp.xor IntKind.u32 (y2.toNat : Int) (y4.toNat : Int) = (y5.toNat : Int)) := by unfold Hid; rw [← hy5]; exact bits_xor32 _ _
      have Gfy6 : Hid (IntKind.u32.wrap ((y1.toNat : Int) + (y5.toNat : Int)) = (y6.toNat : Int)) := by unfold Hid; rw [← hy6, IntKind.wrap_u32]; exact add32 _ _
      have Gmy6 : Hid (((y1.toNat : Int) + (y5.toNat : Int)) % 4294967296 = (y6.toNat : Int)) := by unfold Hid; rw [← hy6]; exact add32 _ _
      have Gfy7 : Hid (IntKind.u32.wrap ((y6.toNat : Int) + (kk.toNat : Int)) = (y7.toNat : Int)) := by unfold Hid; rw [← hy7, IntKind.wrap_u32]; exact add32 _ _
      have Gmy7 : Hid (((y6.toNat : Int) + (kk.toNat : Int)) % 4294967296 = (y7.toNat : Int)) := by unfold Hid; rw [← hy7]; exact add32 _ _
      have Gftt : Hid (IntKind.u32.wrap ((y7.toNat : Int) + (ww.toNat : Int)) = (tt.toNat : Int)) := by unfold Hid; rw [← htt, IntKind.wrap_u32]; exact add32 _ _
      have Gmtt : Hid (((y7.toNat : Int) + (ww.toNat : Int)) % 4294967296 = (tt.toNat : Int)) := by unfold Hid; rw [← htt]; exact add32 _ _
      have HZ1 : Hid _ := hz1
      have HZ2 : Hid _ := hz2
      have Gfz3 : Hid (bits BinOp.xor IntKind.u32 (z1.toNat : Int) (z2.toNat : Int) = (z3.toNat : Int)) := by unfold Hid; rw [← hz3]; exact bits_xor32 _ _
      have HZ4 : Hid _ := hz4
      have Gfz5 : Hid (bits BinOp.xor IntKind.u32 (z3.toNat : Int) (z4.toNat : Int) = (z5.toNat : Int)) := by unfold Hid; rw [← hz5]; exact bits_xor32 _ _
      have Gfv1 : Hid (bits BinOp.and IntKind.u32 (a0.toNat : Int) (a1.toNat : Int) = (v1.toNat : Int)) := by unfold Hid; rw [← hv1]; exact bits_and32 _ _
      have Gfv2 : Hid (bits BinOp.and IntKind.u32 (a0.toNat : Int) (a2.toNat : Int) = (v2.toNat : Int)) := by unfold Hid; rw [← hv2]; exact bits_and32 _ _
      have Gfv3 : Hid (bits BinOp.xor IntKind.u32 (v1.toNat : Int) (v2.toNat : Int) = (v3.toNat : Int)) := by unfold Hid; rw [← hv3]; exact bits_xor32 _ _
      have Gfv4 : Hid (bits BinOp.and IntKind.u32 (a1.toNat : Int) (a2.toNat : Int) = (v4.toNat : Int)) := by unfold Hid; rw [← hv4]; exact bits_and32 _ _
      have Gfv5 : Hid (bits BinOp.xor IntKind.u32 (v3.toNat : Int) (v4.toNat : Int) = (v5.toNat : Int)) := by unfold Hid; rw [← hv5]; exact bits_xor32 _ _
      have Gfuu : Hid (IntKind.u32.wrap ((z5.toNat : Int) + (v5.toNat : Int)) = (uu.toNat : Int)) := by unfold Hid; rw [← huu, IntKind.wrap_u32]; exact add32 _ _
      have Gmuu : Hid (((z5.toNat : Int) + (v5.toNat : Int)) % 4294967296 = (uu.toNat : Int)) := by unfold Hid; rw [← huu]; exact add32 _ _
      have Gfn0 : Hid (IntKind.u32.wrap ((tt.toNat : Int) + (uu.toNat : Int)) = (n0.toNat : Int)) := by unfold Hid; rw [← hn0, IntKind.wrap_u32]; exact add32 _ _
      have Gmn0 : Hid (((tt.toNat : Int) + (uu.toNat : Int)) % 4294967296 = (n0.toNat : Int)) := by unfold Hid; rw [← hn0]; exact add32 _ _
      have Gfn4 : Hid (IntKind.u32.wrap ((a3.toNat : Int) + (tt.toNat : Int)) = (n4.toNat : Int)) := by unfold Hid; rw [← hn4, IntKind.wrap_u32]; exact add32 _ _
      have Gmn4 : Hid (((a3.toNat : Int) + (tt.toNat : Int)) % 4294967296 = (n4.toNat : Int)) := by unfold Hid; rw [← hn4]; exact add32 _ _
      have HNEW : Hid (rnd [a0, a1, a2, a3, a4, a5, a6, a7] (shaK.getD k 0) (W.getD k 0) = [n0, a0, a1, a2, n4, a4, a5, a6]) := by
        unfold Hid
        simp only [rnd, List.getD_cons_zero, List.getD_cons_succ]
        rw [hkk, hww, hx1, hx2, hx3, hx4, hx5, hy1, hy2, hy3, hy4, hy5, hy6, hy7, htt, hz1, hz2, hz3, hz4, hz5, hv1, hv2, hv3, hv4, hv5, huu, hn0, hn4]
      have HKC : Hid (w.cell? ⟨cb, 11 + k, none⟩ = some (U32 kk)) := (cell_of_row _ _ (11 + k) _ _ _ HC.out).trans ((kCells_each HO.out hlt).trans (by rw [hkk]))
      have HWC : Hid (V[k]? = some (U32 ww)) := (HVG.out k hlt).trans (by rw [hww])
      clear hx1 hx2 hx3 hx4 hx5 hy1 hy2 hy3 hy4 hy5 hy6 hy7 htt hz1 hz2 hz3 hz4 hz5 hv1 hv2 hv3 hv4 hv5 huu hn0 hn4 hkk hww
      have hcur := HM.out.cur
      have s0 : wr.cell? ⟨gs, 0, none⟩ = some (U32 a0) := (cell_of_row _ _ 0 _ _ _ hcur).trans rfl
      have s4 : wr.cell? ⟨gs, 4, none⟩ = some (U32 a4) := (cell_of_row _ _ 4 _ _ _ hcur).trans rfl
      clear hcur
      go_upto_region 5 with fail
      go_quiet (fail)
      obtain ⟨wq, hwq⟩ : ∃ wq, wq = wr.drewN nq := ⟨_, rfl⟩
      rw [← hwq]
      have HMq : Hid _ := MixR.more HM.out (show Ext wr wq by rw [hwq]; exact Ext.drawn _ _)
      clear s0 s4 hwq
      go_wp2_with fail
      go_at_call 284
      refine (rot6 a4 _).mono ?_
      rw [HX1.out]
      rintro e w9 ⟨rfl, rfl⟩
      go_wp2_with fail
      go_at_call 284
      refine (rot11 a4 _).mono ?_
      rw [HX2.out]
      rintro e w9 ⟨rfl, rfl⟩
      go_wp2_with fail
      go_at_call 284
      refine (rot25 a4 _).mono ?_
      rw [HX4.out]
      rintro e w9 ⟨rfl, rfl⟩
      have hcur := HMq.out.cur
      have hnow := HMq.out.now
      have hxq := HMq.out.ext
      have s5 : w9.cell? ⟨gs, 5, none⟩ = some (U32 a5) := (cell_of_row _ _ 5 _ _ _ hcur).trans rfl
      have s6 : w9.cell? ⟨gs, 6, none⟩ = some (U32 a6) := (cell_of_row _ _ 6 _ _ _ hcur).trans rfl
      have s7 : w9.cell? ⟨gs, 7, none⟩ = some (U32 a7) := (cell_of_row _ _ 7 _ _ _ hcur).trans rfl
      have sw : w9.cell? ⟨gw, k, none⟩ = some (U32 ww) := (cell_of_row _ _ k _ _ _ hnow).trans HWC.out
      have sc : w9.cell? ⟨hb, 0, none⟩ = some (.pointer (some ⟨cb, 0, none⟩)) := hxq.cell ((cell_of_row _ _ 0 _ _ _ HG.out).trans rfl)
      have sk : w9.cell? ⟨cb, 11 + k, none⟩ = some (U32 kk) := hxq.cell HKC.out
      clear hcur hnow hxq
      go_upto_region 7 with fail
      rw [Gfx3.out, Gfx5.out]
      go_wp2_with fail
      apply wp_region_mix 29 [_, U32 a7, _, U32 y1, _, _, U32 a5, U32 y2, _, U32 y3, _, U32 a6, U32 y4, U32 y5, U32 y6, _, _, _, .pointer (some ⟨cb, 0, none⟩), _, _, _, .pointer (some ⟨cb, 11 + k, none⟩), U32 kk, U32 y7, _, .pointer (some ⟨gw, k, none⟩), U32 ww, U32 tt] [none, none, none, none, none, none, none, none, none, none, none, none, none, none, none, none, none, none, none, none, none, none, none, none, none, none, none, none, none] [[], [0], [], [1, 2], [], [], [5], [4, 6], [], [8], [], [10], [9, 11], [7, 12], [3, 13], [], [15], [16], [17], [], [18], [20], [19, 21], [22], [14, 23], [], [25], [26], [24, 27]] (by kernel_rfl) (by kernel_rfl) (by simp [mixV])
      · trivial
      · simp (maxSteps := 1000000) only [List.take_succ_cons, List.take_zero, oblFrom, stepObl, fillFrom, Act.put, List.setIfInBounds_toArray, List.set_cons_zero, List.set_cons_succ, knows, getV, mixV, List.getD_cons_zero, List.getD_cons_succ, and_true, true_and, forall_const]
        refine ⟨?_, ?_, ?_, ?_, ?_, ?_, ?_, ?_, ?_, ?_, ?_, ?_, ?_, ?_, ?_, ?_, ?_, ?_, ?_, ?_, ?_, ?_, ?_, ?_, ?_, ?_, ?_, ?_, ?_⟩
        · intro xs wq hq R hR
          go_simp
          exact hR _ _ (Ext.refl _) rfl
        · intro xs wq hq hk R hR
          have f0 := hq.cell s7
          go_simp
          exact hR _ _ (Ext.refl _) rfl
        · intro xs wq hq R hR
          go_simp
          exact hR _ _ (Ext.refl _) rfl
        · intro xs wq hq hk R hR
          obtain ⟨hk0, hk1⟩ := hk
          go_simp
          exact hR _ _ (Ext.refl _) (congrArg _ Gfy1.out)
        · intro xs wq hq R hR
          go_simp
          exact hR _ _ (Ext.refl _) rfl
        · intro xs wq hq R hR
          go_simp
          exact hR _ _ (Ext.refl _) rfl
        · intro xs wq hq hk R hR
          have f0 := hq.cell s5
          go_simp
          exact hR _ _ (Ext.refl _) rfl
        · intro xs wq hq hk R hR
          obtain ⟨hk0, hk1⟩ := hk
          go_simp
          exact hR _ _ (Ext.refl _) (congrArg _ Gfy2.out)
        · intro xs wq hq R hR
          go_simp
          exact hR _ _ (Ext.refl _) rfl
        · intro xs wq hq hk R hR
          go_simp
          exact hR _ _ (Ext.refl _) (congrArg _ Gfy3.out)
        · intro xs wq hq R hR
          go_simp
          exact hR _ _ (Ext.refl _) rfl
        · intro xs wq hq hk R hR
          have f0 := hq.cell s6
          go_simp
          exact hR _ _ (Ext.refl _) rfl
        · intro xs wq hq hk R hR
          obtain ⟨hk0, hk1⟩ := hk
          go_simp
          exact hR _ _ (Ext.refl _) (congrArg _ Gfy4.out)
        · intro xs wq hq hk R hR
          obtain ⟨hk0, hk1⟩ := hk
          go_simp
          exact hR _ _ (Ext.refl _) (congrArg _ Gfy5.out)
        · intro xs wq hq hk R hR
          obtain ⟨hk0, hk1⟩ := hk
          go_simp
          exact hR _ _ (Ext.refl _) (congrArg _ Gfy6.out)
        · intro xs wq hq R hR
          go_simp
          exact hR _ _ (Ext.refl _) rfl
        · intro xs wq hq hk R hR
          go_simp
          exact hR _ _ (Ext.refl _) rfl
        · intro xs wq hq hk R hR
          go_simp
          exact hR _ _ (Ext.refl _) rfl
        · intro xs wq hq hk R hR
          have f0 := hq.cell sc
          go_simp
          exact hR _ _ (Ext.refl _) rfl
        · intro xs wq hq R hR
          go_simp
          exact hR _ _ (Ext.refl _) rfl
        · intro xs wq hq hk R hR
          go_simp
          exact hR _ _ (Ext.refl _) rfl
        · intro xs wq hq hk R hR
          go_simp
          exact hR _ _ (Ext.refl _) rfl
        · intro xs wq hq hk R hR
          obtain ⟨hk0, hk1⟩ := hk
          go_simp
          exact hR _ _ (Ext.refl _) rfl
        · intro xs wq hq hk R hR
          have f0 := hq.cell sk
          go_simp
          exact hR _ _ (Ext.refl _) rfl
        · intro xs wq hq hk R hR
          obtain ⟨hk0, hk1⟩ := hk
          go_simp
          exact hR _ _ (Ext.refl _) (congrArg _ Gfy7.out)
        · intro xs wq hq R hR
          go_simp
          exact hR _ _ (Ext.refl _) rfl
        · intro xs wq hq hk R hR
          go_simp
          exact hR _ _ (Ext.refl _) rfl
        · intro xs wq hq hk R hR
          have f0 := hq.cell sw
          go_simp
          exact hR _ _ (Ext.refl _) rfl
        · intro xs wq hq hk R hR
          obtain ⟨hk0, hk1⟩ := hk
          go_simp
          exact hR _ _ (Ext.refl _) (congrArg _ Gftt.out)
      intro xs wz hxz hk
      simp only [heldV, Nat.zero_add, Nat.reduceAdd, and_true] at hk
      have q0 := hk.1
      replace hk := hk.2
      have q1 := hk.1
      replace hk := hk.2
      have q2 := hk.1
      replace hk := hk.2
      have q3 := hk.1
      replace hk := hk.2
      have q4 := hk.1
      replace hk := hk.2
      have q5 := hk.1
      replace hk := hk.2
      have q6 := hk.1
      replace hk := hk.2
      have q7 := hk.1
      replace hk := hk.2
      have q8 := hk.1
      replace hk := hk.2
      have q9 := hk.1
      replace hk := hk.2
      have q10 := hk.1
      replace hk := hk.2
      have q11 := hk.1
      replace hk := hk.2
      have q12 := hk.1
      replace hk := hk.2
      have q13 := hk.1
      replace hk := hk.2
      have q14 := hk.1
      replace hk := hk.2
      have q15 := hk.1
      replace hk := hk.2
      have q16 := hk.1
      replace hk := hk.2
      have q17 := hk.1
      replace hk := hk.2
      have q18 := hk.1
      replace hk := hk.2
      have q19 := hk.1
      replace hk := hk.2
      have q20 := hk.1
      replace hk := hk.2
      have q21 := hk.1
      replace hk := hk.2
      have q22 := hk.1
      replace hk := hk.2
      have q23 := hk.1
      replace hk := hk.2
      have q24 := hk.1
      replace hk := hk.2
      have q25 := hk.1
      replace hk := hk.2
      have q26 := hk.1
      replace hk := hk.2
      have q27 := hk.1
      replace hk := hk.2
      have q28 := hk
      clear hk
      simp (maxSteps := 1000000) only [List.take_succ_cons, List.take_zero, List.drop_succ_cons, List.drop_zero, fillFrom, Act.put, List.setIfInBounds_toArray, List.set_cons_zero, List.set_cons_succ, Nat.zero_add, Nat.reduceAdd, q0, q1, q2, q3, q4, q5, q6, q7, q8, q9, q10, q11, q12, q13, q14, q15, q16, q17, q18, q19, q20, q21, q22, q23, q24, q25, q26, q27, q28]
      clear q0 q1 q2 q3 q4 q5 q6 q7 q8 q9 q10 q11 q12 q13 q14 q15 q16 q17 q18 q19 q20 q21 q22 q23 q24 q25 q26 q27 q28
      have HMz : Hid _ := MixR.more HMq.out hxz
      clear s5 s6 s7 sw sc sk hxz
      go_wp2_with fail
      go_at_call 284
      refine (rot2 a0 _).mono ?_
      rw [HZ1.out]
      rintro e w8 ⟨rfl, rfl⟩
      go_wp2_with fail
      go_at_call 284
      refine (rot13 a0 _).mono ?_
      rw [HZ2.out]
      rintro e w8 ⟨rfl, rfl⟩
      go_wp2_with fail
      go_at_call 284
      refine (rot22 a0 _).mono ?_
      rw [HZ4.out]
      rintro e w8 ⟨rfl, rfl⟩
      have hcur := HMz.out.cur
      have r0 : w8.cell? ⟨gs, 0, none⟩ = some (U32 a0) := (cell_of_row _ _ 0 _ _ _ hcur).trans rfl
      have r1 : w8.cell? ⟨gs, 1, none⟩ = some (U32 a1) := (cell_of_row _ _ 1 _ _ _ hcur).trans rfl
      have r2 : w8.cell? ⟨gs, 2, none⟩ = some (U32 a2) := (cell_of_row _ _ 2 _ _ _ hcur).trans rfl
      have r3 : w8.cell? ⟨gs, 3, none⟩ = some (U32 a3) := (cell_of_row _ _ 3 _ _ _ hcur).trans rfl
      have r4 : w8.cell? ⟨gs, 4, none⟩ = some (U32 a4) := (cell_of_row _ _ 4 _ _ _ hcur).trans rfl
      have r5 : w8.cell? ⟨gs, 5, none⟩ = some (U32 a5) := (cell_of_row _ _ 5 _ _ _ hcur).trans rfl
      have r6 : w8.cell? ⟨gs, 6, none⟩ = some (U32 a6) := (cell_of_row _ _ 6 _ _ _ hcur).trans rfl
      go_upto_region 9 with fail
      rw [Gfz3.out, Gfz5.out]
      go_upto_region 10 with fail
      rw [Gfv1.out, Gfv2.out, Gfv3.out, Gfv4.out, Gfv5.out, Gmuu.out]
      have HNV : Hid ((#[.int .u32 (((tt.toNat : Int) + (uu.toNat : Int)) % 4294967296), U32 a0, U32 a1, U32 a2, .int .u32 (((a3.toNat : Int) + (tt.toNat : Int)) % 4294967296), U32 a4, U32 a5, U32 a6] : Array Value) = #[U32 n0, U32 a0, U32 a1, U32 a2, U32 n4, U32 a4, U32 a5, U32 a6]) := by unfold Hid; rw [Gmn0.out, Gmn4.out]
      go_wp2_with (refine store_all rfl 280 (.tmp 5) (.tmp 109) rfl gs 0 rfl #[U32 n0, U32 a0, U32 a1, U32 a2, U32 n4, U32 a4, U32 a5, U32 a6] (congrArg Value.agg HNV.out) (by intro v hv; simp at hv; rcases hv with rfl | rfl | rfl | rfl | rfl | rfl | rfl | rfl <;> rfl) _ _ hcur (by simp) size_a8 #[U32 n0, U32 a0, U32 a1, U32 a2, U32 n4, U32 a4, U32 a5, U32 a6] (by simp) ?_; intro wn hgn hgrn)
      have HMn : Hid _ := MixR.put HMz.out (new := [n0, a0, a1, a2, n4, a4, a5, a6]) hgn hgrn HNEW.out
      clear r0 r1 r2 r3 r4 r5 r6 hcur hgn hgrn
      go_roundw
      case rel => exact ⟨k + 1, n0, a0, a1, a2, n4, a4, a5, a6, by omega, by go_num, HMn.out⟩
      case measure => simp [intOf]; omega
    · have hkk : k = 64 := by omega
      subst hkk
      have hcur := HM.out.cur
      have heq := HM.out.eq
      have hext := HM.out.ext
      obtain ⟨fin, hfin⟩ : ∃ l, [a0, a1, a2, a3, a4, a5, a6, a7] = l := ⟨_, rfl⟩
      have hfl : fin.length = 8 := by rw [← hfin]; rfl
      rw [hfin] at hcur heq
      have HEQ : Hid _ := heq
      have HFL : Hid _ := hfl
      obtain ⟨F, hF⟩ : ∃ F, (fin.map U32).toArray = F := ⟨_, rfl⟩
      have hF8 : F.size = 8 := by rw [← hF]; simp [hfl]
      have HFG : Hid (∀ j, j < 8 → F[j]? = some (U32 (fin.getD j 0))) := fun j hj => by
        rw [← hF, List.getElem?_toArray, List.getElem?_map, List.getElem?_eq_getElem (by omega), List.getD_eq_getElem?_getD, List.getElem?_eq_getElem (by omega)]
        rfl
      rw [hF] at hcur
      have H20 : Hid (Mix2 w wr hb cb st fin rest n 0) := ⟨Fr.of_ext hext, by show wr.heap[hb]? = some (.cells (hCells cb ([] ++ st.drop 0) rest n) _ _); rw [List.nil_append, List.drop_zero]; exact Ext.row hext HG.out⟩
      clear heq hfl hF hfin hext
      go_wp2_with (refine wpList_load_row rfl 280 (.tmp 5) rfl gs rfl 280 F (0, 0) _ hcur Tryz.underlying280 rfl (by rw [hF8]; exact size_a8) ?_)
      clear hcur
      go_loopw [112] (fun i wr => ∃ k : Nat, k ≤ 8 ∧ i = .int .i64 k ∧ Hid (Mix2 w wr hb cb st fin rest n k)) (fun i _ => 8 - (intOf i).toNat)
      case atStart => exact ⟨0, by omega, rfl, H20.out⟩
      case round =>
        obtain ⟨k, hk, rfl, H2⟩ := hrel
        by_cases hlt : k < 8
        · obtain ⟨sk, hsk⟩ : ∃ x, st.getD k 0 = x := ⟨_, rfl⟩
          obtain ⟨fk, hfk⟩ : ∃ x, fin.getD k 0 = x := ⟨_, rfl⟩
          obtain ⟨xk, hxk⟩ : ∃ x, sk + fk = x := ⟨_, rfl⟩
          have hcell := H2.out.cells
          have hpl := partM_len HST.out HFL.out hk
          have hps := partM_set HST.out HFL.out hlt
          have hpg := partM_get HST.out HFL.out hlt
          rw [hsk] at hpg
          rw [hsk, hfk, hxk] at hps
          have HADD : Hid (Value.int .u32 (IntKind.u32.wrap ((sk.toNat : Int) + (fk.toNat : Int))) = U32 xk) := by unfold Hid; rw [← hxk]; exact addw_u32 sk fk
          have hix := index_words wr ((HFG.out k hlt).trans (by rw [hfk])) hlt
          have c1 : wr.cell? ⟨hb, 1 + k, none⟩ = some (U32 sk) := by rw [cell_of_row _ _ (1 + k) _ _ _ hcell, hCells_st (by omega), hpg]
          have HC1 : Hid _ := c1
          have HCE : Hid _ := hcell
          have HPS : Hid _ := hps
          clear hsk hfk hxk hpg hps c1 hcell
          go_upto_region 15 with fail
          clear hix
          apply wp_region_mix 11 [_, _, _, .pointer (some ⟨hb, 1, none⟩), .pointer (some ⟨hb, 1 + k, none⟩), U32 sk, _, U32 xk, _, .pointer (some ⟨hb, 1, none⟩), .pointer (some ⟨hb, 1 + k, none⟩)] [none, none, none, none, none, none, none, none, none, none, none] [[], [], [0], [2], [1, 3], [4], [], [5, 6], [0], [8], [1, 9]] (by kernel_rfl) (by kernel_rfl) (by simp [mixV])
          · trivial
          · simp (maxSteps := 1000000) only [List.take_succ_cons, List.take_zero, oblFrom, stepObl, fillFrom, Act.put, List.setIfInBounds_toArray, List.set_cons_zero, List.set_cons_succ, knows, getV, mixV, List.getD_cons_zero, List.getD_cons_succ, and_true, true_and, forall_const]
            refine ⟨?_, ?_, ?_, ?_, ?_, ?_, ?_, ?_, ?_, ?_, ?_⟩
            · intro xs wq hq R hR
              go_simp
              exact hR _ _ (Ext.refl _) rfl
            · intro xs wq hq R hR
              go_simp
              exact hR _ _ (Ext.refl _) rfl
            · intro xs wq hq hk R hR
              go_simp
              exact hR _ _ (Ext.refl _) rfl
            · intro xs wq hq hk R hR
              go_simp
              exact hR _ _ (Ext.refl _) rfl
            · intro xs wq hq hk R hR
              obtain ⟨hk0, hk1⟩ := hk
              go_simp
              exact hR _ _ (Ext.refl _) rfl
            · intro xs wq hq hk R hR
              have f0 := hq.cell HC1.out
              go_simp
              exact hR _ _ (Ext.refl _) rfl
            · intro xs wq hq R hR
              go_simp
              exact hR _ _ (Ext.refl _) rfl
            · intro xs wq hq hk R hR
              obtain ⟨hk0, hk1⟩ := hk
              go_simp
              exact hR _ _ (Ext.refl _) HADD.out
            · intro xs wq hq hk R hR
              go_simp
              exact hR _ _ (Ext.refl _) rfl
            · intro xs wq hq hk R hR
              go_simp
              exact hR _ _ (Ext.refl _) rfl
            · intro xs wq hq hk R hR
              obtain ⟨hk0, hk1⟩ := hk
              go_simp
              exact hR _ _ (Ext.refl _) rfl
          intro xs wz hxz hk
          simp only [heldV, Nat.zero_add, Nat.reduceAdd, and_true] at hk
          obtain ⟨q0, q1, q2, q3, q4, q5, q6, q7, q8, q9, q10⟩ := hk
          simp (maxSteps := 1000000) only [List.take_succ_cons, List.take_zero, List.drop_succ_cons, List.drop_zero, fillFrom, Act.put, List.setIfInBounds_toArray, List.set_cons_zero, List.set_cons_succ, Nat.zero_add, Nat.reduceAdd, q0, q1, q2, q3, q4, q5, q6, q7, q8, q9, q10]
          clear q0 q1 q2 q3 q4 q5 q6 q7 q8 q9 q10
          have hcz := Ext.row hxz HCE.out
          have hsz := hCells_size (cb := cb) (st := partM st fin k) (rest := rest) (n := n)
          have hput := hCells_put (cb := cb) (st := partM st fin k) (rest := rest) (n := n) (j := k) xk (by omega)
          rw [← HPS.out] at hput
          go_wp2_with (refine store_field rfl 252 (.tmp 126) (.tmp 123) rfl hb (1 + k) rfl (U32 xk) rfl rfl _ _ hcz (by omega) info_u32 (hCells cb (partM st fin (k + 1)) rest n) hput ?_; intro wn hgn hgrn)
          have H3 : Hid (Mix2 w wn hb cb st fin rest n (k + 1)) := ⟨(H2.out.fr.ext hxz).step hgrn (fun j hj => by cases hj; exact .inl rfl) (by rintro j hj; cases hj; exact not_u8h hcz), hgn⟩
          clear hcz hsz hput hgn hgrn hxz hpl
          go_roundw
          case rel => exact ⟨k + 1, by omega, by go_num, H3.out⟩
          case measure => simp [intOf]; omega
        · have hkk : k = 8 := by omega
          subst hkk
          have HEND : Hid (wr.heap[hb]? = some (.cells (hCells cb (mixM st b) rest n) 285 (0, 0))) := by
            have h9 := H2.out.cells
            have h8 : partM st fin 8 = mixM st b := by
              unfold partM
              rw [HWE.out, HEQ.out, List.drop_eq_nil_of_le (by rw [HST.out]; omega), List.append_nil, List.take_of_length_le (by simp [HST.out, HFL.out])]
            rw [h8] at h9
            exact h9
          go_wp2
          go_end0
          exact ⟨rfl, HEND.out, H2.out.fr⟩

end Go.Proofs.YtfgdmlmfgnhpaaaGreatDoor

/-! sha.Hasher.Write: a piece is taken. Conditions: at most 10000000 bytes. -/
namespace Go.Proofs.YtfgdmlmfgnhpaaaGreatDoor
open Go Go.RowKit
set_option linter.unusedVariables false
set_option linter.unusedSimpArgs false
set_option linter.unusedSectionVars false

theorem hCells_9 {cb : Nat} {st : List UInt32} {rest : Value} {n : Int} (h : st.length = 8) : (hCells cb st rest n)[9]? = some rest ∧ (hCells cb st rest n)[10]? = some (Value.int .i64 n) := by
  obtain ⟨i0, i1, i2, i3, i4, i5, i6, i7, rfl⟩ := list8 h
  exact ⟨rfl, rfl⟩
theorem hCells_put9 {cb : Nat} {st : List UInt32} {rest new : Value} {n : Int} (h : st.length = 8) : hCells cb st new n = ((hCells cb st rest n).toList.take 9 ++ [new] ++ (hCells cb st rest n).toList.drop (9 + 1)).toArray := by
  obtain ⟨i0, i1, i2, i3, i4, i5, i6, i7, rfl⟩ := list8 h
  rfl
theorem hCells_put10 {cb : Nat} {st : List UInt32} {rest : Value} {n new : Int} (h : st.length = 8) : hCells cb st rest new = ((hCells cb st rest n).toList.take 10 ++ [Value.int .i64 new] ++ (hCells cb st rest n).toList.drop (10 + 1)).toArray := by
  obtain ⟨i0, i1, i2, i3, i4, i5, i6, i7, rfl⟩ := list8 h
  rfl
theorem clone_own (v : Value) (l : B8) (w : World) (hv : IsBytes w v l) (hl : l.length ≤ 140737488355328) :
    Calls Tryz.prog 117 #[v] w fun e w' => (∃ v, e = .returned v ∧ w'.ownsRow w.heap.size 5 1 v l.length (l.map fun x => .int .u8 x.toNat)) ∧ Ext w w' := by
  obtain ⟨a, cap, rfl, h1, h2, h3, h4⟩ := hv
  cases a with
  | none =>
    have hn : l = [] := by
      cases l with
      | nil => rfl
      | cons x l => obtain ⟨b, o, he, _⟩ := h4 (by simp); cases he
    subst hn
    exact (Tryz.bytes_Clone_nil 0 cap w).mono fun e w' ⟨he, hw⟩ => ⟨⟨_, he, World.ownsRow_nil _ _ _ _⟩, by rw [hw]; exact Ext.refl _⟩
  | some ad =>
    refine (Tryz.bytes_Clone_at ad l.length cap (l.map fun x => (x.toNat : Int)) w (by simp) (by omega) (fun i hi => ?_)).mono fun e w' ⟨v', he, hown, _, hx⟩ => ⟨⟨v', he, ?_⟩, hx⟩
    · have hne : l ≠ [] := by rintro rfl; simp at hi
      obtain ⟨b, o, hadr, hc⟩ := h4 (by simpa using hne)
      cases hadr
      have hadd : (⟨b, o, none⟩ : Addr).add i = ⟨b, o + i, none⟩ := by unfold Addr.add; split <;> simp_all
      rw [hadd]
      refine hc i _ ?_
      simp [hi]
    · rw [List.map_map] at hown
      exact hown

/-- What Write's loop holds. -/
structure Wr (w wr : World) (hb cb : Nat) (goal : List UInt32 × B8) (n : Int) (st : List UInt32) (rv : Value) (r : B8) : Prop where
  fr : Fr (fun k => k = hb) w wr
  hst : st.length = 8
  cells : wr.heap[hb]? = some (.cells (hCells cb st rv n) 285 (0, 0))
  bytes : IsBytes wr rv r
  typ : TypB wr rv
  len : r.length ≤ 20000000
  goal : absorb st r = goal
/-- How long the hasher's rest is. -/
def restLen (w : World) (hb : Nat) : Nat := match w.cell? ⟨hb, 9, none⟩ with
  | some (.slice _ n _) => n
  | _ => 0
theorem Wr.restLen {w wr : World} {hb cb : Nat} {goal : List UInt32 × B8} {n : Int} {st : List UInt32} {rv : Value} {r : B8} (h : Wr w wr hb cb goal n st rv r) : restLen wr hb = r.length := by
  obtain ⟨a, cap, rfl, -⟩ := id h.bytes
  unfold Go.Proofs.YtfgdmlmfgnhpaaaGreatDoor.restLen
  rw [(cell_of_row _ _ 9 _ _ _ h.cells).trans (hCells_9 h.hst).1]

set_option maxRecDepth 100000 in
set_option maxHeartbeats 1000000 in
theorem write_sha (hb cb : Nat) (st : List UInt32) (rv v : Value) (r b : B8) (n : Nat) (o : List Value) (w : World) (hst : st.length = 8) (ho : o.length = 3) (hne : hb ≠ cb) (hn : n ≤ 1000000000)
    (hg : w.heap[hb]? = some (.cells (hCells cb st rv n) 285 (0, 0))) (hc : w.heap[cb]? = some (.cells (kCells o) 283 (0, 0))) (hr : IsBytes w rv r) (hrt : TypB w rv) (hv : IsBytes w v b) (hvt : Out (fun k => k = hb) w v) (hrl : r.length ≤ 10000000) (hl : b.length ≤ 10000000) :
    Calls Tryz.prog 176 #[.pointer (some ⟨hb, 0, none⟩), v] w fun e w' => e = .returned (.tuple #[]) ∧ ∃ (st' : List UInt32) (rv' : Value) (r' : B8), Wr w w' hb cb (absorb st (r ++ b)) (n + b.length) st' rv' r' ∧ (st', r') = absorb st (r ++ b) := by
  obtain ⟨a, cap, rfl, h1, h2, h3, -⟩ := hv.get
  have HC : Hid _ := hc
  have HR : Hid _ := hr
  have HV : Hid _ := hv
  have HVT : Hid _ := hvt
  have HST : Hid _ := hst
  have HO : Hid _ := ho
  have HG : Hid _ := hg
  have c9 : w.cell? ⟨hb, 9, none⟩ = some rv := (cell_of_row _ _ 9 _ _ _ hg).trans (hCells_9 hst).1
  have c10 : w.cell? ⟨hb, 10, none⟩ = some (.int .i64 (n : Int)) := (cell_of_row _ _ 10 _ _ _ hg).trans (hCells_9 hst).2
  have hsz : (hCells cb st rv (n : Int)).size = 11 := by rw [hCells_size, hst]
  have hp10 := hCells_put10 (cb := cb) (rest := rv) (n := (n : Int)) (new := (n : Int) + b.length) hst
  clear hc hr hv hvt hst ho
  go_enter Tryz.func176, Tryz.ntmps176
  go_upto_region 1 with (refine store_field rfl 3 (.tmp 12) (.tmp 10) rfl hb 10 rfl (.int .i64 ((n : Int) + b.length)) rfl rfl _ _ hg (by omega) size_int (hCells cb st rv ((n : Int) + b.length)) hp10 ?_; intro w2 hg2 hgr2)
  have hfr2 : Fr (fun k => k = hb) w w2 := (Fr.refl _ w).step hgr2 (fun j hj => by cases hj; exact .inl rfl) (by rintro j hj; cases hj; exact not_u8h hg)
  have d9 : w2.cell? ⟨hb, 9, none⟩ = some rv := (cell_of_row _ _ 9 _ _ _ hg2).trans (hCells_9 HST.out).1
  have HFR2 : Hid _ := hfr2
  have HG2 : Hid _ := hg2
  clear hg2 hgr2 hfr2 c9 c10 hp10 hg
  have HRR : Hid (IsBytes w2 rv r) := Row.keepB HR.out hrt HFR2.out.keep
  go_wp2_with fail
  go_at_call 117
  refine (clone_own rv r w2 HRR.out (by omega)).mono ?_
  rintro e w3 ⟨⟨v3, rfl, hown3⟩, hx3⟩
  have HV3 : Hid (IsBytes w3 (.slice a b.length cap) b) := IsBytes.ext (IsBytes.fr (O := fun k => k = hb) HV.out HVT.out HFR2.out) hx3
  have HOWN3 : Hid (w3.ownsRow w2.heap.size 5 1 v3 r.length (r.map fun x : UInt8 => Value.int .u8 (x.toNat : Int))) := hown3
  have HX3 : Hid _ := hx3
  have hs3 := hx3.size
  clear hown3 hx3
  go_wp2_with first | (at_builtin; go_must (refine appS_op _ _ _ 1 1 Tryz.underlying45 info_u8 rfl (by omega) rfl _ _ rfl rfl w2.heap.size v3 r.length (r.map fun x : UInt8 => Value.int .u8 (x.toNat : Int)) rfl HOWN3.out (.slice a b.length cap) b.length (b.map fun x : UInt8 => Value.int .u8 (x.toNat : Int)) rfl HV3.out (by simp) (by intro u hu; obtain ⟨_, _, rfl⟩ := List.mem_map.1 hu; rfl) (by omega) (by omega) hs3 ?_; intro v4 w4 hown4 hgr4; rw [← List.map_append] at hown4; have hx4 : Ext w2 w4 := owns_ext_app HX3.out HOWN3.out hgr4; have ho4 : v4.oneCell' = true := (by rcases hown4.2 with ⟨rfl, _⟩ | ⟨g, c, cur, rfl, _⟩ <;> rfl); have hg4 := Ext.row hx4 HG2.out)) | (refine store_field rfl 45 (.tmp 22) (.tmp 20) rfl hb 9 rfl v4 rfl ho4 _ _ hg4 (by rw [hCells_size, HST.out]; omega) size_bytes (hCells cb st v4 ((n : Int) + b.length)) (hCells_put9 HST.out) ?_; intro w5 hg5 hgr5)
  have hwr5 : Wr w w5 hb cb (absorb st (r ++ b)) ((n : Int) + b.length) st v4 (r ++ b) := by
    have hk : KeepB w4 w5 := KeepB.of_grown hgr5 hg4 (by kernel_rfl)
    have ht4 : TypB w4 v4 := TypB.of_owns hown4
    refine ⟨(HFR2.out.ext hx4).step hgr5 (fun j hj => by cases hj; exact .inl rfl) (by rintro j hj; cases hj; exact not_u8h hg4), HST.out, hg5, ?_, ht4.keep hk, by rw [List.length_append]; omega, rfl⟩
    have hrow := Row.of_owns hown4 (by omega)
    unfold IsBytes
    rw [List.length_append]
    exact hrow.keepB ht4 hk
  have HWR5 : Hid _ := hwr5
  clear hwr5 hg5 hgr5 hg4 ho4 hx4 hgr4 hown4 d9 hsz HX3 HOWN3 HV3 HRR
  go_frame
  go_loopw [] (fun wr => ∃ (st' : List UInt32) (rv' : Value) (r' : B8), Wr w wr hb cb (absorb st (r ++ b)) ((n : Int) + b.length) st' rv' r') (fun wr => restLen wr hb)
  case atStart => exact ⟨st, v4, r ++ b, HWR5.out⟩
  case round =>
    obtain ⟨s6, r6, l6, hw6⟩ := hrel
    have HW6 : Hid _ := hw6
    have HM6 : Hid _ := hw6.restLen
    obtain ⟨a6, c6, rfl, k1, k2, k3, -⟩ := hw6.bytes.get
    have e9 : wr.cell? ⟨hb, 9, none⟩ = some (.slice a6 l6.length c6) := (cell_of_row _ _ 9 _ _ _ hw6.cells).trans (hCells_9 hw6.hst).1
    have hll := hw6.len
    clear hw6
    by_cases hlt : 64 ≤ l6.length
    · go_wp2_with fail
      go_at_call 238
      refine (mix_any hb cb s6 (.slice a6 l6.length c6) (.slice a6 64 c6) ((n : Int) + b.length) (l6.take 64) o wr HW6.out.hst HO.out HW6.out.cells (HW6.out.fr.row HC.out (fun h => hne h.symm)) (IsBytes.head 64 HW6.out.bytes hlt) (by rw [List.length_take]; omega)).mono ?_
      rintro e w7 ⟨rfl, hg7, hf7⟩
      have hm7 : (mixM s6 (l6.take 64)).length = 8 := mix_len HW6.out.hst
      have HM7 : Hid _ := hm7
      have e97 : w7.cell? ⟨hb, 9, none⟩ = some (.slice a6 l6.length c6) := (cell_of_row _ _ 9 _ _ _ hg7).trans (hCells_9 hm7).1
      have HF7 : Hid _ := hf7
      have hfin : ∀ w8, w8.heap[hb]? = some (.cells (hCells cb (mixM s6 (l6.take 64)) (tailV a6 l6.length c6 64) ((n : Int) + b.length)) 285 (0, 0)) → w7.grownBy w8 (some hb) →
          (∃ (st' : List UInt32) (rv' : Value) (r' : B8), Wr w w8 hb cb (absorb st (r ++ b)) ((n : Int) + b.length) st' rv' r') ∧ restLen w8 hb < restLen wr hb := by
        intro w8 hg8 hgr8
        have hk8 : KeepB wr w8 := hf7.keep.trans (KeepB.of_grown hgr8 hg7 (by kernel_rfl))
        have hb8 : IsBytes w8 (.slice a6 l6.length c6) l6 := Row.keepB HW6.out.bytes HW6.out.typ hk8
        have ht8 : TypB w8 (.slice a6 l6.length c6) := HW6.out.typ.keep hk8
        obtain ⟨hb9, ht9⟩ := IsBytes.tailV 64 hb8 hlt ht8
        have hw8 : Wr w w8 hb cb (absorb st (r ++ b)) ((n : Int) + b.length) (mixM s6 (l6.take 64)) (tailV a6 l6.length c6 64) (l6.drop 64) := by
          refine ⟨(HW6.out.fr.trans (hf7.mono fun k hk => .inl hk)).step hgr8 (fun j hj => by cases hj; exact .inl rfl) (by rintro j hj; cases hj; exact not_u8h hg7), hm7, hg8, hb9, ht9, by rw [List.length_drop]; omega, ?_⟩
          have hg := HW6.out.goal
          rw [absorb, if_pos hlt] at hg
          exact hg
        refine ⟨⟨_, _, _, hw8⟩, ?_⟩
        rw [hw8.restLen, HM6.out, List.length_drop]
        omega
      have HFIN : Hid _ := hfin
      clear hf7 hm7 e9 hfin
      go_wp2_with (refine store_field rfl 45 _ _ rfl hb 9 rfl (tailV a6 l6.length c6 64) rfl rfl _ _ hg7 (by rw [hCells_size, HM7.out]; omega) size_bytes _ (hCells_put9 HM7.out) ?_; intro w8 hg8 hgr8)
      all_goals exact HFIN.out w8 hg8 hgr8
    · go_wp2_with fail
      go_end0
      have hg : absorb s6 l6 = (s6, l6) := by rw [absorb, if_neg hlt]
      exact ⟨rfl, s6, _, l6, HW6.out, hg.symm.trans HW6.out.goal⟩

end Go.Proofs.YtfgdmlmfgnhpaaaGreatDoor

/-! sha.Hasher.Copy. Conditions: at most 10000000 bytes. -/
namespace Go.Proofs.YtfgdmlmfgnhpaaaGreatDoor
open Go Go.RowKit
set_option linter.unusedVariables false
set_option linter.unusedSimpArgs false
set_option linter.unusedSectionVars false

set_option maxRecDepth 100000 in
set_option maxHeartbeats 1000000 in
theorem copy_sha (hb cb : Nat) (st : List UInt32) (rv : Value) (r : B8) (n : Nat) (w : World) (hst : st.length = 8)
    (hg : w.heap[hb]? = some (.cells (hCells cb st rv n) 285 (0, 0))) (hr : IsBytes w rv r) (hrl : r.length ≤ 10000000) :
    Calls Tryz.prog 239 #[.pointer (some ⟨hb, 0, none⟩)] w fun e w' => (∃ (g : Nat) (rv' : Value), e = .returned (.pointer (some ⟨g, 0, none⟩)) ∧ w.heap.size ≤ g ∧ w'.heap[g]? = some (.cells (hCells cb st rv' n) 285 (0, 0)) ∧ IsBytes w' rv' r ∧ TypB w' rv') ∧ Ext w w' := by
  obtain ⟨i0, i1, i2, i3, i4, i5, i6, i7, rfl⟩ := list8 hst
  obtain ⟨a, cap, rfl, h1, h2, h3, -⟩ := hr.get
  have HG : Hid _ := hg
  have HR : Hid (IsBytes w (.slice a r.length cap) r) := hr
  have d0 : w.cell? ⟨hb, 0, none⟩ = some (.pointer (some ⟨cb, 0, none⟩)) := (cell_of_row _ _ 0 _ _ _ hg).trans rfl
  have c1 : w.cell? ⟨hb, 1, none⟩ = some (U32 i0) := (cell_of_row _ _ 1 _ _ _ hg).trans rfl
  have c2 : w.cell? ⟨hb, 2, none⟩ = some (U32 i1) := (cell_of_row _ _ 2 _ _ _ hg).trans rfl
  have c3 : w.cell? ⟨hb, 3, none⟩ = some (U32 i2) := (cell_of_row _ _ 3 _ _ _ hg).trans rfl
  have c4 : w.cell? ⟨hb, 4, none⟩ = some (U32 i3) := (cell_of_row _ _ 4 _ _ _ hg).trans rfl
  have c5 : w.cell? ⟨hb, 5, none⟩ = some (U32 i4) := (cell_of_row _ _ 5 _ _ _ hg).trans rfl
  have c6 : w.cell? ⟨hb, 6, none⟩ = some (U32 i5) := (cell_of_row _ _ 6 _ _ _ hg).trans rfl
  have c7 : w.cell? ⟨hb, 7, none⟩ = some (U32 i6) := (cell_of_row _ _ 7 _ _ _ hg).trans rfl
  have c8 : w.cell? ⟨hb, 8, none⟩ = some (U32 i7) := (cell_of_row _ _ 8 _ _ _ hg).trans rfl
  have d2 : w.cell? ⟨hb, 9, none⟩ = some (.slice a r.length cap) := (cell_of_row _ _ 9 _ _ _ hg).trans rfl
  have d3 : w.cell? ⟨hb, 10, none⟩ = some (.int .i64 (n : Int)) := (cell_of_row _ _ 10 _ _ _ hg).trans rfl
  clear hr hg hst
  go_enter Tryz.func239, Tryz.ntmps239
  go_wp2_with fail
  apply wp_region_mix 17 [_, _, _, _, _, _, _, .agg #[U32 i0, U32 i1, U32 i2, U32 i3, U32 i4, U32 i5, U32 i6, U32 i7], _, _, _, _, undef, _, _, _, _] [none, none, none, none, none, none, none, none, none, none, none, none, some (fun u w' => w'.ownsRow w.heap.size 5 1 u r.length (r.map fun x => .int .u8 x.toNat)), none, none, none, none] [[], [0], [1], [2], [], [4], [5], [6], [], [8], [9], [10], [11], [], [13], [14], [15]] (by kernel_rfl) (by kernel_rfl) (by simp [mixV])
  · refine ⟨?_, trivial⟩
    · exact fun _ _ _ he h => owns_ext h he
  · simp (maxSteps := 1000000) only [List.take_succ_cons, List.take_zero, oblFrom, stepObl, fillFrom, Act.put, List.setIfInBounds_toArray, List.set_cons_zero, List.set_cons_succ, knows, getV, mixV, List.getD_cons_zero, List.getD_cons_succ, and_true, true_and, forall_const]
    refine ⟨?_, ?_, ?_, ?_, ?_, ?_, ?_, ?_, ?_, ?_, ?_, ?_, ?_, ?_, ?_, ?_, ?_⟩
    · intro xs wq hq R hR
      have f0 := hq.cell d0; have f2 := hq.cell d2; have f3 := hq.cell d3
      go_simp
      exact hR _ _ (Ext.refl _) rfl
    · intro xs wq hq hk R hR
      have f0 := hq.cell d0; have f2 := hq.cell d2; have f3 := hq.cell d3
      go_simp
      exact hR _ _ (Ext.refl _) rfl
    · intro xs wq hq hk R hR
      have f0 := hq.cell d0; have f2 := hq.cell d2; have f3 := hq.cell d3
      go_simp
      exact hR _ _ (Ext.refl _) rfl
    · intro xs wq hq hk R hR
      have f0 := hq.cell d0; have f2 := hq.cell d2; have f3 := hq.cell d3
      go_simp
      exact hR _ _ (Ext.refl _) rfl
    · intro xs wq hq R hR
      have f0 := hq.cell d0; have f2 := hq.cell d2; have f3 := hq.cell d3
      go_simp
      exact hR _ _ (Ext.refl _) rfl
    · intro xs wq hq hk R hR
      have f0 := hq.cell d0; have f2 := hq.cell d2; have f3 := hq.cell d3
      go_simp
      exact hR _ _ (Ext.refl _) rfl
    · intro xs wq hq hk R hR
      have f0 := hq.cell d0; have f2 := hq.cell d2; have f3 := hq.cell d3
      go_simp
      exact hR _ _ (Ext.refl _) rfl
    · intro xs wq hq hk R hR
      have f1 := hq.cell c1
      have f2 := hq.cell c2
      have f3 := hq.cell c3
      have f4 := hq.cell c4
      have f5 := hq.cell c5
      have f6 := hq.cell c6
      have f7 := hq.cell c7
      have f8 := hq.cell c8
      go_simp
      exact hR _ _ (Ext.refl _) rfl
    · intro xs wq hq R hR
      have f0 := hq.cell d0; have f2 := hq.cell d2; have f3 := hq.cell d3
      go_simp
      exact hR _ _ (Ext.refl _) rfl
    · intro xs wq hq hk R hR
      have f0 := hq.cell d0; have f2 := hq.cell d2; have f3 := hq.cell d3
      go_simp
      exact hR _ _ (Ext.refl _) rfl
    · intro xs wq hq hk R hR
      have f0 := hq.cell d0; have f2 := hq.cell d2; have f3 := hq.cell d3
      go_simp
      exact hR _ _ (Ext.refl _) rfl
    · intro xs wq hq hk R hR
      have f0 := hq.cell d0; have f2 := hq.cell d2; have f3 := hq.cell d3
      go_simp
      exact hR _ _ (Ext.refl _) rfl
    · intro xs wq hq hk R hR
      go_simp
      exact (clone_own _ r _ (HR.out.ext hq) (by omega)).mono (by rintro e' w4 ⟨⟨v2, rfl, h1⟩, h3⟩; exact ⟨_, rfl, hR _ _ h3 (owns_low h1 hq.size)⟩)
    · intro xs wq hq R hR
      have f0 := hq.cell d0; have f2 := hq.cell d2; have f3 := hq.cell d3
      go_simp
      exact hR _ _ (Ext.refl _) rfl
    · intro xs wq hq hk R hR
      have f0 := hq.cell d0; have f2 := hq.cell d2; have f3 := hq.cell d3
      go_simp
      exact hR _ _ (Ext.refl _) rfl
    · intro xs wq hq hk R hR
      have f0 := hq.cell d0; have f2 := hq.cell d2; have f3 := hq.cell d3
      go_simp
      exact hR _ _ (Ext.refl _) rfl
    · intro xs wq hq hk R hR
      have f0 := hq.cell d0; have f2 := hq.cell d2; have f3 := hq.cell d3
      go_simp
      exact hR _ _ (Ext.refl _) rfl
  intro xs w2 hx2 hk
  simp only [heldV, Nat.zero_add, Nat.reduceAdd, and_true] at hk
  have q0 := hk.1
  replace hk := hk.2
  have q1 := hk.1
  replace hk := hk.2
  have q2 := hk.1
  replace hk := hk.2
  have q3 := hk.1
  replace hk := hk.2
  have q4 := hk.1
  replace hk := hk.2
  have q5 := hk.1
  replace hk := hk.2
  have q6 := hk.1
  replace hk := hk.2
  have q7 := hk.1
  replace hk := hk.2
  have q8 := hk.1
  replace hk := hk.2
  have q9 := hk.1
  replace hk := hk.2
  have q10 := hk.1
  replace hk := hk.2
  have q11 := hk.1
  replace hk := hk.2
  have q12 := hk.1
  replace hk := hk.2
  have q13 := hk.1
  replace hk := hk.2
  have q14 := hk.1
  replace hk := hk.2
  have q15 := hk.1
  replace hk := hk.2
  have q16 := hk
  clear hk
  simp (maxSteps := 1000000) only [List.take_succ_cons, List.take_zero, List.drop_succ_cons, List.drop_zero, fillFrom, Act.put, List.setIfInBounds_toArray, List.set_cons_zero, List.set_cons_succ, Nat.zero_add, Nat.reduceAdd, q0, q1, q2, q3, q4, q5, q6, q7, q8, q9, q10, q11, q13, q14, q15, q16]
  clear q0 q1 q2 q3 q4 q5 q6 q7 q8 q9 q10 q11 q13 q14 q15 q16
  generalize xs 12 = x12 at *
  obtain ⟨va, vc, rfl, -⟩ := Row.of_owns q12 (by omega)
  have Q12 : Hid (w2.ownsRow w.heap.size 5 1 (.slice va r.length vc) r.length (r.map fun x => .int .u8 x.toNat)) := q12
  clear q12 d0 d2 d3 c1 c2 c3 c4 c5 c6 c7 c8
  go_wp2_with fail
  obtain ⟨w3, hw3⟩ : ∃ w3, w3 = w2.alloc (.cells (hCells cb [i0, i1, i2, i3, i4, i5, i6, i7] (.slice va r.length vc) n) 285) := ⟨_, rfl⟩
  have hx3 : Ext w2 w3 := by rw [hw3]; exact (Ext.refl _).alloc _
  have hg3 : w3.heap[w2.heap.size]? = some (.cells (hCells cb [i0, i1, i2, i3, i4, i5, i6, i7] (.slice va r.length vc) n) 285 (0, 0)) := by rw [hw3]; exact alloc_at _ _
  have hown := owns_ext Q12.out hx3
  go_ret
  refine ⟨⟨w2.heap.size, .slice va r.length vc, rfl, hx2.size, ?_, ?_, ?_⟩, ?_⟩
  · exact hw3 ▸ hg3
  · exact hw3 ▸ Row.of_owns hown (by omega)
  · exact hw3 ▸ TypB.of_owns hown
  · exact hw3 ▸ hx2.trans hx3

end Go.Proofs.YtfgdmlmfgnhpaaaGreatDoor

/-! sha.Hasher.Sum. Conditions: at most 10000000 bytes. -/
namespace Go.Proofs.YtfgdmlmfgnhpaaaGreatDoor
open Go Go.RowKit
set_option linter.unusedVariables false
set_option linter.unusedSimpArgs false
set_option linter.unusedSectionVars false

def slLen : Value → Nat
  | .slice _ n _ => n
  | _ => 0
theorem padZ_lt (n : Nat) : padZ n < 64 := by unfold padZ; omega
theorem padZ_at {n k : Nat} (hk : k ≤ padZ n) : (n + (1 + k)) % 64 = 56 ↔ k = padZ n := by
  unfold padZ at hk ⊢
  omega

/-- Sum's piece, so far. -/
def padL (n k : Nat) : B8 := 128 :: List.replicate (padZ n) 0 ++ (be8 (8 * n)).take k
theorem padL_full (n : Nat) : padL n 8 = padM n := rfl
theorem padL_snoc (n : Nat) {k : Nat} (h : k < 8) : padL n (k + 1) = padL n k ++ [UInt8.ofNat (8 * n / 2 ^ (56 - 8 * k))] := by
  unfold padL
  rw [List.append_assoc]
  congr 1
  rcases (by omega : k = 0 ∨ k = 1 ∨ k = 2 ∨ k = 3 ∨ k = 4 ∨ k = 5 ∨ k = 6 ∨ k = 7) with rfl | rfl | rfl | rfl | rfl | rfl | rfl | rfl <;> rfl
theorem padL_len (n : Nat) {k : Nat} (h : k ≤ 8) : (padL n k).length = 1 + padZ n + k := by
  unfold padL
  rw [List.length_append, List.length_cons, List.length_replicate, List.length_take, show (be8 (8 * n)).length = 8 from rfl]
  omega

theorem byte_shr (x : UInt32) (k : Nat) (hk : k < 32) : (x.toNat : Int) / (2 ^ k : Int) % 256 = ((UInt8.ofNat (x >>> UInt32.ofNat k).toNat).toNat : Int) := by
  rw [shr32 x k hk]
  generalize (x >>> UInt32.ofNat k).toNat = m
  rw [UInt8.toNat_ofNat']
  exact (Int.natCast_emod m 256).symm

set_option maxRecDepth 100000 in
set_option maxHeartbeats 2000000 in
theorem sumH_any (hb cb : Nat) (st : List UInt32) (rv : Value) (r : B8) (n : Nat) (o : List Value) (w : World) (hst : st.length = 8) (ho : o.length = 3) (hn : n ≤ 10000000)
    (hg : w.heap[hb]? = some (.cells (hCells cb st rv n) 285 (0, 0))) (hc : w.heap[cb]? = some (.cells (kCells o) 283 (0, 0))) (hr : IsBytes w rv r) (hrl : r.length ≤ 10000000) :
    Calls Tryz.prog 177 #[.pointer (some ⟨hb, 0, none⟩)] w fun e w' => (∃ v, e = .returned v ∧ w'.ownsRow w.heap.size 5 1 v 32 (((absorb st (r ++ padM n)).1.flatMap outM).map fun x => .int .u8 x.toNat)) ∧ Ext w w' := by
  have HC : Hid _ := hc
  have HR : Hid (IsBytes w rv r) := hr
  have HST : Hid _ := hst
  have HO : Hid _ := ho
  have HG : Hid _ := hg
  have hcb := (Array.getElem?_eq_some_iff.1 hc).1
  have c10 : w.cell? ⟨hb, 10, none⟩ = some (.int .i64 (n : Int)) := (cell_of_row _ _ 10 _ _ _ hg).trans (hCells_9 hst).2
  clear hc hr hst ho hg
  go_enter Tryz.func177, Tryz.ntmps177
  go_upto_region 2 with (go_at_call 239; go_must (refine (copy_sha hb cb st rv r n w HST.out HG.out HR.out hrl).mono ?_; rintro e w1 ⟨⟨g, rv1, rfl, hgs, hg1, hr1, ht1⟩, hx1⟩))
  have HG1 : Hid _ := hg1
  have HR1 : Hid (IsBytes w1 rv1 r) := hr1
  have HT1 : Hid (TypB w1 rv1) := ht1
  have HX1 : Hid (Ext w w1) := hx1
  have d10 := hx1.cell c10
  have hs1 := hx1.size
  clear hg1 hr1 ht1 hx1 c10
  go_wp2_with fail
  have hwa : Ext w1 (w1.alloc (.cells #[.int .u8 128] 5)) := (Ext.refl _).alloc _
  have howna : (w1.alloc (.cells #[.int .u8 128] 5)).ownsRow w1.heap.size 5 1 (.slice (some ⟨w1.heap.size, 0, none⟩) 1 1) (1 + 0) ((128 :: List.replicate 0 0 : B8).map fun x => .int .u8 x.toNat) := ⟨rfl, .inr ⟨w1.heap.size, 1, #[.int .u8 128], rfl, Nat.le_refl _, alloc_at _ _, Nat.le_refl _, by unfold maxLen; omega, rfl, rfl⟩⟩
  have hpz := padZ_lt n
  have HWA : Hid _ := hwa
  have HOWNA : Hid ((w1.alloc (.cells #[.int .u8 128] 5)).ownsRow w1.heap.size 5 1 (.slice (some ⟨w1.heap.size, 0, none⟩) 1 1) (1 + 0) ((128 :: List.replicate 0 0 : B8).map fun x => .int .u8 x.toNat)) := howna
  clear hwa howna
  go_loopw [5] (fun pv wr => ∃ k : Nat, k ≤ padZ n ∧ wr.ownsRow w1.heap.size 5 1 pv (1 + k) ((128 :: List.replicate k 0 : B8).map fun x => .int .u8 x.toNat) ∧ Ext w1 wr) (fun pv _ => 65 - slLen pv)
  case atStart => exact ⟨0, Nat.zero_le _, HOWNA.out, HWA.out⟩
  case round =>
    obtain ⟨k, hk, hown, hx⟩ := hrel
    have HOWN : Hid (wr.ownsRow w1.heap.size 5 1 u5 (1 + k) ((128 :: List.replicate k 0 : B8).map fun x => .int .u8 x.toNat)) := hown
    obtain ⟨pa, pc, rfl, -⟩ := Row.of_owns hown (by omega)
    have HX : Hid (Ext w1 wr) := hx
    have hsz := hx.size
    have e10 := hx.cell d10
    clear hown hx
    have hat := padZ_at hk
    by_cases hkk : k = padZ n
    · have hm : (((n : Int) + (1 + k : Nat)) % 64 != 56) = false := by simp; omega
      clear hat
      go_wp2_with fail
      have HKK : Hid _ := hkk
      clear hkk hm
      generalize (((n : Int) + (1 + (padZ n : Int))) % 64 != 56) = z27
      generalize ((n : Int) + (1 + (padZ n : Int))) % 64 = z26
      generalize (n : Int) + (1 + (padZ n : Int)) = z25
      generalize (1 + (padZ n : Int)) = z24
      go_loopw [5, 31] (fun pv i wr => ∃ k : Nat, k ≤ 8 ∧ i = .int .i64 k ∧ wr.ownsRow w1.heap.size 5 1 pv (1 + padZ n + k) ((padL n k).map fun x => .int .u8 x.toNat) ∧ Ext w1 wr) (fun _ i _ => 8 - (intOf i).toNat)
      case atStart => exact ⟨0, by omega, rfl, by unfold padL; rw [List.take_zero, List.append_nil, ← HKK.out]; exact HOWN.out, HX.out⟩
      case round =>
        obtain ⟨q, hq, rfl, hown, hx⟩ := hrel
        have HOWQ : Hid (wr.ownsRow w1.heap.size 5 1 u5 (1 + padZ n + q) ((padL n q).map fun x => .int .u8 x.toNat)) := hown
        obtain ⟨pa, pc, rfl, -⟩ := Row.of_owns hown (by omega)
        have HXQ : Hid (Ext w1 wr) := hx
        have hsz := hx.size
        clear hown hx
        by_cases hlt : q < 8
        · have hval : ((n : Int) * 8 / 2 ^ (56 - 8 * q) % 256) = ((UInt8.ofNat (8 * n / 2 ^ (56 - 8 * q))).toNat : Int) := by
            rw [UInt8.toNat_ofNat', Nat.mul_comm 8 n]
            push_cast
            rfl
          have HVAL : Hid _ := hval
          have HPL : Hid _ := padL_snoc n hlt
          generalize hz : UInt8.ofNat (8 * n / 2 ^ (56 - 8 * q)) = z at hval
          have HZ : Hid _ := hz
          have HV2 : Hid _ := hval
          clear hval hz
          go_wp2_with (at_builtin; go_must (refine app_u8 rfl _ _ rfl w1.heap.size _ (1 + padZ n + q) (padL n q) rfl (HOWQ.out.alloc _) wr.heap.size 1 1 [z] rfl rfl (fr := (0, 0)) (by show _ = some (Obj.cells #[Value.int .u8 (z.toNat : Int)] _ _); rw [← HV2.out]; exact alloc_at _ _) (by omega) (by simp; omega) ?_; intro v' w3 hown3 hg3))
          go_roundw
          case rel => exact ⟨q + 1, by omega, by go_num, by rw [HPL.out, HZ.out]; exact hown3, owns_ext_app (HXQ.out.alloc _) (HOWQ.out.alloc _) hg3⟩
          case measure => simp [intOf]; omega
        · have hq8 : q = 8 := by omega
          subst hq8
          have hwr := hsz
          have HG9 : Hid (wr.heap[g]? = some (.cells (hCells cb st rv1 n) 285 (0, 0))) := Ext.row HXQ.out HG1.out
          have HC9 : Hid (wr.heap[cb]? = some (.cells (kCells o) 283 (0, 0))) := Ext.row HXQ.out (Ext.row HX1.out HC.out)
          have HV9 : Hid (IsBytes wr (.slice pa (1 + padZ n + 8) pc) (padM n)) := by
            have h9 := Row.of_owns HOWQ.out (by omega)
            unfold Hid IsBytes
            rw [← padL_full, padL_len n (Nat.le_refl 8)]
            exact h9
          have HT9 : Hid (TypB wr (.slice pa (1 + padZ n + 8) pc)) := TypB.of_owns HOWQ.out
          have hpl : (padM n).length = 1 + padZ n + 8 := padL_len n (Nat.le_refl 8)
          go_upto_region 12 with (go_at_call 176; go_must (refine (write_sha g cb st rv1 _ r (padM n) n o wr HST.out HO.out (by omega) (by omega) HG9.out HC9.out (HR1.out.ext HXQ.out) (TypB.keep HT1.out (KeepB.of_ext HXQ.out)) HV9.out (fun a n c he _ => .inr (HT9.out a n c he)) (by omega) (by omega)).mono ?_; rintro e w5 ⟨rfl, st5, rv5, r5, hw5, hab⟩))
          have hres : (absorb st (r ++ padM n)).1 = st5 := by rw [← hab]
          have HRES : Hid _ := hres
          have hx5 : Ext w w5 := Ext.of_fr (HX1.out.trans HXQ.out) hw5.fr (fun k hk => by cases hk; exact hgs)
          obtain ⟨i0, i1, i2, i3, i4, i5, i6, i7, rfl⟩ := list8 hw5.hst
          have hc5 := hw5.cells
          have c1 : w5.cell? ⟨g, 1, none⟩ = some (U32 i0) := (cell_of_row _ _ 1 _ _ _ hc5).trans rfl
          have c2 : w5.cell? ⟨g, 2, none⟩ = some (U32 i1) := (cell_of_row _ _ 2 _ _ _ hc5).trans rfl
          have c3 : w5.cell? ⟨g, 3, none⟩ = some (U32 i2) := (cell_of_row _ _ 3 _ _ _ hc5).trans rfl
          have c4 : w5.cell? ⟨g, 4, none⟩ = some (U32 i3) := (cell_of_row _ _ 4 _ _ _ hc5).trans rfl
          have c5 : w5.cell? ⟨g, 5, none⟩ = some (U32 i4) := (cell_of_row _ _ 5 _ _ _ hc5).trans rfl
          have c6 : w5.cell? ⟨g, 6, none⟩ = some (U32 i5) := (cell_of_row _ _ 6 _ _ _ hc5).trans rfl
          have c7 : w5.cell? ⟨g, 7, none⟩ = some (U32 i6) := (cell_of_row _ _ 7 _ _ _ hc5).trans rfl
          have c8 : w5.cell? ⟨g, 8, none⟩ = some (U32 i7) := (cell_of_row _ _ 8 _ _ _ hc5).trans rfl
          have HX5 : Hid (Ext w w5) := hx5
          have hs5 := hx5.size
          clear hab hres hw5 hc5 hx5
          go_wp2_with fail
          generalize hF : (#[U32 i0, U32 i1, U32 i2, U32 i3, U32 i4, U32 i5, U32 i6, U32 i7] : Array Value) = F
          generalize hL : [i0, i1, i2, i3, i4, i5, i6, i7] = L at HRES
          have hll : L.length = 8 := by subst hL; rfl
          have hFG : ∀ j, j < 8 → F[j]? = some (U32 (L.getD j 0)) := by
            intro j hj
            subst hF hL
            rcases (by omega : j = 0 ∨ j = 1 ∨ j = 2 ∨ j = 3 ∨ j = 4 ∨ j = 5 ∨ j = 6 ∨ j = 7) with rfl | rfl | rfl | rfl | rfl | rfl | rfl | rfl <;> rfl
          have HFG : Hid _ := hFG
          have HLL : Hid _ := hll
          clear hF hL hFG hll c1 c2 c3 c4 c5 c6 c7 c8
          go_loopw [7, 51] (fun ov i wr => ∃ k : Nat, k ≤ 8 ∧ i = .int .i64 k ∧ wr.ownsRow w.heap.size 5 1 ov (4 * k) (((L.take k).flatMap outM).map fun x => .int .u8 x.toNat) ∧ Ext w wr) (fun _ i _ => 8 - (intOf i).toNat)
          case atStart => exact ⟨0, by omega, rfl, World.ownsRow_nil _ _ _ _, HX5.out⟩
          case round =>
            obtain ⟨j, hj, rfl, hown, hx⟩ := hrel
            have HOWJ : Hid (wr.ownsRow w.heap.size 5 1 u7 (4 * j) (((L.take j).flatMap outM).map fun x => .int .u8 x.toNat)) := hown
            obtain ⟨ja, jc, rfl, -⟩ := Row.of_owns hown (by omega)
            have HXJ : Hid (Ext w wr) := hx
            have hszj := hx.size
            clear hown hx
            by_cases hlt : j < 8
            · have hix := index_words wr (HFG.out j hlt) hlt
              generalize hxx : L.getD j 0 = x at hix
              have HXX : Hid _ := hxx
              obtain ⟨b1, hb1⟩ : ∃ b, UInt8.ofNat (x >>> 24).toNat = b := ⟨_, rfl⟩
              obtain ⟨b2, hb2⟩ : ∃ b, UInt8.ofNat (x >>> 16).toNat = b := ⟨_, rfl⟩
              obtain ⟨b3, hb3⟩ : ∃ b, UInt8.ofNat (x >>> 8).toNat = b := ⟨_, rfl⟩
              obtain ⟨b4, hb4⟩ : ∃ b, UInt8.ofNat x.toNat = b := ⟨_, rfl⟩
              have f1 : (x.toNat : Int) / 16777216 % 256 = (b1.toNat : Int) := by rw [← hb1]; exact byte_shr x 24 (by decide)
              have f2 : (x.toNat : Int) / 65536 % 256 = (b2.toNat : Int) := by rw [← hb2]; exact byte_shr x 16 (by decide)
              have f3 : (x.toNat : Int) / 256 % 256 = (b3.toNat : Int) := by rw [← hb3]; exact byte_shr x 8 (by decide)
              have f4 : (x.toNat : Int) % 256 = (b4.toNat : Int) := by rw [← hb4, UInt8.toNat_ofNat']; exact (Int.natCast_emod _ 256).symm
              have HOUT : Hid (outM x = [b1, b2, b3, b4]) := by unfold Hid outM; rw [hb1, hb2, hb3, hb4]
              clear hb1 hb2 hb3 hb4 hxx
              have hfl : ((L.take j).flatMap outM).length = 4 * j := by
                have h9 := HOWJ.out.1
                simpa using h9
              have HFL : Hid _ := hfl
              clear hfl
              go_wp2_with (at_builtin; go_must (refine app_u8 rfl _ _ rfl w.heap.size _ (4 * j) ((L.take j).flatMap outM) rfl (HOWJ.out.alloc _) wr.heap.size 4 4 [b1, b2, b3, b4] rfl rfl (fr := (0, 0)) (alloc_at _ _) (by omega) (by simp; omega) ?_; intro v' w6 hown6 hg6))
              go_roundw
              case rel =>
                refine ⟨j + 1, by omega, by go_num, ?_, owns_ext_app (HXJ.out.alloc _) (HOWJ.out.alloc _) hg6⟩
                have h9 : (L.take (j + 1)).flatMap outM = (L.take j).flatMap outM ++ [b1, b2, b3, b4] := by
                  rw [List.take_add_one, List.flatMap_append, List.getElem?_eq_getElem (by rw [HLL.out]; exact hlt)]
                  congr 1
                  have h8 : L[j]'(by rw [HLL.out]; exact hlt) = x := by
                    rw [← HXX.out, List.getD_eq_getElem?_getD, List.getElem?_eq_getElem (by rw [HLL.out]; exact hlt)]
                    rfl
                  rw [h8]
                  simpa using HOUT.out
                rw [h9]
                exact hown6
              case measure => simp [intOf]; omega
            · have hj8 : j = 8 := by omega
              subst hj8
              go_wp2_with fail
              go_ret
              have h9 := HOWJ.out
              rw [List.take_of_length_le (by rw [HLL.out]; omega), ← HRES.out] at h9
              exact ⟨⟨_, rfl, h9⟩, HXJ.out⟩
    · have hm : (((n : Int) + (1 + k : Nat)) % 64 != 56) = true := by simp; omega
      clear hat
      go_wp2_with (at_builtin; go_must (refine app_u8 rfl _ _ rfl w1.heap.size _ (1 + k) (128 :: List.replicate k 0) rfl (HOWN.out.alloc _) wr.heap.size 1 1 [0] rfl rfl (alloc_at _ _) (by omega) (by simp; omega) ?_; intro v' w3 hown3 hg3))
      go_roundw
      case rel => exact ⟨k + 1, by omega, by have h9 : (128 :: List.replicate k 0 ++ [0] : B8) = 128 :: List.replicate (k + 1) 0 := (by rw [List.replicate_succ', List.cons_append]); rw [h9] at hown3; exact hown3, owns_ext_app (HX.out.alloc _) (HOWN.out.alloc _) hg3⟩
      case measure =>
        obtain ⟨pa3, pc3, rfl, -⟩ := Row.of_owns hown3 (by omega)
        simp [slLen]; omega

end Go.Proofs.YtfgdmlmfgnhpaaaGreatDoor

/-! sync.Once in a block of its own; sha.New. Conditions: one goroutine. -/
namespace Go.Proofs.YtfgdmlmfgnhpaaaGreatDoor
open Go Go.RowKit
set_option linter.unusedVariables false
set_option linter.unusedSimpArgs false
set_option linter.unusedSectionVars false

theorem disable_any (w : World) : (callFunc 331 #[]).run Tryz.prog w = .ok (.value (.tuple #[])) w := run_call_mark0 Tryz.func331 (by kernel_rfl) (by kernel_rfl) (by kernel_rfl) .disable (by kernel_rfl) w
theorem enable_any (w : World) : (callFunc 333 #[]).run Tryz.prog w = .ok (.value (.tuple #[])) w := run_call_mark0 Tryz.func333 (by kernel_rfl) (by kernel_rfl) (by kernel_rfl) .enable (by kernel_rfl) w
theorem acquire_any (a : Addr) (w : World) : (callFunc 334 #[.pointer (some a)]).run Tryz.prog w = .ok (.value (.tuple #[])) w := run_call_marked Tryz.func334 (by kernel_rfl) (by kernel_rfl) (by kernel_rfl) .acquire (by kernel_rfl) a w
theorem release_any (a : Addr) (w : World) : (callFunc 336 #[.pointer (some a)]).run Tryz.prog w = .ok (.value (.tuple #[])) w := run_call_marked Tryz.func336 (by kernel_rfl) (by kernel_rfl) (by kernel_rfl) .releaseMerge (by kernel_rfl) a w

theorem storeB_deferred (a : Addr) (x : Value) (u : FrameMode) (w : World) (hc : w.cell? a = some x) (hz : w.frozen? a = false) :
    CallsD Tryz.prog 308 #[.pointer (some a), .bool true] u w fun e u' w' => u' = u ∧ (e = .returned (.tuple #[]) ∧ w' = w.drew.setCell a (.int .u32 1)) := by
  have hc' : w.drew.cell? a = some x := by go_simp
  have hz' : w.drew.frozen? a = false := by go_simp
  have hst := run_call_store (P := Tryz.prog) Tryz.func325 (by kernel_rfl) (by kernel_rfl) (by kernel_rfl) (by kernel_rfl) (k := .u32) (y := 1) hc' hz'
  go_enter_d Tryz.func308, Tryz.ntmps308
  go_wp2
  go_region_calls
  all_goals (go_end0; exact ⟨rfl, rfl⟩)

set_option maxRecDepth 100000 in
set_option maxHeartbeats 1000000 in
theorem unlock_deferred (a : Addr) (u : FrameMode) (w : World) (hc : w.cell? a = some (.int .i32 1)) (hz : w.frozen? a = false) :
    CallsD Tryz.prog 307 #[.pointer (some a)] u w fun e u' w' => u' = u ∧ (e = .returned (.tuple #[]) ∧ w' = w.setCell a (.int .i32 0)) := by
  have hd := disable_any
  have he := enable_any
  have hr := release_any
  have hadd := run_call_add (P := Tryz.prog) Tryz.func337 (by kernel_rfl) (by kernel_rfl) (by kernel_rfl) .i32 (by kernel_rfl) (y := -1) (s := 0) hc hz (by simp [go_sem]; rfl)
  have hcv := run_convert_to_unsafe (P := Tryz.prog) (src := 356) (dst := 343) Tryz.underlying356 Tryz.underlying343 (by kernel_rfl) hc
  go_enter_d Tryz.func307, Tryz.ntmps307
  go_wp2
  go_end0
  go_wp2
  go_end0
  exact ⟨rfl, rfl⟩

set_option maxRecDepth 100000 in
set_option maxHeartbeats 1000000 in
theorem lock_free (a : Addr) (w : World) (hc : w.cell? a = some (.int .i32 0)) (hz : w.frozen? a = false) :
    Calls Tryz.prog 306 #[.pointer (some a)] w fun e w' => e = .returned (.tuple #[]) ∧ w' = w.setCell a (.int .i32 1) := by
  have hd := disable_any
  have he := enable_any
  have ha := acquire_any
  have hcas := run_call_cas_hit (P := Tryz.prog) Tryz.func332 (by kernel_rfl) (by kernel_rfl) (by kernel_rfl) .i32 (by kernel_rfl) (y := 1) hc hz
  have hc' : (w.setCell a (.int .i32 1)).cell? a = some (.int .i32 1) := World.cell?_setCell_same w a _ hc
  have hcv := run_convert_to_unsafe (P := Tryz.prog) (src := 356) (dst := 343) Tryz.underlying356 Tryz.underlying343 (by kernel_rfl) hc'
  go_enter Tryz.func306, Tryz.ntmps306
  go_wp2
  first | go_end0 | (simp only [Exit.inBlock, Exit.then]; refine bodyPost_ret (results_none rfl _ _ _) rfl ?_) | refine bodyPost_ret (results_none rfl _ _ _) rfl ?_
  go_wp2
  go_end0
  exact ⟨rfl, rfl⟩

/-- The roots of the primes stand where the program laid them. -/
structure EnvS (w : World) : Prop where
  sq : ∃ fr, w.heap[0]? = some (.cells (shaH.map U32).toArray 280 fr)
  cu : ∃ fr, w.heap[1]? = some (.cells (shaK.map U32).toArray 281 fr)
theorem EnvS.fr {O : Nat → Prop} {w w' : World} (h : EnvS w) (hf : Fr O w w') (ho : ∀ k, O k → 2 ≤ k) : EnvS w' := by
  obtain ⟨f0, h0⟩ := h.sq
  obtain ⟨f1, h1⟩ := h.cu
  exact ⟨⟨f0, hf.row h0 (fun hh => by have := ho _ hh; revert this; decide)⟩, ⟨f1, hf.row h1 (fun hh => by have := ho _ hh; revert this; decide)⟩⟩
theorem EnvS.ext {w w' : World} (h : EnvS w) (hx : Ext w w') : EnvS w' := h.fr (O := fun _ => False) (Fr.of_ext hx) (fun _ hh => hh.elim)
theorem EnvS.two {w : World} (h : EnvS w) : 2 ≤ w.heap.size := by
  obtain ⟨f1, h1⟩ := h.cu
  obtain ⟨f0, h0⟩ := h.sq
  have g1 := (Array.getElem?_eq_some_iff.1 h1).1
  have g0 := (Array.getElem?_eq_some_iff.1 h0).1
  omega
/-- A Once's own cells; a constants' block that is not yet filled, or is. -/
def oCells (d m s : Int) : List Value := [.int .u32 d, .int .i32 m, .int .u32 s]
def eCells (o X : List Value) : Array Value := (o ++ X).toArray

set_option maxRecDepth 100000 in
set_option maxHeartbeats 2000000 in
theorem fill_any (b : Nat) (o X : List Value) (w : World) (ho : o.length = 3) (hX : X.length = 72) (hE : EnvS w) (hb : 2 ≤ b) (hg : w.heap[b]? = some (.cells (eCells o X) 283 (0, 0))) :
    Calls Tryz.prog 237 #[.pointer (some ⟨b, 0, none⟩)] w fun e w' => e = .returned (.tuple #[]) ∧ w'.heap[b]? = some (.cells (kCells o) 283 (0, 0)) ∧ Fr (fun k => k = b) w w' := by
  obtain ⟨f0, h0⟩ := hE.sq
  obtain ⟨f1, h1⟩ := hE.cu
  have hs8 : (shaH.map U32).toArray.size = 8 := by simp; rfl
  have hs64 : (shaK.map U32).toArray.size = 64 := by simp; rfl
  have hone8 : ∀ v ∈ (shaH.map U32).toArray.toList, v.oneCell' = true := by intro v hv; simp only [List.toList_toArray, List.mem_map] at hv; obtain ⟨x, -, rfl⟩ := hv; rfl
  have hone64 : ∀ v ∈ (shaK.map U32).toArray.toList, v.oneCell' = true := by intro v hv; simp only [List.toList_toArray, List.mem_map] at hv; obtain ⟨x, -, rfl⟩ := hv; rfl
  generalize hV8 : (shaH.map U32).toArray = V8 at h0 hs8 hone8
  generalize hV64 : (shaK.map U32).toArray = V64 at h1 hs64 hone64
  have hsz : (eCells o X).size = 75 := by unfold eCells; simp [ho, hX]
  have hsz2 : (eCells o (V8.toList ++ X.drop 8)).size = 75 := by unfold eCells; simp [ho, hX, hs8]
  have hl8 : V8.toList.length = 8 := by rw [Array.length_toList]; exact hs8
  have hl64 : V64.toList.length = 64 := by rw [Array.length_toList]; exact hs64
  have hn1 : eCells o (V8.toList ++ X.drop 8) = ((eCells o X).toList.take 3 ++ V8.toList ++ (eCells o X).toList.drop (3 + V8.size)).toArray := by
    unfold eCells
    simp only [List.toList_toArray]
    have hd : (o ++ X).drop (3 + V8.size) = X.drop 8 := by
      have hdo : o.drop (3 + 8) = [] := List.drop_eq_nil_of_le (by omega)
      rw [hs8, List.drop_append, hdo, List.nil_append, ho]
    rw [List.take_left' ho, hd, List.append_assoc]
  have hn2 : kCells o = ((eCells o (V8.toList ++ X.drop 8)).toList.take 11 ++ V64.toList ++ (eCells o (V8.toList ++ X.drop 8)).toList.drop (11 + V64.size)).toArray := by
    have hk : kCells o = (o ++ (V8.toList ++ V64.toList)).toArray := by rw [← hV8, ← hV64]; rfl
    rw [hk]
    unfold eCells
    simp only [List.toList_toArray]
    have hd : (o ++ (V8.toList ++ X.drop 8)).drop (11 + V64.size) = [] := List.drop_eq_nil_of_le (by rw [List.length_append, List.length_append, List.length_drop]; omega)
    have ht : (o ++ (V8.toList ++ X.drop 8)).take 11 = o ++ V8.toList := by rw [← List.append_assoc]; exact List.take_left' (by rw [List.length_append]; omega)
    rw [hd, ht, List.append_nil, List.append_assoc]
  have HN1 : Hid _ := hn1
  have HN2 : Hid _ := hn2
  clear hn1 hn2 hV8 hV64 hE
  go_enter Tryz.func237, Tryz.ntmps237
  go_wp2_with (first
    | (refine wpList_load_row rfl 280 _ rfl 0 rfl 280 V8 f0 _ h0 Tryz.underlying280 rfl (by rw [hs8]; exact size_a8) ?_)
    | (refine wpList_load_row rfl 281 _ rfl 1 rfl 281 V64 f1 _ h1 Tryz.underlying281 rfl (by rw [hs64]; exact size_a64) ?_)
    | (refine store_all rfl 280 _ _ rfl b 3 rfl V8 rfl hone8 _ (eCells o X) hg (by omega) (by rw [hs8]; exact size_a8) _ HN1.out ?_; intro w2 hg2 hgr2)
    | (refine store_all rfl 281 _ _ rfl b 11 rfl V64 rfl hone64 _ (eCells o (V8.toList ++ X.drop 8)) hg2 (by omega) (by rw [hs64]; exact size_a64) _ HN2.out ?_; intro w3 hg3 hgr3))
  go_end0
  have hu : ∀ {w9 : World} {cs : Array Value}, w9.heap[b]? = some (.cells cs 283 (0, 0)) → ¬ IsU8 w9 b := fun h => cells_u8 h (by kernel_rfl)
  exact ⟨rfl, hg3, ((Fr.refl _ w).step hgr2 (fun j hj => by cases hj; exact .inl rfl) (by rintro j hj; cases hj; exact hu hg)).step hgr3 (fun j hj => by cases hj; exact .inl rfl) (by rintro j hj; cases hj; exact hu hg2)⟩

/-- A Once's cells in a constants' block. -/
theorem e_cell {w : World} {b j : Nat} {o X : List Value} {v : Value} (hg : w.heap[b]? = some (.cells (eCells o X) 283 (0, 0))) (hj : (o ++ X)[j]? = some v) : w.cell? ⟨b, j, none⟩ = some v :=
  (cell_of_row _ _ j _ _ _ hg).trans (by unfold eCells; simpa using hj)
theorem e_frz {w : World} {b j : Nat} {cs : Array Value} (hg : w.heap[b]? = some (.cells cs 283 (0, 0))) : w.frozen? ⟨b, j, none⟩ = false := by simp [World.frozen?, hg]
theorem e_put0 {w : World} {b : Nat} {d m s x : Int} {X : List Value} (hg : w.heap[b]? = some (.cells (eCells (oCells d m s) X) 283 (0, 0))) : (w.setCell ⟨b, 0, none⟩ (.int .u32 x)).heap[b]? = some (.cells (eCells (oCells x m s) X) 283 (0, 0)) := by
  rw [heap_setCell_same w b 0 _ _ _ hg]; simp [eCells, oCells]
theorem e_put1 {w : World} {b : Nat} {d m s x : Int} {X : List Value} (hg : w.heap[b]? = some (.cells (eCells (oCells d m s) X) 283 (0, 0))) : (w.setCell ⟨b, 1, none⟩ (.int .i32 x)).heap[b]? = some (.cells (eCells (oCells d x s) X) 283 (0, 0)) := by
  rw [heap_setCell_same w b 1 _ _ _ hg]; simp [eCells, oCells]
theorem e_fr {w : World} {b j : Nat} {v : Value} {cs : Array Value} (hg : w.heap[b]? = some (.cells cs 283 (0, 0))) {O : Nat → Prop} {w0 : World} (h : Fr O w0 w) (hb : O b) : Fr O w0 (w.setCell ⟨b, j, none⟩ v) :=
  h.step (setCell_grown w b j v) (fun k hk => by cases hk; exact .inl hb) (by rintro k hk; cases hk; exact cells_u8 hg (by kernel_rfl))

set_option maxRecDepth 100000 in
theorem loadB_any (a : Addr) (x : Int) (y : Bool) (w : World) (h0 : w.cell? a = some (.int .u32 x)) (hx : (x != 0) = y) :
    Calls Tryz.prog 264 #[.pointer (some a)] w fun e w' => e = .returned (.bool y) ∧ w' = w := by
  have hl := run_call_load (P := Tryz.prog) Tryz.func305 (by kernel_rfl) (by kernel_rfl) (by kernel_rfl) .u32 (by kernel_rfl) h0
  go_enter Tryz.func264, Tryz.ntmps264
  go_wp2
  go_ret
  exact ⟨by first | rfl | rw [hx], rfl⟩

set_option maxRecDepth 100000 in
set_option maxHeartbeats 2000000 in
theorem slow_fill (b : Nat) (s : Int) (X : List Value) (w : World) (hX : X.length = 72) (hE : EnvS w) (hb : 2 ≤ b) (hg : w.heap[b]? = some (.cells (eCells (oCells 0 0 s) X) 283 (0, 0))) :
    Calls Tryz.prog 265 #[.pointer (some ⟨b, 0, none⟩), .func (.func 237) #[.pointer (some ⟨b, 0, none⟩)] #[]] w fun e w' => e = .returned (.tuple #[]) ∧ w'.heap[b]? = some (.cells (kCells (oCells 1 0 s)) 283 (0, 0)) ∧ Fr (fun k => k = b) w w' := by
  have hg1 := e_put1 (x := 1) hg
  have hf1 : Fr (fun k => k = b) w (w.setCell ⟨b, 1, none⟩ (.int .i32 1)) := e_fr hg (Fr.refl _ w) rfl
  have hE1 : EnvS (w.setCell ⟨b, 1, none⟩ (.int .i32 1)) := hE.fr hf1 (fun k hk => by subst hk; exact hb)
  have hnot : ∀ (x : Bool) (w : World), (Op.unary .not (.bool x)).run Tryz.prog w = .ok (.bool (!x)) w := fun _ _ => rfl
  have HG1 : Hid _ := hg1
  have HF1 : Hid _ := hf1
  have HG : Hid _ := hg
  have HE1 : Hid (EnvS (w.setCell ⟨b, 1, none⟩ (.int .i32 1))) := hE1
  clear hg1 hf1 hE hE1 hg
  go_enter_defers Tryz.func265, Tryz.ntmps265
  go_wp2_with (first | (go_at_call 306; go_must (refine (lock_free ⟨b, 1, none⟩ w (e_cell HG.out rfl) (e_frz HG.out)).mono ?_; rintro e w' ⟨rfl, rfl⟩)) | (go_at_call 264; go_must (refine (loadB_any ⟨b, 0, none⟩ 0 false _ (e_cell HG1.out rfl) rfl).mono ?_; rintro e w' ⟨rfl, rfl⟩)) | (go_at_call 237; go_must (refine (fill_any b (oCells 0 1 s) X _ rfl hX HE1.out hb HG1.out).mono ?_; rintro e w2 ⟨rfl, hg2, hf2⟩)))
  have hg2e : w2.heap[b]? = some (.cells (eCells (oCells 0 1 s) (shaH.map U32 ++ shaK.map U32)) 283 (0, 0)) := hg2
  have hg2d : w2.drew.heap[b]? = some (.cells (eCells (oCells 0 1 s) (shaH.map U32 ++ shaK.map U32)) 283 (0, 0)) := hg2
  have hg3 := e_put0 (x := 1) hg2d
  have hg4 := e_put1 (x := 0) hg3
  have hf4 : Fr (fun k => k = b) w (((w2.drew.setCell ⟨b, 0, none⟩ (.int .u32 1))).setCell ⟨b, 1, none⟩ (.int .i32 0)) := e_fr hg3 (e_fr hg2d ((HF1.out.trans (hf2.mono (fun k hk => .inl hk))).ext (Ext.refl _).drew) rfl) rfl
  refine leaves_cons (f := 308) (args := #[.pointer (some ⟨b, 0, none⟩), .bool true]) (by simp) (by simp [go_sem]) ?_
  refine (storeB_deferred ⟨b, 0, none⟩ (.int .u32 0) .returning w2 (e_cell hg2e rfl) (e_frz hg2e)).mono ?_
  rintro e u' w'' ⟨rfl, rfl, rfl⟩
  refine leaves_cons (f := 307) (args := #[.pointer (some ⟨b, 1, none⟩)]) (by simp [Go.settle]) (by simp [go_sem]) ?_
  refine (unlock_deferred ⟨b, 1, none⟩ _ _ (e_cell hg3 rfl) (e_frz hg3)).mono ?_
  rintro e u' w'' ⟨rfl, rfl, rfl⟩
  simp [Leaves, Go.settle, results, Tryz.results265]
  exact ⟨hg4, hf4⟩

set_option maxRecDepth 100000 in
set_option maxHeartbeats 2000000 in
theorem do_fill (b : Nat) (s : Int) (X : List Value) (w : World) (hX : X.length = 72) (hE : EnvS w) (hb : 2 ≤ b) (hg : w.heap[b]? = some (.cells (eCells (oCells 0 0 s) X) 283 (0, 0))) :
    Calls Tryz.prog 214 #[.pointer (some ⟨b, 0, none⟩), .func (.func 237) #[.pointer (some ⟨b, 0, none⟩)] #[]] w fun e w' => e = .returned (.tuple #[]) ∧ w'.heap[b]? = some (.cells (kCells (oCells 1 0 s)) 283 (0, 0)) ∧ Fr (fun k => k = b) w w' := by
  have hnot : ∀ (x : Bool) (w : World), (Op.unary .not (.bool x)).run Tryz.prog w = .ok (.bool (!x)) w := fun _ _ => rfl
  have HG : Hid _ := hg
  have HE : Hid (EnvS w) := hE
  clear hg hE
  go_enter Tryz.func214, Tryz.ntmps214
  go_wp2_with (first | (go_at_call 264; go_must (refine (loadB_any ⟨b, 0, none⟩ 0 false _ (e_cell HG.out rfl) rfl).mono ?_; rintro e w' ⟨rfl, rfl⟩)) | (go_at_call 265; go_must (refine (slow_fill b s X _ hX HE.out hb HG.out).mono ?_; rintro e w2 ⟨rfl, hg2, hf2⟩)))
  go_end0
  exact ⟨rfl, hg2, hf2⟩

end Go.Proofs.YtfgdmlmfgnhpaaaGreatDoor

/-! sha.New, Sum, ID. Conditions: at most 100000 bytes; the roots of the primes as laid. -/
namespace Go.Proofs.YtfgdmlmfgnhpaaaGreatDoor
open Go Go.RowKit
set_option linter.unusedVariables false
set_option linter.unusedSimpArgs false
set_option linter.unusedSectionVars false

theorem zero_c : Tryz.zeroCells283 = eCells (oCells 0 0 0) (List.replicate 72 (.int .u32 0)) := by first | rfl | kernel_rfl
def zX : List Value := List.replicate 72 (.int .u32 0)

set_option maxRecDepth 100000 in
set_option maxHeartbeats 2000000 in
theorem new_sha (w : World) (hE : EnvS w) : Calls Tryz.prog 175 #[] w fun e w' => (∃ hb cb : Nat, e = .returned (.pointer (some ⟨hb, 0, none⟩)) ∧ hb ≠ cb ∧ w.heap.size ≤ hb ∧ w.heap.size ≤ cb ∧ w'.heap[cb]? = some (.cells (kCells (oCells 1 0 0)) 283 (0, 0)) ∧ w'.heap[hb]? = some (.cells (hCells cb shaH (.slice none 0 0) (0 : Nat)) 285 (0, 0))) ∧ Ext w w' := by
  obtain ⟨w1, hw1⟩ : ∃ w1, w1 = w.alloc (.cells (eCells (oCells 0 0 0) zX) 283) := ⟨_, rfl⟩
  have hx1 : Ext w w1 := by rw [hw1]; exact (Ext.refl _).alloc _
  have hg1 : w1.heap[w.heap.size]? = some (.cells (eCells (oCells 0 0 0) zX) 283 (0, 0)) := by rw [hw1]; exact alloc_at _ _
  have hE1 : EnvS w1 := hE.ext hx1
  have h2 := hE.two
  have HG1 : Hid _ := hg1
  have HE1 : Hid (EnvS w1) := hE1
  have HX1 : Hid (Ext w w1) := hx1
  have HW1 : Hid _ := hw1
  clear hg1 hE1 hx1 hw1 hE
  have hmf : ∀ (fn : Fn) (first cap : Array Value) (w : World), (Instr.makeFunc fn first cap).run Tryz.prog w = .ok (.func fn first cap) w := fun _ _ _ _ => rfl
  go_enter Tryz.func175, Tryz.ntmps175
  go_upto_region 2 with fail
  rw [show w.alloc (.cells Tryz.zeroCells283 283) = w1 from (congrArg (fun c => w.alloc (.cells c 283)) zero_c).trans HW1.out.symm]
  generalize Tryz.zeroCells283 = zc
  go_upto_region 3 with (go_at_call 214; go_must (refine (do_fill w.heap.size 0 zX w1 rfl HE1.out h2 HG1.out).mono ?_; rintro e w2 ⟨rfl, hg2, hf2⟩))
  have hx2 : Ext w w2 := Ext.of_fr HX1.out hf2 (fun k hk => by cases hk; exact Nat.le_refl _)
  obtain ⟨i0, i1, i2, i3, i4, i5, i6, i7, hH⟩ := list8 (show shaH.length = 8 from rfl)
  have hk : kCells (oCells 1 0 0) = (oCells 1 0 0 ++ ([i0, i1, i2, i3, i4, i5, i6, i7].map U32 ++ shaK.map U32)).toArray := by unfold kCells; rw [hH]
  have hg2' := hg2
  rw [hk] at hg2'
  have c1 : w2.cell? ⟨w.heap.size, 3, none⟩ = some (U32 i0) := (cell_of_row _ _ 3 _ _ _ hg2').trans rfl
  have c2 : w2.cell? ⟨w.heap.size, 4, none⟩ = some (U32 i1) := (cell_of_row _ _ 4 _ _ _ hg2').trans rfl
  have c3 : w2.cell? ⟨w.heap.size, 5, none⟩ = some (U32 i2) := (cell_of_row _ _ 5 _ _ _ hg2').trans rfl
  have c4 : w2.cell? ⟨w.heap.size, 6, none⟩ = some (U32 i3) := (cell_of_row _ _ 6 _ _ _ hg2').trans rfl
  have c5 : w2.cell? ⟨w.heap.size, 7, none⟩ = some (U32 i4) := (cell_of_row _ _ 7 _ _ _ hg2').trans rfl
  have c6 : w2.cell? ⟨w.heap.size, 8, none⟩ = some (U32 i5) := (cell_of_row _ _ 8 _ _ _ hg2').trans rfl
  have c7 : w2.cell? ⟨w.heap.size, 9, none⟩ = some (U32 i6) := (cell_of_row _ _ 9 _ _ _ hg2').trans rfl
  have c8 : w2.cell? ⟨w.heap.size, 10, none⟩ = some (U32 i7) := (cell_of_row _ _ 10 _ _ _ hg2').trans rfl
  have hlt2 := (Array.getElem?_eq_some_iff.1 hg2).1
  obtain ⟨w3, hw3⟩ : ∃ w3, w3 = w2.alloc (.cells (hCells w.heap.size [i0, i1, i2, i3, i4, i5, i6, i7] (.slice none 0 0) (0 : Nat)) 285) := ⟨_, rfl⟩
  have hx3 : Ext w2 w3 := by rw [hw3]; exact (Ext.refl _).alloc _
  have hg3 : w3.heap[w2.heap.size]? = some (.cells (hCells w.heap.size [i0, i1, i2, i3, i4, i5, i6, i7] (.slice none 0 0) (0 : Nat)) 285 (0, 0)) := by rw [hw3]; exact alloc_at _ _
  have HX2 : Hid (Ext w w2) := hx2
  have HX3 : Hid (Ext w2 w3) := hx3
  have HG3 : Hid _ := hg3
  have HW3 : Hid _ := hw3
  have HG2 : Hid _ := hg2
  have HH : Hid _ := hH
  have hs2 := hx2.size
  clear hg2 hg2' hk hf2 hH hx2 hx3 hg3 hw3
  go_wp2_with fail
  go_ret
  rw [HH.out]
  have hfin : w2.alloc (.cells (hCells w.heap.size [i0, i1, i2, i3, i4, i5, i6, i7] (.slice none 0 0) (0 : Nat)) 285) = w3 := HW3.out.symm
  refine ⟨⟨w2.heap.size, w.heap.size, rfl, by omega, hs2, Nat.le_refl _, ?_, ?_⟩, ?_⟩
  · exact hfin ▸ Ext.row HX3.out HG2.out
  · exact hfin ▸ HG3.out
  · exact hfin ▸ HX2.out.trans HX3.out

theorem absorb_rest (h : List UInt32) (l : B8) : (absorb h l).2.length < 64 := by
  induction h, l using absorb.induct with
  | case1 h l hc ih => rw [absorb, if_pos hc]; exact ih
  | case2 h l hc => rw [absorb, if_neg hc]; show l.length < 64; omega

set_option maxRecDepth 100000 in
set_option maxHeartbeats 2000000 in
theorem sum_sha (v : Value) (l : B8) (w : World) (hE : EnvS w) (hv : IsBytes w v l) (hl : l.length ≤ 10000000) :
    Calls Tryz.prog 119 #[v] w fun e w' => (∃ v', e = .returned v' ∧ w'.ownsRow w.heap.size 5 1 v' 32 ((sumM l).map fun x => .int .u8 x.toNat)) ∧ Ext w w' := by
  have HE : Hid (EnvS w) := hE
  have HV : Hid (IsBytes w v l) := hv
  obtain ⟨a, cap, rfl, h1, h2, h3, h4⟩ := hv.get
  have hout : ∀ (k : Nat), w.heap.size ≤ k → ∀ w1, Out (fun j => j = k) w1 (.slice a l.length cap) := by
    intro k hk w1 a' n' c' he hn'
    simp only [Value.slice.injEq] at he
    obtain ⟨rfl, rfl, rfl⟩ := he
    obtain ⟨b, o, hb, hc⟩ := h4 0 (by omega)
    cases hb
    have hlt := World.block_lt_of_cell? _ _ (hc 0 (by omega))
    exact .inl (fun h => by dsimp only at h hlt; omega)
  have HOUT : Hid (∀ (k : Nat), w.heap.size ≤ k → ∀ w1, Out (fun j => j = k) w1 (.slice a l.length cap)) := hout
  clear h4 hout hv hE
  go_enter Tryz.func119, Tryz.ntmps119
  go_upto_region 2 with (go_at_call 175; go_must (refine (new_sha w HE.out).mono ?_; rintro e w1 ⟨⟨hb, cb, rfl, hne, hb1, hb2, hgc, hgh⟩, hx1⟩))
  have HGC : Hid _ := hgc
  have HGH : Hid _ := hgh
  have HX1 : Hid (Ext w w1) := hx1
  clear hgc hgh hx1
  go_upto_region 3 with (go_at_call 176; go_must (refine (write_sha hb cb shaH (.slice none 0 0) (.slice a l.length cap) [] l 0 (oCells 1 0 0) w1 rfl rfl hne (by omega) HGH.out HGC.out (IsBytes.nil _) (TypB.nil _ _ _) (HV.out.ext HX1.out) (HOUT.out hb hb1 w1) (by simp) hl).mono ?_; rintro e w2 ⟨rfl, st2, rv2, r2, hw2, hab⟩))
  rw [List.nil_append] at hw2 hab
  have hx2 : Ext w w2 := Ext.of_fr HX1.out hw2.fr (fun k hk => by cases hk; exact hb1)
  have hgc2 := hw2.fr.row HGC.out (fun h => hne h.symm)
  have hgh2 : w2.heap[hb]? = some (.cells (hCells cb st2 rv2 (l.length : Nat)) 285 (0, 0)) := by
    have h9 := hw2.cells
    rwa [show (((0 : Nat) : Int) + (l.length : Int)) = ((l.length : Nat) : Int) by omega] at h9
  have hr2 : r2.length < 64 := by
    have h9 := absorb_rest shaH l
    rw [← hab] at h9
    exact h9
  have hsum : sumM l = (absorb st2 (r2 ++ padM l.length)).1.flatMap outM := by unfold sumM; rw [← hab]
  have HX2 : Hid (Ext w w2) := hx2
  have HW2 : Hid (Wr w1 w2 hb cb (absorb shaH l) (((0 : Nat) : Int) + l.length) st2 rv2 r2) := hw2
  have HGC2 : Hid _ := hgc2
  have HGH2 : Hid _ := hgh2
  have HSUM : Hid _ := hsum
  have hs2 := hx2.size
  clear hx2 hgc2 hgh2 hsum hw2 hab
  go_wp2_with (go_at_call 177; go_must (refine (sumH_any hb cb st2 rv2 r2 l.length (oCells 1 0 0) w2 HW2.out.hst rfl hl HGH2.out HGC2.out HW2.out.bytes (by omega)).mono ?_; rintro e w3 ⟨⟨v3, rfl, hown3⟩, hx3⟩))
  go_ret
  rw [HSUM.out]
  exact ⟨⟨_, rfl, owns_low hown3 hs2⟩, HX2.out.trans hx3⟩

theorem sum32 (l : B8) {w : World} {base : Nat} {v : Value} (h : w.ownsRow base 5 1 v 32 ((sumM l).map fun x => .int .u8 x.toNat)) : (sumM l).length = 32 := by
  have h9 := h.1
  simpa using h9

set_option maxRecDepth 100000 in
set_option maxHeartbeats 2000000 in
theorem id_sha (v : Value) (l : B8) (w : World) (hE : EnvS w) (hv : IsBytes w v l) (hl : l.length ≤ 10000000) :
    Calls Tryz.prog 35 #[v] w fun e w' => e = .returned (S8 (shaM l)) ∧ Ext w w' := by
  have HE : Hid (EnvS w) := hE
  have HV : Hid (IsBytes w v l) := hv
  clear hv hE
  go_enter Tryz.func35, Tryz.ntmps35
  go_wp2_with (first
    | (go_at_call 119; go_must (refine (sum_sha v l w HE.out HV.out hl).mono ?_; rintro e w1 ⟨⟨v1, rfl, hown1⟩, hx1⟩; have h32 := sum32 l hown1; have hb1 : IsBytes w1 v1 (sumM l) := by unfold IsBytes; rw [h32]; exact Row.of_owns hown1 (by omega)))
    | (go_at_call 118; go_must (refine (hex_any v1 (sumM l) w1 hb1 (by omega)).mono ?_; rintro e w2 ⟨rfl, hx2⟩)))
  go_ret
  exact ⟨rfl, hx1.trans hx2⟩

end Go.Proofs.YtfgdmlmfgnhpaaaGreatDoor
