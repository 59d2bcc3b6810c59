/- refs.Set. Conditions: as each theorem states. -/
import Derived.Test.YtfimfbdlegookaaGreatDoorZae
import Derived.Defers
import Derived.Laws.Pointers
import Derived.Laws.LoneSync
import Derived.RegionCalls
import Derived.ChangeAlike
import Derived.Laws.NewBlocks
import Derived.Test.YtfimfbdlegookaaGreatDoorZad
import Derived.Test.YtfimfbdlegookaaGreatDoorZaa
import Derived.Test.YtfimfbdlegookaaGreatDoorZab
import Derived.Lib.ConvBytes

set_option linter.unusedVariables false
set_option linter.unusedSimpArgs false

/-! sync.Once in a block of its own; sha.New. Conditions: one goroutine. -/
namespace Go.Proofs.YtfimfbdlegookaaGreatDoor
open Go Go.RowKit
set_option linter.unusedVariables false
set_option linter.unusedSimpArgs false
set_option linter.unusedSectionVars false

theorem disable_any (w : World) : (callFunc 276 #[]).run Tryz.prog w = .ok (.value (.tuple #[])) w := run_call_mark0 Tryz.func276 (by kernel_rfl) (by kernel_rfl) (by kernel_rfl) .disable (by kernel_rfl) w
theorem enable_any (w : World) : (callFunc 278 #[]).run Tryz.prog w = .ok (.value (.tuple #[])) w := run_call_mark0 Tryz.func278 (by kernel_rfl) (by kernel_rfl) (by kernel_rfl) .enable (by kernel_rfl) w
theorem acquire_any (a : Addr) (w : World) : (callFunc 279 #[.pointer (some a)]).run Tryz.prog w = .ok (.value (.tuple #[])) w := run_call_marked Tryz.func279 (by kernel_rfl) (by kernel_rfl) (by kernel_rfl) .acquire (by kernel_rfl) a w
theorem release_any (a : Addr) (w : World) : (callFunc 281 #[.pointer (some a)]).run Tryz.prog w = .ok (.value (.tuple #[])) w := run_call_marked Tryz.func281 (by kernel_rfl) (by kernel_rfl) (by kernel_rfl) .releaseMerge (by kernel_rfl) a w

theorem storeB_deferred (a : Addr) (x : Value) (u : FrameMode) (w : World) (hc : w.cell? a = some x) (hz : w.frozen? a = false) :
    CallsD Tryz.prog 231 #[.pointer (some a), .bool true] u w fun e u' w' => u' = u ∧ (e = .returned (.tuple #[]) ∧ w' = w.drew.setCell a (.int .u32 1)) := by
  have hc' : w.drew.cell? a = some x := by go_simp
  have hz' : w.drew.frozen? a = false := by go_simp
  have hst := run_call_store (P := Tryz.prog) Tryz.func265 (by kernel_rfl) (by kernel_rfl) (by kernel_rfl) (by kernel_rfl) (k := .u32) (y := 1) hc' hz'
  go_enter_d Tryz.func231, Tryz.ntmps231
  go_wp2
  go_region_calls
  all_goals (go_end0; exact ⟨rfl, rfl⟩)

set_option maxRecDepth 100000 in
set_option maxHeartbeats 1000000 in
theorem unlock_deferred (a : Addr) (u : FrameMode) (w : World) (hc : w.cell? a = some (.int .i32 1)) (hz : w.frozen? a = false) :
    CallsD Tryz.prog 230 #[.pointer (some a)] u w fun e u' w' => u' = u ∧ (e = .returned (.tuple #[]) ∧ w' = w.setCell a (.int .i32 0)) := by
  have hd := disable_any
  have he := enable_any
  have hr := release_any
  have hadd := run_call_add (P := Tryz.prog) Tryz.func282 (by kernel_rfl) (by kernel_rfl) (by kernel_rfl) .i32 (by kernel_rfl) (y := -1) (s := 0) hc hz (by simp [go_sem]; rfl)
  have hcv := run_convert_to_unsafe (P := Tryz.prog) (src := 298) (dst := 302) Tryz.underlying298 Tryz.underlying302 (by kernel_rfl) hc
  go_enter_d Tryz.func230, Tryz.ntmps230
  go_wp2
  go_end0
  go_wp2
  go_end0
  exact ⟨rfl, rfl⟩

set_option maxRecDepth 100000 in
set_option maxHeartbeats 1000000 in
theorem lock_free (a : Addr) (w : World) (hc : w.cell? a = some (.int .i32 0)) (hz : w.frozen? a = false) :
    Calls Tryz.prog 229 #[.pointer (some a)] w fun e w' => e = .returned (.tuple #[]) ∧ w' = w.setCell a (.int .i32 1) := by
  have hd := disable_any
  have he := enable_any
  have ha := acquire_any
  have hcas := run_call_cas_hit (P := Tryz.prog) Tryz.func277 (by kernel_rfl) (by kernel_rfl) (by kernel_rfl) .i32 (by kernel_rfl) (y := 1) hc hz
  have hc' : (w.setCell a (.int .i32 1)).cell? a = some (.int .i32 1) := World.cell?_setCell_same w a _ hc
  have hcv := run_convert_to_unsafe (P := Tryz.prog) (src := 298) (dst := 302) Tryz.underlying298 Tryz.underlying302 (by kernel_rfl) hc'
  go_enter Tryz.func229, Tryz.ntmps229
  go_wp2
  first | go_end0 | (simp only [Exit.inBlock, Exit.then]; refine bodyPost_ret (results_none rfl _ _ _) rfl ?_) | refine bodyPost_ret (results_none rfl _ _ _) rfl ?_
  go_wp2
  go_end0
  exact ⟨rfl, rfl⟩

/-- The roots of the primes stand where the program laid them. -/
structure EnvS (w : World) : Prop where
  sq : ∃ fr, w.heap[0]? = some (.cells (shaH.map U32).toArray 243 fr)
  cu : ∃ fr, w.heap[1]? = some (.cells (shaK.map U32).toArray 244 fr)
theorem EnvS.fr {O : Nat → Prop} {w w' : World} (h : EnvS w) (hf : Fr O w w') (ho : ∀ k, O k → 2 ≤ k) : EnvS w' := by
  obtain ⟨f0, h0⟩ := h.sq
  obtain ⟨f1, h1⟩ := h.cu
  exact ⟨⟨f0, hf.row h0 (fun hh => by have := ho _ hh; revert this; decide)⟩, ⟨f1, hf.row h1 (fun hh => by have := ho _ hh; revert this; decide)⟩⟩
theorem EnvS.ext {w w' : World} (h : EnvS w) (hx : Ext w w') : EnvS w' := h.fr (O := fun _ => False) (Fr.of_ext hx) (fun _ hh => hh.elim)
theorem EnvS.two {w : World} (h : EnvS w) : 2 ≤ w.heap.size := by
  obtain ⟨f1, h1⟩ := h.cu
  exact (Array.getElem?_eq_some_iff.1 h1).1
/-- A Once's own cells; a constants' block that is not yet filled, or is. -/
def oCells (d m s : Int) : List Value := [.int .u32 d, .int .i32 m, .int .u32 s]
def eCells (o X : List Value) : Array Value := (o ++ X).toArray

set_option maxRecDepth 100000 in
set_option maxHeartbeats 2000000 in
theorem fill_any (b : Nat) (o X : List Value) (w : World) (ho : o.length = 3) (hX : X.length = 72) (hE : EnvS w) (hb : 2 ≤ b) (hg : w.heap[b]? = some (.cells (eCells o X) 246 (0, 0))) :
    Calls Tryz.prog 211 #[.pointer (some ⟨b, 0, none⟩)] w fun e w' => e = .returned (.tuple #[]) ∧ w'.heap[b]? = some (.cells (kCells o) 246 (0, 0)) ∧ Fr (fun k => k = b) w w' := by
  obtain ⟨f0, h0⟩ := hE.sq
  obtain ⟨f1, h1⟩ := hE.cu
  have hs8 : (shaH.map U32).toArray.size = 8 := by simp; rfl
  have hs64 : (shaK.map U32).toArray.size = 64 := by simp; rfl
  have hone8 : ∀ v ∈ (shaH.map U32).toArray.toList, v.oneCell' = true := by intro v hv; simp only [List.toList_toArray, List.mem_map] at hv; obtain ⟨x, -, rfl⟩ := hv; rfl
  have hone64 : ∀ v ∈ (shaK.map U32).toArray.toList, v.oneCell' = true := by intro v hv; simp only [List.toList_toArray, List.mem_map] at hv; obtain ⟨x, -, rfl⟩ := hv; rfl
  generalize hV8 : (shaH.map U32).toArray = V8 at h0 hs8 hone8
  generalize hV64 : (shaK.map U32).toArray = V64 at h1 hs64 hone64
  have hsz : (eCells o X).size = 75 := by unfold eCells; simp [ho, hX]
  have hsz2 : (eCells o (V8.toList ++ X.drop 8)).size = 75 := by unfold eCells; simp [ho, hX, hs8]
  have hl8 : V8.toList.length = 8 := by rw [Array.length_toList]; exact hs8
  have hl64 : V64.toList.length = 64 := by rw [Array.length_toList]; exact hs64
  have hn1 : eCells o (V8.toList ++ X.drop 8) = ((eCells o X).toList.take 3 ++ V8.toList ++ (eCells o X).toList.drop (3 + V8.size)).toArray := by
    unfold eCells
    simp only [List.toList_toArray]
    have hd : (o ++ X).drop (3 + V8.size) = X.drop 8 := by
      have hdo : o.drop (3 + 8) = [] := List.drop_eq_nil_of_le (by omega)
      rw [hs8, List.drop_append, hdo, List.nil_append, ho]
    rw [List.take_left' ho, hd, List.append_assoc]
  have hn2 : kCells o = ((eCells o (V8.toList ++ X.drop 8)).toList.take 11 ++ V64.toList ++ (eCells o (V8.toList ++ X.drop 8)).toList.drop (11 + V64.size)).toArray := by
    have hk : kCells o = (o ++ (V8.toList ++ V64.toList)).toArray := by rw [← hV8, ← hV64]; rfl
    rw [hk]
    unfold eCells
    simp only [List.toList_toArray]
    have hd : (o ++ (V8.toList ++ X.drop 8)).drop (11 + V64.size) = [] := List.drop_eq_nil_of_le (by rw [List.length_append, List.length_append, List.length_drop]; omega)
    have ht : (o ++ (V8.toList ++ X.drop 8)).take 11 = o ++ V8.toList := by rw [← List.append_assoc]; exact List.take_left' (by rw [List.length_append]; omega)
    rw [hd, ht, List.append_nil, List.append_assoc]
  have HN1 : Hid _ := hn1
  have HN2 : Hid _ := hn2
  clear hn1 hn2 hV8 hV64 hE
  go_enter Tryz.func211, Tryz.ntmps211
  go_wp2_with (first
    | (refine wpList_load_row rfl 243 _ rfl 0 rfl 243 V8 f0 _ h0 Tryz.underlying243 rfl (by rw [hs8]; exact size_a8) ?_)
    | (refine wpList_load_row rfl 244 _ rfl 1 rfl 244 V64 f1 _ h1 Tryz.underlying244 rfl (by rw [hs64]; exact size_a64) ?_)
    | (refine store_all rfl 243 _ _ rfl b 3 rfl V8 rfl hone8 _ (eCells o X) hg (by omega) (by rw [hs8]; exact size_a8) _ HN1.out ?_; intro w2 hg2 hgr2)
    | (refine store_all rfl 244 _ _ rfl b 11 rfl V64 rfl hone64 _ (eCells o (V8.toList ++ X.drop 8)) hg2 (by omega) (by rw [hs64]; exact size_a64) _ HN2.out ?_; intro w3 hg3 hgr3))
  go_end0
  have hu : ∀ {w9 : World} {cs : Array Value}, w9.heap[b]? = some (.cells cs 246 (0, 0)) → ¬ IsU8 w9 b := fun h => cells_u8 h (by kernel_rfl)
  exact ⟨rfl, hg3, ((Fr.refl _ w).step hgr2 (fun j hj => by cases hj; exact .inl rfl) (by rintro j hj; cases hj; exact hu hg)).step hgr3 (fun j hj => by cases hj; exact .inl rfl) (by rintro j hj; cases hj; exact hu hg2)⟩

/-- A Once's cells in a constants' block. -/
theorem e_cell {w : World} {b j : Nat} {o X : List Value} {v : Value} (hg : w.heap[b]? = some (.cells (eCells o X) 246 (0, 0))) (hj : (o ++ X)[j]? = some v) : w.cell? ⟨b, j, none⟩ = some v :=
  (cell_of_row _ _ j _ _ _ hg).trans (by unfold eCells; simpa using hj)
theorem e_frz {w : World} {b j : Nat} {cs : Array Value} (hg : w.heap[b]? = some (.cells cs 246 (0, 0))) : w.frozen? ⟨b, j, none⟩ = false := by simp [World.frozen?, hg]
theorem e_put0 {w : World} {b : Nat} {d m s x : Int} {X : List Value} (hg : w.heap[b]? = some (.cells (eCells (oCells d m s) X) 246 (0, 0))) : (w.setCell ⟨b, 0, none⟩ (.int .u32 x)).heap[b]? = some (.cells (eCells (oCells x m s) X) 246 (0, 0)) := by
  rw [heap_setCell_same w b 0 _ _ _ hg]; simp [eCells, oCells]
theorem e_put1 {w : World} {b : Nat} {d m s x : Int} {X : List Value} (hg : w.heap[b]? = some (.cells (eCells (oCells d m s) X) 246 (0, 0))) : (w.setCell ⟨b, 1, none⟩ (.int .i32 x)).heap[b]? = some (.cells (eCells (oCells d x s) X) 246 (0, 0)) := by
  rw [heap_setCell_same w b 1 _ _ _ hg]; simp [eCells, oCells]
theorem e_fr {w : World} {b j : Nat} {v : Value} {cs : Array Value} (hg : w.heap[b]? = some (.cells cs 246 (0, 0))) {O : Nat → Prop} {w0 : World} (h : Fr O w0 w) (hb : O b) : Fr O w0 (w.setCell ⟨b, j, none⟩ v) :=
  h.step (setCell_grown w b j v) (fun k hk => by cases hk; exact .inl hb) (by rintro k hk; cases hk; exact cells_u8 hg (by kernel_rfl))

set_option maxRecDepth 100000 in
theorem loadB_any (a : Addr) (x : Int) (y : Bool) (w : World) (h0 : w.cell? a = some (.int .u32 x)) (hx : (x != 0) = y) :
    Calls Tryz.prog 194 #[.pointer (some a)] w fun e w' => e = .returned (.bool y) ∧ w' = w := by
  have hl := run_call_load (P := Tryz.prog) Tryz.func228 (by kernel_rfl) (by kernel_rfl) (by kernel_rfl) .u32 (by kernel_rfl) h0
  go_enter Tryz.func194, Tryz.ntmps194
  go_wp2
  go_ret
  exact ⟨by first | rfl | rw [hx], rfl⟩

set_option maxRecDepth 100000 in
set_option maxHeartbeats 2000000 in
theorem slow_fill (b : Nat) (s : Int) (X : List Value) (w : World) (hX : X.length = 72) (hE : EnvS w) (hb : 2 ≤ b) (hg : w.heap[b]? = some (.cells (eCells (oCells 0 0 s) X) 246 (0, 0))) :
    Calls Tryz.prog 195 #[.pointer (some ⟨b, 0, none⟩), .func (.func 211) #[.pointer (some ⟨b, 0, none⟩)] #[]] w fun e w' => e = .returned (.tuple #[]) ∧ w'.heap[b]? = some (.cells (kCells (oCells 1 0 s)) 246 (0, 0)) ∧ Fr (fun k => k = b) w w' := by
  have hg1 := e_put1 (x := 1) hg
  have hf1 : Fr (fun k => k = b) w (w.setCell ⟨b, 1, none⟩ (.int .i32 1)) := e_fr hg (Fr.refl _ w) rfl
  have hE1 : EnvS (w.setCell ⟨b, 1, none⟩ (.int .i32 1)) := hE.fr hf1 (fun k hk => by subst hk; exact hb)
  have hnot : ∀ (x : Bool) (w : World), (Op.unary .not (.bool x)).run Tryz.prog w = .ok (.bool (!x)) w := fun _ _ => rfl
  have HG1 : Hid _ := hg1
  have HF1 : Hid _ := hf1
  have HG : Hid _ := hg
  have HE1 : Hid (EnvS (w.setCell ⟨b, 1, none⟩ (.int .i32 1))) := hE1
  clear hg1 hf1 hE hE1 hg
  go_enter_defers Tryz.func195, Tryz.ntmps195
  go_wp2_with (first | (go_at_call 229; go_must (refine (lock_free ⟨b, 1, none⟩ w (e_cell HG.out rfl) (e_frz HG.out)).mono ?_; rintro e w' ⟨rfl, rfl⟩)) | (go_at_call 194; go_must (refine (loadB_any ⟨b, 0, none⟩ 0 false _ (e_cell HG1.out rfl) rfl).mono ?_; rintro e w' ⟨rfl, rfl⟩)) | (go_at_call 211; go_must (refine (fill_any b (oCells 0 1 s) X _ rfl hX HE1.out hb HG1.out).mono ?_; rintro e w2 ⟨rfl, hg2, hf2⟩)))
  have hg2e : w2.heap[b]? = some (.cells (eCells (oCells 0 1 s) (shaH.map U32 ++ shaK.map U32)) 246 (0, 0)) := hg2
  have hg2d : w2.drew.heap[b]? = some (.cells (eCells (oCells 0 1 s) (shaH.map U32 ++ shaK.map U32)) 246 (0, 0)) := hg2
  have hg3 := e_put0 (x := 1) hg2d
  have hg4 := e_put1 (x := 0) hg3
  have hf4 : Fr (fun k => k = b) w (((w2.drew.setCell ⟨b, 0, none⟩ (.int .u32 1))).setCell ⟨b, 1, none⟩ (.int .i32 0)) := e_fr hg3 (e_fr hg2d ((HF1.out.trans (hf2.mono (fun k hk => .inl hk))).ext (Ext.refl _).drew) rfl) rfl
  refine leaves_cons (f := 231) (args := #[.pointer (some ⟨b, 0, none⟩), .bool true]) (by simp) (by simp [go_sem]) ?_
  refine (storeB_deferred ⟨b, 0, none⟩ (.int .u32 0) .returning w2 (e_cell hg2e rfl) (e_frz hg2e)).mono ?_
  rintro e u' w'' ⟨rfl, rfl, rfl⟩
  refine leaves_cons (f := 230) (args := #[.pointer (some ⟨b, 1, none⟩)]) (by simp [Go.settle]) (by simp [go_sem]) ?_
  refine (unlock_deferred ⟨b, 1, none⟩ _ _ (e_cell hg3 rfl) (e_frz hg3)).mono ?_
  rintro e u' w'' ⟨rfl, rfl, rfl⟩
  simp [Leaves, Go.settle, results, Tryz.results195]
  exact ⟨hg4, hf4⟩

set_option maxRecDepth 100000 in
set_option maxHeartbeats 2000000 in
theorem do_fill (b : Nat) (s : Int) (X : List Value) (w : World) (hX : X.length = 72) (hE : EnvS w) (hb : 2 ≤ b) (hg : w.heap[b]? = some (.cells (eCells (oCells 0 0 s) X) 246 (0, 0))) :
    Calls Tryz.prog 165 #[.pointer (some ⟨b, 0, none⟩), .func (.func 211) #[.pointer (some ⟨b, 0, none⟩)] #[]] w fun e w' => e = .returned (.tuple #[]) ∧ w'.heap[b]? = some (.cells (kCells (oCells 1 0 s)) 246 (0, 0)) ∧ Fr (fun k => k = b) w w' := by
  have hnot : ∀ (x : Bool) (w : World), (Op.unary .not (.bool x)).run Tryz.prog w = .ok (.bool (!x)) w := fun _ _ => rfl
  have HG : Hid _ := hg
  have HE : Hid (EnvS w) := hE
  clear hg hE
  go_enter Tryz.func165, Tryz.ntmps165
  go_wp2_with (first | (go_at_call 194; go_must (refine (loadB_any ⟨b, 0, none⟩ 0 false _ (e_cell HG.out rfl) rfl).mono ?_; rintro e w' ⟨rfl, rfl⟩)) | (go_at_call 195; go_must (refine (slow_fill b s X _ hX HE.out hb HG.out).mono ?_; rintro e w2 ⟨rfl, hg2, hf2⟩)))
  go_end0
  exact ⟨rfl, hg2, hf2⟩

end Go.Proofs.YtfimfbdlegookaaGreatDoor

/-! sha.New, Sum, ID. Conditions: at most 100000 bytes; the roots of the primes as laid. -/
namespace Go.Proofs.YtfimfbdlegookaaGreatDoor
open Go Go.RowKit
set_option linter.unusedVariables false
set_option linter.unusedSimpArgs false
set_option linter.unusedSectionVars false

theorem zero_c : Tryz.zeroCells246 = eCells (oCells 0 0 0) (List.replicate 72 (.int .u32 0)) := by first | rfl | kernel_rfl
def zX : List Value := List.replicate 72 (.int .u32 0)

set_option maxRecDepth 100000 in
set_option maxHeartbeats 2000000 in
theorem new_sha (w : World) (hE : EnvS w) : Calls Tryz.prog 172 #[] w fun e w' => (∃ hb cb : Nat, e = .returned (.pointer (some ⟨hb, 0, none⟩)) ∧ hb ≠ cb ∧ w.heap.size ≤ hb ∧ w.heap.size ≤ cb ∧ w'.heap[cb]? = some (.cells (kCells (oCells 1 0 0)) 246 (0, 0)) ∧ w'.heap[hb]? = some (.cells (hCells cb shaH (.slice none 0 0) (0 : Nat)) 248 (0, 0))) ∧ Ext w w' := by
  obtain ⟨w1, hw1⟩ : ∃ w1, w1 = w.alloc (.cells (eCells (oCells 0 0 0) zX) 246) := ⟨_, rfl⟩
  have hx1 : Ext w w1 := by rw [hw1]; exact (Ext.refl _).alloc _
  have hg1 : w1.heap[w.heap.size]? = some (.cells (eCells (oCells 0 0 0) zX) 246 (0, 0)) := by rw [hw1]; exact alloc_at _ _
  have hE1 : EnvS w1 := hE.ext hx1
  have h2 := hE.two
  have HG1 : Hid _ := hg1
  have HE1 : Hid (EnvS w1) := hE1
  have HX1 : Hid (Ext w w1) := hx1
  have HW1 : Hid _ := hw1
  clear hg1 hE1 hx1 hw1 hE
  have hmf : ∀ (fn : Fn) (first cap : Array Value) (w : World), (Instr.makeFunc fn first cap).run Tryz.prog w = .ok (.func fn first cap) w := fun _ _ _ _ => rfl
  go_enter Tryz.func172, Tryz.ntmps172
  go_upto_region 2 with fail
  rw [show w.alloc (.cells Tryz.zeroCells246 246) = w1 from (congrArg (fun c => w.alloc (.cells c 246)) zero_c).trans HW1.out.symm]
  generalize Tryz.zeroCells246 = zc
  go_upto_region 3 with (go_at_call 165; go_must (refine (do_fill w.heap.size 0 zX w1 rfl HE1.out h2 HG1.out).mono ?_; rintro e w2 ⟨rfl, hg2, hf2⟩))
  have hx2 : Ext w w2 := Ext.of_fr HX1.out hf2 (fun k hk => by cases hk; exact Nat.le_refl _)
  obtain ⟨i0, i1, i2, i3, i4, i5, i6, i7, hH⟩ := list8 (show shaH.length = 8 from rfl)
  have hk : kCells (oCells 1 0 0) = (oCells 1 0 0 ++ ([i0, i1, i2, i3, i4, i5, i6, i7].map U32 ++ shaK.map U32)).toArray := by unfold kCells; rw [hH]
  have hg2' := hg2
  rw [hk] at hg2'
  have c1 : w2.cell? ⟨w.heap.size, 3, none⟩ = some (U32 i0) := (cell_of_row _ _ 3 _ _ _ hg2').trans rfl
  have c2 : w2.cell? ⟨w.heap.size, 4, none⟩ = some (U32 i1) := (cell_of_row _ _ 4 _ _ _ hg2').trans rfl
  have c3 : w2.cell? ⟨w.heap.size, 5, none⟩ = some (U32 i2) := (cell_of_row _ _ 5 _ _ _ hg2').trans rfl
  have c4 : w2.cell? ⟨w.heap.size, 6, none⟩ = some (U32 i3) := (cell_of_row _ _ 6 _ _ _ hg2').trans rfl
  have c5 : w2.cell? ⟨w.heap.size, 7, none⟩ = some (U32 i4) := (cell_of_row _ _ 7 _ _ _ hg2').trans rfl
  have c6 : w2.cell? ⟨w.heap.size, 8, none⟩ = some (U32 i5) := (cell_of_row _ _ 8 _ _ _ hg2').trans rfl
  have c7 : w2.cell? ⟨w.heap.size, 9, none⟩ = some (U32 i6) := (cell_of_row _ _ 9 _ _ _ hg2').trans rfl
  have c8 : w2.cell? ⟨w.heap.size, 10, none⟩ = some (U32 i7) := (cell_of_row _ _ 10 _ _ _ hg2').trans rfl
  have hlt2 := (Array.getElem?_eq_some_iff.1 hg2).1
  obtain ⟨w3, hw3⟩ : ∃ w3, w3 = w2.alloc (.cells (hCells w.heap.size [i0, i1, i2, i3, i4, i5, i6, i7] (.slice none 0 0) (0 : Nat)) 248) := ⟨_, rfl⟩
  have hx3 : Ext w2 w3 := by rw [hw3]; exact (Ext.refl _).alloc _
  have hg3 : w3.heap[w2.heap.size]? = some (.cells (hCells w.heap.size [i0, i1, i2, i3, i4, i5, i6, i7] (.slice none 0 0) (0 : Nat)) 248 (0, 0)) := by rw [hw3]; exact alloc_at _ _
  have HX2 : Hid (Ext w w2) := hx2
  have HX3 : Hid (Ext w2 w3) := hx3
  have HG3 : Hid _ := hg3
  have HW3 : Hid _ := hw3
  have HG2 : Hid _ := hg2
  have HH : Hid _ := hH
  have hs2 := hx2.size
  clear hg2 hg2' hk hf2 hH hx2 hx3 hg3 hw3
  go_wp2_with fail
  go_ret
  rw [HH.out]
  have hfin : w2.alloc (.cells (hCells w.heap.size [i0, i1, i2, i3, i4, i5, i6, i7] (.slice none 0 0) (0 : Nat)) 248) = w3 := HW3.out.symm
  refine ⟨⟨w2.heap.size, w.heap.size, rfl, by omega, hs2, Nat.le_refl _, ?_, ?_⟩, ?_⟩
  · exact hfin ▸ Ext.row HX3.out HG2.out
  · exact hfin ▸ HG3.out
  · exact hfin ▸ HX2.out.trans HX3.out

theorem absorb_rest (h : List UInt32) (l : B8) : (absorb h l).2.length < 64 := by
  induction h, l using absorb.induct with
  | case1 h l hc ih => rw [absorb, if_pos hc]; exact ih
  | case2 h l hc => rw [absorb, if_neg hc]; show l.length < 64; omega

set_option maxRecDepth 100000 in
set_option maxHeartbeats 2000000 in
theorem sum_sha (v : Value) (l : B8) (w : World) (hE : EnvS w) (hv : IsBytes w v l) (hl : l.length ≤ 1000000) :
    Calls Tryz.prog 122 #[v] w fun e w' => (∃ v', e = .returned v' ∧ w'.ownsRow w.heap.size 5 1 v' 32 ((sumM l).map fun x => .int .u8 x.toNat)) ∧ Ext w w' := by
  have HE : Hid (EnvS w) := hE
  have HV : Hid (IsBytes w v l) := hv
  obtain ⟨a, cap, rfl, h1, h2, h3, h4⟩ := hv.get
  have hout : ∀ (k : Nat), w.heap.size ≤ k → ∀ w1, Out (fun j => j = k) w1 (.slice a l.length cap) := by
    intro k hk w1 a' n' c' he hn'
    simp only [Value.slice.injEq] at he
    obtain ⟨rfl, rfl, rfl⟩ := he
    obtain ⟨b, o, hb, hc⟩ := h4 0 (by omega)
    cases hb
    have hlt := World.block_lt_of_cell? _ _ (hc 0 (by omega))
    exact .inl (fun h => by dsimp only at h hlt; omega)
  have HOUT : Hid (∀ (k : Nat), w.heap.size ≤ k → ∀ w1, Out (fun j => j = k) w1 (.slice a l.length cap)) := hout
  clear h4 hout hv hE
  go_enter Tryz.func122, Tryz.ntmps122
  go_upto_region 2 with (go_at_call 172; go_must (refine (new_sha w HE.out).mono ?_; rintro e w1 ⟨⟨hb, cb, rfl, hne, hb1, hb2, hgc, hgh⟩, hx1⟩))
  have HGC : Hid _ := hgc
  have HGH : Hid _ := hgh
  have HX1 : Hid (Ext w w1) := hx1
  clear hgc hgh hx1
  go_upto_region 3 with (go_at_call 173; go_must (refine (write_sha hb cb shaH (.slice none 0 0) (.slice a l.length cap) [] l 0 (oCells 1 0 0) w1 rfl rfl hne (by omega) HGH.out HGC.out (IsBytes.nil _) (TypB.nil _ _ _) (HV.out.ext HX1.out) (HOUT.out hb hb1 w1) (by simp) hl).mono ?_; rintro e w2 ⟨rfl, st2, rv2, r2, hw2, hab⟩))
  rw [List.nil_append] at hw2 hab
  have hx2 : Ext w w2 := Ext.of_fr HX1.out hw2.fr (fun k hk => by cases hk; exact hb1)
  have hgc2 := hw2.fr.row HGC.out (fun h => hne h.symm)
  have hgh2 : w2.heap[hb]? = some (.cells (hCells cb st2 rv2 (l.length : Nat)) 248 (0, 0)) := by
    have h9 := hw2.cells
    rwa [show (((0 : Nat) : Int) + (l.length : Int)) = ((l.length : Nat) : Int) by omega] at h9
  have hr2 : r2.length < 64 := by
    have h9 := absorb_rest shaH l
    rw [← hab] at h9
    exact h9
  have hsum : sumM l = (absorb st2 (r2 ++ padM l.length)).1.flatMap outM := by unfold sumM; rw [← hab]
  have HX2 : Hid (Ext w w2) := hx2
  have HW2 : Hid (Wr w1 w2 hb cb (absorb shaH l) (((0 : Nat) : Int) + l.length) st2 rv2 r2) := hw2
  have HGC2 : Hid _ := hgc2
  have HGH2 : Hid _ := hgh2
  have HSUM : Hid _ := hsum
  have hs2 := hx2.size
  clear hx2 hgc2 hgh2 hsum hw2 hab
  go_wp2_with (go_at_call 174; go_must (refine (sumH_any hb cb st2 rv2 r2 l.length (oCells 1 0 0) w2 HW2.out.hst rfl hl HGH2.out HGC2.out HW2.out.bytes (by omega)).mono ?_; rintro e w3 ⟨⟨v3, rfl, hown3⟩, hx3⟩))
  go_ret
  rw [HSUM.out]
  exact ⟨⟨_, rfl, owns_low hown3 hs2⟩, HX2.out.trans hx3⟩

theorem sum32 (l : B8) {w : World} {base : Nat} {v : Value} (h : w.ownsRow base 5 1 v 32 ((sumM l).map fun x => .int .u8 x.toNat)) : (sumM l).length = 32 := by
  have h9 := h.1
  simpa using h9

set_option maxRecDepth 100000 in
set_option maxHeartbeats 2000000 in
theorem id_sha (v : Value) (l : B8) (w : World) (hE : EnvS w) (hv : IsBytes w v l) (hl : l.length ≤ 1000000) :
    Calls Tryz.prog 45 #[v] w fun e w' => e = .returned (S8 (shaM l)) ∧ Ext w w' := by
  have HE : Hid (EnvS w) := hE
  have HV : Hid (IsBytes w v l) := hv
  clear hv hE
  go_enter Tryz.func45, Tryz.ntmps45
  go_wp2_with (first
    | (go_at_call 122; go_must (refine (sum_sha v l w HE.out HV.out hl).mono ?_; rintro e w1 ⟨⟨v1, rfl, hown1⟩, hx1⟩; have h32 := sum32 l hown1; have hb1 : IsBytes w1 v1 (sumM l) := by unfold IsBytes; rw [h32]; exact Row.of_owns hown1 (by omega)))
    | (go_at_call 121; go_must (refine (hex_any v1 (sumM l) w1 hb1 (by omega)).mono ?_; rintro e w2 ⟨rfl, hx2⟩)))
  go_ret
  exact ⟨rfl, hx1.trans hx2⟩

end Go.Proofs.YtfimfbdlegookaaGreatDoor

/-! marlaw5: an operation of both file systems, in plain Lean. Conditions: as each theorem states. -/
namespace Go.Proofs.YtfimfbdlegookaaGreatDoor
open Go Go.RowKit

structure Opn where
  (kind mode keep torn : Int)
  (path dest data : B8)
  (plan : List Ev)
structure OpOk (o : Opn) : Prop where
  path : o.path.length ≤ 400
  dest : o.dest.length ≤ 400
  few : o.plan.length ≤ 60
  ev : ∀ e ∈ o.plan, I64 e.keep ∧ I64 e.torn ∧ e.path.length ≤ 400
  keep : I64 o.keep
  torn : I64 o.torn
def stepM (m : Fs) (o : Opn) : Fs :=
  if o.kind = 0 then (createM m o.path o.mode o.data).1
  else if o.kind = 1 then (writeM m o.path o.mode o.data).1
  else if o.kind = 2 then (moveM m o.path o.dest false).1
  else if o.kind = 3 then (moveM m o.path o.dest true).1
  else if o.kind = 4 then (removeM m o.path).1
  else if o.kind = 5 then (syncM m).1
  else if o.kind = 6 then (readM m o.path).1
  else if o.kind = 7 then (listM m o.path).1
  else if o.kind = 8 then (userWrite m o.path o.mode o.data).1
  else if o.kind = 9 then (userRemove m o.path).1
  else if o.kind = 10 then crash m o.keep o.torn
  else if o.kind = 11 then rebootM m
  else if o.kind = 12 then planM m o.plan
  else m

/-! ### What an operation leaves, in numbers -/
theorem call_leftN {m : Fs} (h : OkM m) {N : Nat} (hn : m.plan.length ≤ N) : Left m (callM m).1 N ∧ (callM m).1.calls = m.calls + 1 := by
  obtain ⟨x, hx, he⟩ := call_mid h
  rw [he]
  exact ⟨⟨hx.ok, by have := hx.time; omega, hx.time0, hx.plan, hx.room⟩, hx.calls⟩
theorem left_putN {m : Fs} {path : B8} {mode : Int} {data : B8} {only : Bool} (h : OkM m) {N : Nat} (hn : m.plan.length ≤ N) : Left m (putM (callM m) path mode data only).1 (N + 1) := by
  have hc := (call_leftN h hn).1
  unfold putM
  split
  · exact hc.mono (by omega)
  · split
    · exact hc.mono (by omega)
    · rename_i hw
      have hw0 := wrong_zero (by simpa using hw)
      split
      · exact hc.mono (by omega)
      · exact hc.trans (left_puts hc.ok hw0.1 hw0.2.2.2)
theorem left_moveN {m : Fs} {s d : B8} {fresh : Bool} (h : OkM m) {N : Nat} (hn : m.plan.length ≤ N) : Left m (moveM m s d fresh).1 (N + 1) := by
  have hc := (call_leftN h hn).1
  unfold moveM mvM
  split
  · exact hc.mono (by omega)
  · split
    · exact hc.mono (by omega)
    · rename_i hpb
      split
      · exact hc.mono (by omega)
      · rename_i hs
        split
        · exact hc.mono (by omega)
        · split
          · exact hc.mono (by omega)
          · rename_i hne
            split
            · exact hc.mono (by omega)
            · refine hc.trans (left_does hc.ok ?_ (fun s' d' e => ?_))
              · simp only [not_or, Bool.not_eq_false] at hpb
                exact ⟨hpb.1, hpb.2, hne⟩
              · cases e
                cases hl : look (callM m).1.now s with
                | none => rw [hl] at hs; simp at hs
                | some f => rfl
theorem left_removeN {m : Fs} {path : B8} (h : OkM m) {N : Nat} (hn : m.plan.length ≤ N) : Left m (removeM m path).1 (N + 1) := by
  have hc := (call_leftN h hn).1
  unfold removeM
  split
  · exact hc.mono (by omega)
  · exact hc.trans (left_removes hc.ok)
theorem left_syncN {m : Fs} (h : OkM m) {N : Nat} (hn : m.plan.length ≤ N) : Left m (syncM m).1 (N + 1) := by
  have hc := (call_leftN h hn).1
  unfold syncM
  split
  · exact (hc.trans (left_settle hc.ok)).mono (by omega)
  · exact hc.mono (by omega)
theorem read_fst (m : Fs) (path : B8) : (readM m path).1 = (callM m).1 := by
  unfold readM
  split
  · rfl
  · split
    · rfl
    · split <;> rfl
theorem list_fst (m : Fs) (path : B8) : (listM m path).1 = (callM m).1 := by
  unfold listM
  split
  · rfl
  · split
    · rfl
    · split <;> rfl

/-- What holds of a file system behind n operations. -/
structure Good (n : Nat) (m : Fs) : Prop where
  ok : OkM m
  plan : PlanOk m
  few : m.plan.length ≤ 60
  time : m.time ≤ 400 * n
  calls : m.calls ≤ 500 * n
  room0 : 0 ≤ m.room
  room1 : m.room ≤ 1073741824
theorem Good.left {n : Nat} {m m' : Fs} (h : Good n m) (hl : Left m m' 61) (hc : m'.calls ≤ m.calls + 1) : Good (n + 1) m' :=
  ⟨hl.ok, ⟨by rw [hl.plan]; exact h.plan.len, by rw [hl.plan]; exact h.plan.ev⟩, by rw [hl.plan]; exact h.few, by have := hl.time; have := h.time; omega, by have := h.calls; omega, by rw [hl.room]; exact h.room0, by rw [hl.room]; exact h.room1⟩

theorem left_hap {m : Fs} (h : OkM m) (e : Ev) : Left m (hapM m e) 1 ∧ (hapM m e).calls = m.calls :=
  ⟨⟨ok_hap h e, (hap_time m e).2, (hap_time m e).1, (hap_plan m e).1, (hap_plan m e).2.2⟩, (hap_plan m e).2.1⟩
theorem put_calls (m : Fs) (path : B8) (mode : Int) (data : B8) (only : Bool) : (putM (callM m) path mode data only).1.calls = (callM m).1.calls := by
  unfold putM
  split
  · rfl
  · split
    · rfl
    · split
      · rfl
      · unfold putsM
        split
        · rfl
        · split <;> rfl
theorem move_calls (m : Fs) (s d : B8) (fresh : Bool) : (moveM m s d fresh).1.calls = (callM m).1.calls := by
  unfold moveM mvM
  split
  · rfl
  · split
    · rfl
    · split
      · rfl
      · split
        · rfl
        · split
          · rfl
          · split <;> rfl
theorem remove_calls (m : Fs) (path : B8) : (removeM m path).1.calls = (callM m).1.calls := by
  unfold removeM
  split
  · rfl
  · unfold removesM
    split
    · rfl
    · split <;> rfl
theorem sync_calls (m : Fs) : (syncM m).1.calls = (callM m).1.calls := by
  unfold syncM
  split <;> rfl
theorem planM_ok {m : Fs} (h : OkM m) (L : List Ev) : OkM (planM m L) := h.same rfl rfl rfl h.lusers (Nat.le_refl _)
theorem reboot_ok {m : Fs} (h : OkM m) : OkM (rebootM m) := h.same rfl rfl rfl h.lusers (Nat.le_refl _)
theorem good_plan {n : Nat} {m : Fs} (h : Good n m) {L : List Ev} (hl : L.length ≤ 60) (he : ∀ e ∈ L, I64 e.keep ∧ I64 e.torn ∧ e.path.length ≤ 400) : Good n (planM m L) := by
  have hf : (planM m L).plan.length ≤ L.length := List.length_filter_le _ _
  exact ⟨planM_ok h.ok L, ⟨by omega, fun e hm => he e (List.mem_filter.1 hm).1⟩, by omega, h.time, h.calls, h.room0, h.room1⟩
theorem good_reboot {n : Nat} {m : Fs} (h : Good n m) : Good n (rebootM m) := ⟨reboot_ok h.ok, ⟨h.plan.len, h.plan.ev⟩, h.few, h.time, h.calls, h.room0, h.room1⟩
theorem Good.mono {n k : Nat} {m : Fs} (h : Good n m) (hk : n ≤ k) : Good k m := ⟨h.ok, h.plan, h.few, by have := h.time; omega, by have := h.calls; omega, h.room0, h.room1⟩
theorem ite_good {n : Nat} {c : Prop} [Decidable c] {a b : Fs} (ha : Good n a) (hb : Good n b) : Good n (if c then a else b) := by
  by_cases h : c
  · rw [if_pos h]; exact ha
  · rw [if_neg h]; exact hb
theorem step_good {n : Nat} {m : Fs} {o : Opn} (h : Good n m) (ho : OpOk o) : Good (n + 1) (stepM m o) := by
  have hc := (call_leftN h.ok h.few).2
  have hn := h.calls
  have hle : (callM m).1.calls ≤ m.calls + 1 := by omega
  have k8 := left_hap h.ok ⟨0, 4, o.mode, 0, 0, o.path, o.data⟩
  have k9 := left_hap h.ok ⟨0, 5, o.mode, 0, 0, o.path, o.data⟩
  have k10 := left_hap h.ok ⟨0, 1, 0, o.keep, o.torn, [], []⟩
  have g0 : Good (n + 1) (createM m o.path o.mode o.data).1 := h.left (left_putN h.ok h.few) (by rw [show (createM m o.path o.mode o.data).1.calls = _ from put_calls m _ _ _ _]; exact hle)
  have g1 : Good (n + 1) (writeM m o.path o.mode o.data).1 := h.left (left_putN h.ok h.few) (by rw [show (writeM m o.path o.mode o.data).1.calls = _ from put_calls m _ _ _ _]; exact hle)
  have g2 : Good (n + 1) (moveM m o.path o.dest false).1 := h.left (left_moveN h.ok h.few) (by rw [move_calls]; exact hle)
  have g3 : Good (n + 1) (moveM m o.path o.dest true).1 := h.left (left_moveN h.ok h.few) (by rw [move_calls]; exact hle)
  have g4 : Good (n + 1) (removeM m o.path).1 := h.left (left_removeN h.ok h.few) (by rw [remove_calls]; exact hle)
  have g5 : Good (n + 1) (syncM m).1 := h.left (left_syncN h.ok h.few) (by rw [sync_calls]; exact hle)
  have gc : Good (n + 1) (callM m).1 := h.left ((call_leftN h.ok h.few).1.mono (by omega)) hle
  have g8 : Good (n + 1) (userWrite m o.path o.mode o.data).1 := h.left (k8.1.mono (by omega)) (by have := k8.2; show (hapM m ⟨0, 4, o.mode, 0, 0, o.path, o.data⟩).calls ≤ _; omega)
  have g9 : Good (n + 1) (userRemove m o.path).1 := h.left (k9.1.mono (by omega)) (by have := k9.2; show (hapM m ⟨0, 5, o.mode, 0, 0, o.path, o.data⟩).calls ≤ _; omega)
  have g10 : Good (n + 1) (crash m o.keep o.torn) := h.left (k10.1.mono (by omega)) (by have := k10.2; show (hapM m ⟨0, 1, 0, o.keep, o.torn, [], []⟩).calls ≤ _; omega)
  have g11 : Good (n + 1) (rebootM m) := (good_reboot h).mono (by omega)
  have g12 : Good (n + 1) (planM m o.plan) := (good_plan h ho.few ho.ev).mono (by omega)
  have g6 : Good (n + 1) (readM m o.path).1 := by rw [read_fst]; exact gc
  have g7 : Good (n + 1) (listM m o.path).1 := by rw [list_fst]; exact gc
  exact ite_good g0 (ite_good g1 (ite_good g2 (ite_good g3 (ite_good g4 (ite_good g5 (ite_good g6 (ite_good g7 (ite_good g8 (ite_good g9 (ite_good g10 (ite_good g11 (ite_good g12 (h.mono (by omega))))))))))))))

end Go.Proofs.YtfimfbdlegookaaGreatDoor

/-! What holds of the files behind any operations, crashes among them: no file under another one, modes, times, the room: in plain Lean. Conditions: as each theorem states. -/
namespace Go.Proofs.YtfimfbdlegookaaGreatDoor
open Go Go.RowKit

/-! ### Bytes of files -/
theorem usedF_ins (x : B8 × Fi) : ∀ l : Files, usedF (insF x l) = x.2.data.length + usedF l
  | [] => by simp [insF, usedF]
  | y :: r => by
    unfold insF
    split
    · simp [usedF]
    · have := usedF_ins x r
      simp only [usedF, List.map_cons, List.sum_cons] at *
      omega
theorem delF_none {l : Files} {p : B8} (h : ∀ e ∈ l, e.1 ≠ p) : delF l p = l := List.filter_eq_self.2 (fun e he => by simpa using h e he)
theorem usedF_del {l : Files} (h : Rising l) (p : B8) : usedF (delF l p) + oldLen l p = usedF l := by
  induction l with
  | nil => rfl
  | cons y r ih =>
    obtain ⟨h1, h2⟩ := List.pairwise_cons.1 h
    have ih := ih h2
    by_cases hy : y.1 = p
    · have hr : delF r p = r := delF_none (fun e he => by rw [← hy]; exact (ltB_ne (h1 e he)).symm)
      have e1 : delF (y :: r) p = r := by
        unfold delF at *
        rw [List.filter_cons, hr]
        simp [hy]
      have e2 : oldLen (y :: r) p = y.2.data.length := by unfold oldLen look; simp [hy]
      rw [e1, e2]
      simp only [usedF, List.map_cons, List.sum_cons]
      omega
    · have e1 : delF (y :: r) p = y :: delF r p := by unfold delF; rw [List.filter_cons]; simp [hy]
      have e2 : oldLen (y :: r) p = oldLen r p := by unfold oldLen look; simp [hy]
      rw [e1, e2]
      simp only [usedF, List.map_cons, List.sum_cons] at *
      omega
theorem usedF_put {l : Files} (h : Rising l) (p : B8) (f : Fi) : usedF (putF l p f) + oldLen l p = usedF l + f.data.length := by
  have h1 := usedF_ins (p, f) (delF l p)
  have h2 := usedF_del h p
  unfold putF
  simp only at h1
  omega
theorem mem_put {l : Files} {p : B8} {f : Fi} {e : B8 × Fi} : e ∈ putF l p f ↔ e = (p, f) ∨ (e ∈ l ∧ e.1 ≠ p) := by
  unfold putF
  rw [mem_insF]
  simp [delF]
theorem mem_del {l : Files} {p : B8} {e : B8 × Fi} : e ∈ delF l p ↔ e ∈ l ∧ e.1 ≠ p := by simp [delF]

/-! ### Paths -/
theorem not_under_self (p : B8) : isUnder p p = false := by
  cases h : isUnder p p with
  | false => rfl
  | true =>
    obtain ⟨r, hr⟩ := (under_iff p p).1 h
    have := congrArg List.length hr
    simp at this
theorem may_spec {l : Files} {p but : B8} (h : mayF l p but = true) : ∀ e ∈ l, e.1 ≠ but → isUnder e.1 p = false ∧ isUnder p e.1 = false := by
  intro e he hb
  unfold mayF at h
  simp only [Bool.not_eq_true', List.any_eq_false] at h
  have := h e he
  simpa [hb] using this

/-- Files as they are to be: b: is the room to be kept? t: no file is younger. -/
structure Fine (r : Int) (b : Prop) (t : Nat) (l : Files) : Prop where
  rise : Rising l
  path : ∀ e ∈ l, pathB e.1 = true
  tree : ∀ x ∈ l, ∀ y ∈ l, isUnder x.1 y.1 = false
  mode : ∀ e ∈ l, 1 ≤ e.2.mode ∧ e.2.mode ≤ 3
  time : ∀ e ∈ l, 0 ≤ e.2.time ∧ e.2.time ≤ t
  used : b → (usedF l : Int) ≤ r
theorem Fine.mono {r : Int} {b b' : Prop} {t t' : Nat} {l : Files} (h : Fine r b t l) (hb : b' → b) (ht : t ≤ t') : Fine r b' t' l :=
  ⟨h.rise, h.path, h.tree, h.mode, fun e he => by have := h.time e he; omega, fun hb' => h.used (hb hb')⟩
theorem Fine.nil {r : Int} {b : Prop} {t : Nat} (hr : 0 ≤ r) : Fine r b t [] :=
  ⟨List.Pairwise.nil, fun e he => (by cases he), fun e he => (by cases he), fun e he => (by cases he), fun e he => (by cases he), fun _ => (by simpa [usedF] using hr)⟩
theorem Fine.put {r : Int} {b : Prop} {t : Nat} {l : Files} (h : Fine r b t l) {p : B8} {f : Fi} (hp : pathB p = true) (hm : 1 ≤ f.mode ∧ f.mode ≤ 3) (ht : 0 ≤ f.time ∧ f.time ≤ t) (hmay : look l p = none → mayF l p [] = true)
    (hu : b → (f.data.length : Int) ≤ r - usedF l + oldLen l p) : Fine r b t (putF l p f) := by
  have hmem : ∀ e ∈ putF l p f, e = (p, f) ∨ (e ∈ l ∧ e.1 ≠ p) := fun e he => mem_put.1 he
  have hno : ∀ e ∈ l, isUnder e.1 p = false ∧ isUnder p e.1 = false := by
    intro e he
    cases hl : look l p with
    | none => exact may_spec (hmay hl) e he (path_ne (h.path e he))
    | some f0 => exact ⟨h.tree e he _ (look_mem hl), h.tree _ (look_mem hl) e he⟩
  refine ⟨h.rise.put p f, fun e he => ?_, fun x hx y hy => ?_, fun e he => ?_, fun e he => ?_, fun hb => ?_⟩
  · rcases hmem e he with rfl | he
    · exact hp
    · exact h.path e he.1
  · rcases hmem x hx with rfl | hx <;> rcases hmem y hy with rfl | hy
    · exact not_under_self p
    · exact (hno y hy.1).2
    · exact (hno x hx.1).1
    · exact h.tree x hx.1 y hy.1
  · rcases hmem e he with rfl | he
    · exact hm
    · exact h.mode e he.1
  · rcases hmem e he with rfl | he
    · exact ht
    · exact h.time e he.1
  · have := usedF_put h.rise p f
    have := hu hb
    omega
theorem Fine.del {r : Int} {b : Prop} {t : Nat} {l : Files} (h : Fine r b t l) (p : B8) : Fine r b t (delF l p) := by
  have hmem : ∀ e ∈ delF l p, e ∈ l := fun e he => (mem_del.1 he).1
  refine ⟨h.rise.del p, fun e he => h.path e (hmem e he), fun x hx y hy => h.tree x (hmem x hx) y (hmem y hy), fun e he => h.mode e (hmem e he), fun e he => h.time e (hmem e he), fun hb => ?_⟩
  have := usedF_del h.rise p
  have := h.used hb
  omega
theorem Fine.mv {r : Int} {b : Prop} {t : Nat} {l : Files} (h : Fine r b t l) {s d : B8} {x : Fi} (hs : look l s = some x) (hd : pathB d = true) (hmay : look l d = none → mayF l d s = true) : Fine r b t (putF (delF l s) d x) := by
  have hmem : ∀ e ∈ putF (delF l s) d x, e = (d, x) ∨ (e ∈ l ∧ e.1 ≠ s) := fun e he => (mem_put.1 he).imp id (fun h => mem_del.1 h.1)
  have hx := look_mem hs
  have hno : ∀ e ∈ l, e.1 ≠ s → isUnder e.1 d = false ∧ isUnder d e.1 = false := by
    intro e he hne
    cases hl : look l d with
    | none => exact may_spec (hmay hl) e he hne
    | some f0 => exact ⟨h.tree e he _ (look_mem hl), h.tree _ (look_mem hl) e he⟩
  refine ⟨(h.rise.del s).put d x, fun e he => ?_, fun x hx y hy => ?_, fun e he => ?_, fun e he => ?_, fun hb => ?_⟩
  · rcases hmem e he with rfl | he
    · exact hd
    · exact h.path e he.1
  · rcases hmem x hx with rfl | hx <;> rcases hmem y hy with rfl | hy
    · exact not_under_self d
    · exact (hno y hy.1 hy.2).2
    · exact (hno x hx.1 hx.2).1
    · exact h.tree x hx.1 y hy.1
  · rcases hmem e he with rfl | he
    · exact h.mode (s, x) hx
    · exact h.mode e he.1
  · rcases hmem e he with rfl | he
    · exact h.time (s, x) hx
    · exact h.time e he.1
  · have h1 := usedF_put (h.rise.del s) d x
    have h2 := usedF_del h.rise s
    have h3 := h.used hb
    have h4 : oldLen l s = x.data.length := by unfold oldLen; rw [hs]
    omega

/-! ### At all times -/
def FineM (m : Fs) : Prop := ∀ k, Fine m.room (m.users = []) m.time ((m.pend.take k).foldl ap m.sure)
theorem FineM.now {m : Fs} (h : FineM m) (hok : OkM m) : Fine m.room (m.users = []) m.time m.now := by
  have := h m.pend.length
  rwa [List.take_length, hok.fold] at this
theorem fineM_of {m : Fs} (hp : m.pend = []) (h : Fine m.room (m.users = []) m.time m.sure) : FineM m := by
  intro k
  rw [hp]
  simpa using h
theorem FineM.same {m m' : Fs} (h : FineM m) (h1 : m'.sure = m.sure) (h2 : m'.pend = m.pend) (h3 : m'.room = m.room) (h4 : m'.users = m.users) (h5 : m'.time = m.time) : FineM m' := by
  intro k
  rw [h1, h2, h3, h4, h5]
  exact h k
theorem fine_does {m : Fs} {c : Ch} (hok : OkM m) (h : FineM m) (hc : Fine m.room (m.users = []) (m.time + 1) (ap m.now (c.at (m.time + 1)))) : FineM (does m c) := by
  intro k
  show Fine m.room (m.users = []) (m.time + 1) (((m.pend ++ [c.at (m.time + 1)]).take k).foldl ap m.sure)
  by_cases hk : k ≤ m.pend.length
  · rw [List.take_append_of_le_length hk]
    exact (h k).mono id (Nat.le_succ _)
  · rw [List.take_of_length_le (by simp; omega), List.foldl_append, hok.fold]
    exact hc
theorem put_fine {m : Fs} {b : Prop} {path : B8} {mode : Int} {data : B8} (h : Fine m.room b m.time m.now) (hw : pathB path = true ∧ 1 ≤ mode ∧ mode ≤ 3 ∧ data.length ≤ 20000) (hmay : look m.now path = none → mayF m.now path [] = true)
    (hu : b → fitsM m path data.length = true) : Fine m.room b (m.time + 1) (ap m.now ((Ch.put path ⟨mode, data, 0⟩).at (m.time + 1))) := by
  refine Fine.put (f := { mode := mode, data := data, time := ((m.time + 1 : Nat) : Int) }) (h.mono id (Nat.le_succ _)) hw.1 ⟨hw.2.1, hw.2.2.1⟩ ⟨by simp only; omega, by simp only; omega⟩ hmay (fun hb => ?_)
  have := hu hb
  unfold fitsM at this
  simpa using this
theorem fine_puts {m : Fs} {path : B8} {mode : Int} {data : B8} {fits : Bool} (hok : OkM m) (h : FineM m) (hw : pathB path = true ∧ 1 ≤ mode ∧ mode ≤ 3 ∧ data.length ≤ 20000) (hu : fits = true → fitsM m path data.length = true) : FineM (putsM m path mode data fits).1 := by
  unfold putsM
  split
  · exact h
  · rename_i h1
    split
    · exact h
    · rename_i h2
      refine fine_does hok h (put_fine (h.now hok) hw (fun hl => ?_) (fun _ => hu (by simpa using h2)))
      rw [hl] at h1
      simpa using h1
theorem fine_removes {m : Fs} {path : B8} (hok : OkM m) (h : FineM m) : FineM (removesM m path).1 := by
  unfold removesM
  split
  · exact h
  · split
    · exact h
    · exact fine_does hok h (Fine.mono (Fine.del (h.now hok) path) id (Nat.le_succ _))
theorem fine_settle {m : Fs} (hok : OkM m) (h : FineM m) : FineM (settle m) := fineM_of rfl (h.now hok)
theorem fine_userWrite {m : Fs} {path : B8} {mode : Int} {data : B8} (hok : OkM m) (h : FineM m) : FineM (userWrite m path mode data).1 := by
  unfold userWrite
  split
  · exact h
  · split
    · exact h
    · rename_i hw
      have hw0 := wrong_zero (by simpa using hw)
      by_cases hp : (putsM m path mode data true).2 = 0
      · rw [if_neg (by simpa using hp)]
        have hp0 := puts_zero hp
        refine fineM_of rfl ?_
        show Fine (putsM m path mode data true).1.room (m.users ++ [_] = []) (putsM m path mode data true).1.time (putsM m path mode data true).1.now
        rw [hp0]
        refine (put_fine (b := False) ((h.now hok).mono (fun h => h.elim) (Nat.le_refl _)) hw0 (fun hl => ?_) (fun h => h.elim)).mono (fun he => by simp at he) (Nat.le_refl _)
        unfold putsM at hp
        rw [hl] at hp
        cases hmay : mayF m.now path [] with
        | true => rfl
        | false => rw [hmay] at hp; simp at hp
      · rw [if_pos (by simpa using hp)]
        have hq : (putsM m path mode data true).1 = m := by
          unfold putsM at hp ⊢
          split
          · rfl
          · rename_i h1
            rw [if_neg h1] at hp
            simp at hp
        rw [hq]
        exact h
theorem fine_userRemove {m : Fs} {path : B8} (hok : OkM m) (h : FineM m) : FineM (userRemove m path).1 := by
  unfold userRemove
  split
  · exact h
  · split
    · exact fine_removes hok h
    · have h1 := (fine_removes (path := path) hok h).now (ok_removes hok)
      refine fineM_of rfl ?_
      exact h1.mono (fun he => by simp at he) (Nat.le_refl _)
theorem torn_fine {r : Int} {b : Prop} {t : Nat} {l : Files} {p : B8} {f : Fi} (hl : Rising l) (h : Fine r b t (putF l p f)) (n : Nat) : Fine r b t (putF l p { f with data := f.data.take n }) := by
  have hmem : ∀ e ∈ putF l p { f with data := f.data.take n }, ∃ e' ∈ putF l p f, e'.1 = e.1 ∧ e'.2.mode = e.2.mode ∧ e'.2.time = e.2.time := by
    intro e he
    rcases mem_put.1 he with rfl | he
    · exact ⟨(p, f), mem_put.2 (.inl rfl), rfl, rfl, rfl⟩
    · exact ⟨e, mem_put.2 (.inr he), rfl, rfl, rfl⟩
  refine ⟨hl.put p _, fun e he => ?_, fun x hx y hy => ?_, fun e he => ?_, fun e he => ?_, fun hb => ?_⟩
  · obtain ⟨e', h1, h2, h3, h4⟩ := hmem e he
    rw [← h2]; exact h.path e' h1
  · obtain ⟨x', h1, h2, -⟩ := hmem x hx
    obtain ⟨y', k1, k2, -⟩ := hmem y hy
    rw [← h2, ← k2]; exact h.tree x' h1 y' k1
  · obtain ⟨e', h1, h2, h3, h4⟩ := hmem e he
    rw [← h3]; exact h.mode e' h1
  · obtain ⟨e', h1, h2, h3, h4⟩ := hmem e he
    rw [← h4]; exact h.time e' h1
  · have h1 := usedF_put hl p f
    have h2 := usedF_put hl p { f with data := f.data.take n }
    have h3 := h.used hb
    simp only [List.length_take] at h2
    omega
theorem fallen_fine {m : Fs} (h : FineM m) (keep torn : Int) : Fine m.room (m.users = []) m.time (fallen m keep torn) := by
  have h1 := h (keepN m keep)
  unfold fallen torn1
  split
  · rename_i p f hk
    split
    · have h2 := h (keepN m keep + 1)
      rw [fold_snoc hk] at h2
      exact torn_fine h1.rise h2 _
    · exact h1
  · exact h1
theorem fine_crash {m : Fs} (h : FineM m) (keep torn : Int) : FineM (crash m keep torn) := by
  unfold crash
  split
  · exact h
  · exact fineM_of rfl (fallen_fine h keep torn)
theorem fine_hap {m : Fs} (hok : OkM m) (h : FineM m) (e : Ev) : FineM (hapM m e) := by
  unfold hapM
  split
  · exact fine_crash h _ _
  · split
    · exact fine_userWrite hok h
    · split
      · exact fine_userRemove hok h
      · exact h
theorem fine_call {m : Fs} (hok : OkM m) (h : FineM m) : FineM (callM m).1 := by
  have key : ∀ (n : Nat) (l : List Ev) (x : Fs × Bool × Bool), OkM x.1 → FineM x.1 → OkM (l.foldl (happen n) x).1 ∧ FineM (l.foldl (happen n) x).1 := by
    intro n l
    induction l with
    | nil => exact fun x h1 h2 => ⟨h1, h2⟩
    | cons e l ih =>
      intro x h1 h2
      refine ih (happen n x e) ?_ ?_ <;> rw [happen_eq] <;> split
      · exact h1
      · exact ok_hap h1 e
      · exact h2
      · exact fine_hap h1 h2 e
  exact (key (m.calls + 1) m.plan ({ m with calls := m.calls + 1 }, false, false) (hok.same rfl rfl rfl hok.lusers (Nat.le_refl _)) (h.same rfl rfl rfl rfl rfl)).2
theorem fine_put {m : Fs} {path : B8} {mode : Int} {data : B8} {only : Bool} (hok : OkM m) (h : FineM m) (hn : m.plan.length ≤ 60) : FineM (putM (callM m) path mode data only).1 := by
  have hc := fine_call hok h
  have hcok := (call_leftN hok hn).1.ok
  unfold putM
  split
  · exact hc
  · split
    · exact hc
    · rename_i hw
      have hw0 := wrong_zero (by simpa using hw)
      split
      · exact hc
      · exact fine_puts hcok hc hw0 (fun hf => by simp only [Bool.and_eq_true] at hf; exact hf.2)
theorem fine_move {m : Fs} {s d : B8} {fresh : Bool} (hok : OkM m) (h : FineM m) (hn : m.plan.length ≤ 60) : FineM (moveM m s d fresh).1 := by
  have hc := fine_call hok h
  have hcok := (call_leftN hok hn).1.ok
  unfold moveM mvM
  split
  · exact hc
  · split
    · exact hc
    · rename_i hpb
      split
      · exact hc
      · rename_i hs
        split
        · exact hc
        · split
          · exact hc
          · split
            · exact hc
            · rename_i hmay
              refine fine_does hcok hc ?_
              cases hl : look (callM m).1.now s with
              | none => rw [hl] at hs; simp at hs
              | some x =>
                simp only [not_or, Bool.not_eq_false] at hpb
                have := (hc.now hcok).mono (t' := (callM m).1.time + 1) id (Nat.le_succ _)
                show Fine _ _ _ (match look (callM m).1.now s with | some x => putF (delF (callM m).1.now s) d x | none => (callM m).1.now)
                rw [hl]
                refine this.mv hl hpb.2 (fun hn => ?_)
                rw [hn] at hmay
                simpa using hmay
theorem fine_remove {m : Fs} {path : B8} (hok : OkM m) (h : FineM m) (hn : m.plan.length ≤ 60) : FineM (removeM m path).1 := by
  have hc := fine_call hok h
  have hcok := (call_leftN hok hn).1.ok
  unfold removeM
  split
  · exact hc
  · exact fine_removes hcok hc
theorem fine_sync {m : Fs} (hok : OkM m) (h : FineM m) (hn : m.plan.length ≤ 60) : FineM (syncM m).1 := by
  have hc := fine_call hok h
  have hcok := (call_leftN hok hn).1.ok
  unfold syncM
  split
  · exact fine_settle hcok hc
  · exact hc
theorem ite_fs {P : Fs → Prop} {c : Prop} [Decidable c] {a b : Fs} (ha : P a) (hb : P b) : P (if c then a else b) := by
  by_cases h : c
  · rw [if_pos h]; exact ha
  · rw [if_neg h]; exact hb
theorem step_fine {n : Nat} {m : Fs} {o : Opn} (hg : Good n m) (h : FineM m) : FineM (stepM m o) := by
  have hok := hg.ok
  have hn := hg.few
  have g6 : FineM (readM m o.path).1 := by rw [read_fst]; exact fine_call hok h
  have g7 : FineM (listM m o.path).1 := by rw [list_fst]; exact fine_call hok h
  exact ite_fs (fine_put hok h hn) (ite_fs (fine_put hok h hn) (ite_fs (fine_move hok h hn) (ite_fs (fine_move hok h hn) (ite_fs (fine_remove hok h hn) (ite_fs (fine_sync hok h hn) (ite_fs g6 (ite_fs g7 (ite_fs (fine_userWrite hok h) (ite_fs (fine_userRemove hok h) (ite_fs (fine_crash h _ _) (ite_fs (h.same rfl rfl rfl rfl rfl) (ite_fs (h.same rfl rfl rfl rfl rfl) h))))))))))))

theorem step_room {n : Nat} {m : Fs} {o : Opn} (hg : Good n m) : (stepM m o).room = m.room := by
  have hok := hg.ok
  have hn := hg.few
  have gc : (callM m).1.room = m.room := (call_leftN hok hn).1.room
  have g6 : (readM m o.path).1.room = m.room := by rw [read_fst]; exact gc
  have g7 : (listM m o.path).1.room = m.room := by rw [list_fst]; exact gc
  have k8 := left_hap hok ⟨0, 4, o.mode, 0, 0, o.path, o.data⟩
  have k9 := left_hap hok ⟨0, 5, o.mode, 0, 0, o.path, o.data⟩
  have k10 := left_hap hok ⟨0, 1, 0, o.keep, o.torn, [], []⟩
  exact ite_fs (P := fun x => x.room = m.room) (left_putN hok hn).room (ite_fs (P := fun x => x.room = m.room) (left_putN hok hn).room (ite_fs (P := fun x => x.room = m.room) (left_moveN hok hn).room (ite_fs (P := fun x => x.room = m.room) (left_moveN hok hn).room (ite_fs (P := fun x => x.room = m.room) (left_removeN hok hn).room (ite_fs (P := fun x => x.room = m.room) (left_syncN hok hn).room (ite_fs (P := fun x => x.room = m.room) g6 (ite_fs (P := fun x => x.room = m.room) g7 (ite_fs (P := fun x => x.room = m.room) k8.1.room (ite_fs (P := fun x => x.room = m.room) k9.1.room (ite_fs (P := fun x => x.room = m.room) k10.1.room (ite_fs (P := fun x => x.room = m.room) rfl (ite_fs (P := fun x => x.room = m.room) rfl rfl))))))))))))

/-- A file system behind operations. -/
def playM (room : Int) (l : List Opn) : Fs := l.foldl stepM (newM room)
theorem play_good {room : Int} (h0 : 0 ≤ room) (h1 : room ≤ 1073741824) : ∀ (l : List Opn) {n : Nat} {m : Fs}, Good n m → FineM m → (∀ o ∈ l, OpOk o) → Good (n + l.length) (l.foldl stepM m) ∧ FineM (l.foldl stepM m)
  | [], n, m, hg, hf, _ => ⟨hg, hf⟩
  | o :: l, n, m, hg, hf, ho => by
    have := play_good h0 h1 l (step_good hg (ho o (by simp))) (step_fine (o := o) hg hf) (fun x hx => ho x (by simp [hx]))
    rw [List.length_cons, show n + (l.length + 1) = n + 1 + l.length by omega]
    exact this
theorem play_room : ∀ (l : List Opn) {n : Nat} {m : Fs}, Good n m → (∀ o ∈ l, OpOk o) → (l.foldl stepM m).room = m.room
  | [], _, _, _, _ => rfl
  | o :: l, n, m, hg, ho => by
    show (l.foldl stepM (stepM m o)).room = m.room
    rw [play_room l (step_good hg (ho o (by simp))) (fun x hx => ho x (by simp [hx])), step_room hg]
theorem no_parent {r : Int} {b : Prop} {t : Nat} {l : Files} (h : Fine r b t l) {p : B8} {f : Fi} (hp : (p, f) ∈ l) : ∀ u ∈ parentsL p, (pathsL l).contains u = false := by
  intro u hu
  have h1 := (mem_parents (h.path _ hp)).1 hu
  cases hc : (pathsL l).contains u with
  | false => rfl
  | true =>
    obtain ⟨e, he, hq⟩ := List.mem_map.1 (List.contains_iff_mem.1 hc)
    subst hq
    rw [h.tree e he _ hp] at h1
    cases h1
theorem usedT_take {l : Files} {k : Nat} {e : B8 × Fi} (h : l[k]? = some e) : usedF (l.take (k + 1)) = usedF (l.take k) + e.2.data.length := by
  obtain ⟨hlt, rfl⟩ := (List.getElem?_eq_some_iff.1 h)
  unfold usedF
  rw [List.take_succ_eq_append_getElem hlt, List.map_append, List.sum_append]
  simp only [List.map_cons, List.map_nil, List.sum_cons, List.sum_nil, Nat.add_zero]
theorem usedT_le (l : Files) (k : Nat) (h : ∀ e ∈ l, e.2.data.length ≤ 20000) : usedF (l.take k) ≤ l.length * 20000 := by
  have h1 : ∀ r : Files, (∀ e ∈ r, e.2.data.length ≤ 20000) → usedF r ≤ r.length * 20000 := by
    intro r
    induction r with
    | nil => intro _; simp [usedF]
    | cons e r ih =>
      intro hr
      have h2 := hr e (by simp)
      have h3 := ih (fun e he => hr e (by simp [he]))
      simp only [usedF, List.map_cons, List.sum_cons, List.length_cons] at *
      omega
  have h4 := h1 (l.take k) (fun e he => h e (List.mem_of_mem_take he))
  exact Nat.le_trans h4 (Nat.mul_le_mul_right _ (List.length_take_le' k l))

end Go.Proofs.YtfimfbdlegookaaGreatDoor

/-! Calls without events, crashes, users: what each leaves; what a crash behind them leaves; moves, failing calls: in plain Lean. Conditions: as each theorem states. -/
namespace Go.Proofs.YtfimfbdlegookaaGreatDoor
open Go Go.RowKit

/-! ### Finds behind changes -/
theorem find_ins (p q : B8) (f : Fi) (hne : q ≠ p) : ∀ r : Files, (insF (q, f) r).find? (fun e => e.1 == p) = r.find? (fun e => e.1 == p)
  | [] => by simp [insF, hne]
  | y :: r => by
    unfold insF
    split
    · have hq : (q == p) = false := by simpa using hne
      rw [List.find?_cons]
      simp only [hq]
    · rw [List.find?_cons, List.find?_cons, find_ins p q f hne r]
theorem look_delF_ne {l : Files} {p q : B8} (hne : q ≠ p) : look (delF l q) p = look l p := by
  unfold look delF
  rw [List.find?_filter]
  congr 2
  funext e
  by_cases h : e.1 = p
  · simp [h, Ne.symm hne]
  · simp [h]
theorem look_putF_ne {l : Files} {p q : B8} {f : Fi} (hne : q ≠ p) : look (putF l q f) p = look l p := by
  have h1 := look_delF_ne (l := l) hne
  unfold putF
  rw [← h1]
  unfold look
  rw [find_ins p q f hne]
theorem look_delF_same (l : Files) (p : B8) : look (delF l p) p = none := by
  unfold look delF
  rw [List.find?_filter]
  simp
/-- A change that does not touch a path. -/
def Away (p : B8) : Ch → Prop
  | .put q _ => q ≠ p
  | .mv s d => s ≠ p ∧ d ≠ p
  | .del q => q ≠ p
theorem look_ap {l : Files} {c : Ch} {p : B8} (h : Away p c) : look (ap l c) p = look l p := by
  cases c with
  | put q f => exact look_putF_ne h
  | mv s d =>
    show look (match look l s with | some x => putF (delF l s) d x | none => l) p = _
    split
    · rw [look_putF_ne h.2, look_delF_ne h.1]
    · rfl
  | del q => exact look_delF_ne h
theorem away_at {p : B8} {c : Ch} (h : Away p c) (t : Nat) : Away p (c.at t) := by
  cases c <;> exact h

/-! ### Calls with nothing planned -/
theorem call_calm {m : Fs} (hp : m.plan = []) (hd : m.down = false) : callM m = ({ m with calls := m.calls + 1 }, false, 0) := by
  unfold callM
  rw [hp]
  simp [hd]
/-- A path that stays as it is. -/
structure Stays (p : B8) (v : Option Fi) (m : Fs) : Prop where
  plan : m.plan = []
  down : m.down = false
  all : ∀ k, look ((m.pend.take k).foldl ap m.sure) p = v
  away : ∀ c ∈ m.pend, Away p c
theorem stays_calls {p : B8} {v : Option Fi} {m : Fs} (h : Stays p v m) (n : Nat) : Stays p v { m with calls := n } := ⟨h.plan, h.down, h.all, h.away⟩
theorem stays_does {p : B8} {v : Option Fi} {m : Fs} {c : Ch} (hok : OkM m) (h : Stays p v m) (hc : Away p c) : Stays p v (does m c) := by
  have hc' := away_at hc (m.time + 1)
  refine ⟨h.plan, h.down, fun k => ?_, fun d hd => ?_⟩
  · show look (((m.pend ++ [c.at (m.time + 1)]).take k).foldl ap m.sure) p = v
    by_cases hk : k ≤ m.pend.length
    · rw [List.take_append_of_le_length hk]
      exact h.all k
    · rw [List.take_of_length_le (by simp; omega), List.foldl_append]
      show look (ap (m.pend.foldl ap m.sure) (c.at (m.time + 1))) p = v
      rw [look_ap hc']
      have := h.all m.pend.length
      rwa [List.take_length] at this
  · rcases List.mem_append.1 hd with hd | hd
    · exact h.away d hd
    · rw [List.mem_singleton.1 hd]; exact hc'
theorem Stays.now {p : B8} {v : Option Fi} {m : Fs} (hok : OkM m) (h : Stays p v m) : look m.now p = v := by
  have := h.all m.pend.length
  rwa [List.take_length, hok.fold] at this
theorem stays_settle {p : B8} {v : Option Fi} {m : Fs} (hok : OkM m) (h : Stays p v m) : Stays p v (settle m) :=
  ⟨h.plan, h.down, fun k => (by show look ((([] : List Ch).take k).foldl ap m.now) p = v; simpa using h.now hok), fun c hc => (by cases hc)⟩
theorem stays_puts {p : B8} {v : Option Fi} {m : Fs} {path : B8} {mode : Int} {data : B8} {fits : Bool} (hok : OkM m) (h : Stays p v m) (hne : path ≠ p) : Stays p v (putsM m path mode data fits).1 := by
  unfold putsM
  split
  · exact h
  · split
    · exact h
    · exact stays_does hok h hne
theorem stays_put {p : B8} {v : Option Fi} {m : Fs} {path : B8} {mode : Int} {data : B8} {only : Bool} (hok : OkM m) (h : Stays p v m) (hne : path ≠ p) : Stays p v (putM (callM m) path mode data only).1 := by
  have hok' : OkM { m with calls := m.calls + 1 } := hok.same rfl rfl rfl hok.lusers (Nat.le_refl _)
  rw [call_calm h.plan h.down]
  unfold putM
  split
  · exact stays_calls h _
  · split
    · exact stays_calls h _
    · split
      · exact stays_calls h _
      · exact stays_puts hok' (stays_calls h _) hne
theorem stays_move {p : B8} {v : Option Fi} {m : Fs} {s d : B8} {fresh : Bool} (hok : OkM m) (h : Stays p v m) (hs : s ≠ p) (hd : d ≠ p) : Stays p v (moveM m s d fresh).1 := by
  have hok' : OkM { m with calls := m.calls + 1 } := hok.same rfl rfl rfl hok.lusers (Nat.le_refl _)
  unfold moveM
  rw [call_calm h.plan h.down]
  unfold mvM
  split
  · exact stays_calls h _
  · split
    · exact stays_calls h _
    · split
      · exact stays_calls h _
      · split
        · exact stays_calls h _
        · split
          · exact stays_calls h _
          · split
            · exact stays_calls h _
            · exact stays_does hok' (stays_calls h _) ⟨hs, hd⟩
theorem stays_remove {p : B8} {v : Option Fi} {m : Fs} {path : B8} (hok : OkM m) (h : Stays p v m) (hne : path ≠ p) : Stays p v (removeM m path).1 := by
  have hok' : OkM { m with calls := m.calls + 1 } := hok.same rfl rfl rfl hok.lusers (Nat.le_refl _)
  unfold removeM
  rw [call_calm h.plan h.down]
  simp only [ne_eq, not_true_eq_false, if_false]
  unfold removesM
  split
  · exact stays_calls h _
  · split
    · exact stays_calls h _
    · exact stays_does hok' (stays_calls h _) hne
theorem stays_sync {p : B8} {v : Option Fi} {m : Fs} (hok : OkM m) (h : Stays p v m) : Stays p v (syncM m).1 := by
  have hok' : OkM { m with calls := m.calls + 1 } := hok.same rfl rfl rfl hok.lusers (Nat.le_refl _)
  unfold syncM
  rw [call_calm h.plan h.down]
  exact stays_settle hok' (stays_calls h _)
theorem stays_call {p : B8} {v : Option Fi} {m : Fs} (h : Stays p v m) : Stays p v (callM m).1 := by
  rw [call_calm h.plan h.down]
  exact stays_calls h _
theorem ite_dep {P : Fs → Prop} {c : Prop} [Decidable c] {a b : Fs} (ha : c → P a) (hb : ¬ c → P b) : P (if c then a else b) := by
  by_cases h : c
  · rw [if_pos h]; exact ha h
  · rw [if_neg h]; exact hb h
theorem stays_step {p : B8} {v : Option Fi} {m : Fs} {o : Opn} (hok : OkM m) (h : Stays p v m) (h0 : 0 ≤ o.kind) (h7 : o.kind ≤ 7) (hs : o.path ≠ p) (hd : o.dest ≠ p) : Stays p v (stepM m o) := by
  have g6 : Stays p v (readM m o.path).1 := by rw [read_fst]; exact stays_call h
  have g7 : Stays p v (listM m o.path).1 := by rw [list_fst]; exact stays_call h
  unfold stepM
  refine ite_dep (fun _ => stays_put hok h hs) (fun _ => ?_)
  refine ite_dep (fun _ => stays_put hok h hs) (fun _ => ?_)
  refine ite_dep (fun _ => stays_move hok h hs hd) (fun _ => ?_)
  refine ite_dep (fun _ => stays_move hok h hs hd) (fun _ => ?_)
  refine ite_dep (fun _ => stays_remove hok h hs) (fun _ => ?_)
  refine ite_dep (fun _ => stays_sync hok h) (fun _ => ?_)
  refine ite_dep (fun _ => g6) (fun _ => ?_)
  refine ite_dep (fun _ => g7) (fun _ => ?_)
  exfalso
  omega
theorem stays_fallen {p : B8} {v : Option Fi} {m : Fs} (h : Stays p v m) (keep torn : Int) : look (fallen m keep torn) p = v := by
  unfold fallen torn1
  split
  · rename_i q f hk
    have hq : q ≠ p := h.away _ (List.mem_of_getElem? hk)
    split
    · rw [look_ap (show Away p (.put q { f with data := f.data.take torn.toNat }) from hq)]
      exact h.all _
    · exact h.all _
  · exact h.all _

/-- Calls but a sync: nothing new is durable. -/
structure Kept (F : Files) (m : Fs) : Prop where
  plan : m.plan = []
  down : m.down = false
  sure : m.sure = F
theorem kept_step {F : Files} {m : Fs} {o : Opn} (h : Kept F m) (h0 : 0 ≤ o.kind) (h7 : o.kind ≤ 7) (h5 : o.kind ≠ 5) : Kept F (stepM m o) := by
  have hc := call_calm h.plan h.down
  have hk : ∀ n, Kept F { m with calls := n } := fun n => ⟨h.plan, h.down, h.sure⟩
  have hd : ∀ n c, Kept F (does { m with calls := n } c) := fun n c => ⟨h.plan, h.down, h.sure⟩
  have gp : ∀ only, Kept F (putM (callM m) o.path o.mode o.data only).1 := by
    intro only
    rw [hc]
    unfold putM putsM
    repeat' split
    all_goals first | exact hk _ | exact hd _ _
  have gm : ∀ fresh, Kept F (moveM m o.path o.dest fresh).1 := by
    intro fresh
    unfold moveM
    rw [hc]
    unfold mvM
    repeat' split
    all_goals first | exact hk _ | exact hd _ _
  have gr : Kept F (removeM m o.path).1 := by
    unfold removeM
    rw [hc]
    unfold removesM
    repeat' split
    all_goals first | exact hk _ | exact hd _ _
  have g6 : Kept F (readM m o.path).1 := by rw [read_fst, hc]; exact hk _
  have g7 : Kept F (listM m o.path).1 := by rw [list_fst, hc]; exact hk _
  unfold stepM
  refine ite_dep (fun _ => gp _) (fun _ => ?_)
  refine ite_dep (fun _ => gp _) (fun _ => ?_)
  refine ite_dep (fun _ => gm _) (fun _ => ?_)
  refine ite_dep (fun _ => gm _) (fun _ => ?_)
  refine ite_dep (fun _ => gr) (fun _ => ?_)
  refine ite_dep (fun h => (h5 h).elim) (fun _ => ?_)
  refine ite_dep (fun _ => g6) (fun _ => ?_)
  refine ite_dep (fun _ => g7) (fun _ => ?_)
  exfalso
  omega

theorem peek_some (m : Fs) (p : B8) : (peekM m p).2 = (look m.now p).isSome := by
  unfold peekM
  cases look m.now p <;> rfl
theorem peek_of {m : Fs} {p : B8} {x : Fi} (h : look m.now p = some x) : peekM m p = (x, true) := by
  unfold peekM
  rw [h]
theorem readB_nil (w : World) : ReadB w (.slice none 0 0) [] := ⟨[], Row.nil _, Each.nil _⟩

/-! ### A move -/
theorem move_no {m : Fs} {a b : B8} {fresh : Bool} (hp : m.plan = []) (hd : m.down = false) (h : (moveM m a b fresh).2 ≠ 0) :
    (moveM m a b fresh).1 = { m with calls := m.calls + 1 } ∧ ((moveM m a b fresh).2 = 8 → fresh = true ∧ (look m.now b).isSome = true) ∧ ((moveM m a b fresh).2 = 7 → (look m.now a).isSome = false) := by
  revert h
  unfold moveM
  rw [call_calm hp hd]
  unfold mvM
  simp only [ne_eq, not_true_eq_false, if_false]
  split
  · exact fun _ => ⟨rfl, fun h => by simp at h, fun h => by simp at h⟩
  · split
    · rename_i h1
      exact fun _ => ⟨rfl, fun h => by simp at h, fun _ => by simpa using h1⟩
    · split
      · rename_i h1
        exact fun _ => ⟨rfl, fun _ => ⟨h1.2, h1.1⟩, fun h => by simp at h⟩
      · split
        · exact fun h => (h rfl).elim
        · split
          · exact fun _ => ⟨rfl, fun h => by simp at h, fun h => by simp at h⟩
          · exact fun h => (h rfl).elim
theorem move_yes {m : Fs} {a b : B8} {fresh : Bool} (hp : m.plan = []) (hd : m.down = false) (hr : Rising m.now) (h : (moveM m a b fresh).2 = 0) :
    ∃ x, look m.now a = some x ∧ look (moveM m a b fresh).1.now b = some x ∧ (fresh = true → look m.now b = none) ∧ (look (moveM m a b fresh).1.now a).isSome = (a == b) ∧ usedF (moveM m a b fresh).1.now ≤ usedF m.now := by
  revert h
  unfold moveM
  rw [call_calm hp hd]
  unfold mvM
  simp only [ne_eq, not_true_eq_false, if_false]
  cases hl : look m.now a with
  | none =>
    split
    · intro h; simp at h
    · simp
  | some x =>
    split
    · intro h; simp at h
    · rw [if_neg (by simp)]
      split
      · intro h; simp at h
      · rename_i h8
        split
        · rename_i hab
          subst hab
          intro _
          refine ⟨x, rfl, hl, fun hf => ?_, by simp [hl], Nat.le_refl _⟩
          rw [hl] at h8
          simp [hf] at h8
        · rename_i hab
          split
          · intro h; simp at h
          · intro _
            have e : (does { m with calls := m.calls + 1 } (.mv a b)).now = putF (delF m.now a) b x := by
              show (match look m.now a with | some x => putF (delF m.now a) b x | none => m.now) = _
              rw [hl]
            refine ⟨x, rfl, ?_, fun hf => ?_, ?_, ?_⟩
            · show look (does { m with calls := m.calls + 1 } (.mv a b)).now b = _
              rw [e]; exact look_putF_same _ _ _
            · cases hb : look m.now b with
              | none => rfl
              | some y => rw [hb] at h8; simp [hf] at h8
            · show (look (does { m with calls := m.calls + 1 } (.mv a b)).now a).isSome = _
              rw [e, look_putF_ne (Ne.symm hab), look_delF_same]
              simp [hab]
            · show usedF (does { m with calls := m.calls + 1 } (.mv a b)).now ≤ _
              rw [e]
              have h1 := usedF_put (hr.del a) b x
              have h2 := usedF_del hr a
              have h3 : oldLen m.now a = x.data.length := by unfold oldLen; rw [hl]
              omega

end Go.Proofs.YtfimfbdlegookaaGreatDoor

/-! Names for commits, over a file system: what each call does, in plain Lean. Conditions: as each theorem states. -/
namespace Go.Proofs.YtfimfbdlegookaaGreatDoor
open Go Go.RowKit

def lockD : B8 := [115, 47, 108]
def placeD : B8 := [115, 47, 114]
def lockP (n : B8) : B8 := [115, 47, 108, 47] ++ n
def placeP (n : B8) : B8 := [115, 47, 114, 47] ++ n
def lineM (id : B8) : B8 := id ++ [10]
/-- A file is read: what the program makes of it. -/
def expectE (x : Fi × Int) (old : B8) : Int :=
  if x.2 = 7 then (if old = [] then 0 else 13) else if x.2 ≠ 0 then x.2 else if old = [] ∨ x.1.data ≠ lineM old then 13 else 0
def expectM (m : Fs) (name old : B8) : Fs × Int := ((readM m (placeP name)).1, expectE (readM m (placeP name)).2 old)
def setEnd (m : Fs) (name : B8) : Fs × Int :=
  if (moveM m (lockP name) (placeP name) false).2 ≠ 0 then moveM m (lockP name) (placeP name) false else syncM (moveM m (lockP name) (placeP name) false).1
def setMid (x : Fs × Int) (name : B8) : Fs × Int :=
  if (if x.2 = 0 then syncM x.1 else x).2 ≠ 0 then ((removeM (if x.2 = 0 then syncM x.1 else x).1 (lockP name)).1, (if x.2 = 0 then syncM x.1 else x).2)
  else setEnd (if x.2 = 0 then syncM x.1 else x).1 name
def setM (m : Fs) (name old next : B8) : Fs × Int :=
  if nameB name = false then (m, 6) else if validB next = false ∨ (old ≠ [] ∧ validB old = false) then (m, 1)
  else if (createM m (lockP name) 1 (lineM next)).2 ≠ 0 then ((createM m (lockP name) 1 (lineM next)).1, if (createM m (lockP name) 1 (lineM next)).2 = 8 then 13 else (createM m (lockP name) 1 (lineM next)).2)
  else setMid (expectM (createM m (lockP name) 1 (lineM next)).1 name old) name
def deleteM (m : Fs) (name old : B8) : Fs × Int :=
  if nameB name = false then (m, 6) else if validB old = false then (m, 1)
  else if (readM m (placeP name)).2.2 ≠ 0 then ((readM m (placeP name)).1, (readM m (placeP name)).2.2)
  else if (readM m (placeP name)).2.1.data ≠ lineM old then ((readM m (placeP name)).1, 13)
  else if (removeM (readM m (placeP name)).1 (placeP name)).2 ≠ 0 then removeM (readM m (placeP name)).1 (placeP name)
  else syncM (removeM (readM m (placeP name)).1 (placeP name)).1
def getE (x : Fi × Int) : B8 × Int :=
  if x.2 ≠ 0 then ([], x.2) else if validB (Lib.trimSuffix x.1.data [10]) = false ∨ lineM (Lib.trimSuffix x.1.data [10]) ≠ x.1.data then ([], 4) else (Lib.trimSuffix x.1.data [10], 0)
def getM (m : Fs) (name : B8) : Fs × B8 × Int := if nameB name = false then (m, [], 6) else ((readM m (placeP name)).1, getE (readM m (placeP name)).2)
def lastL (l : List B8) (dir : B8) : List B8 := (l.map fun p => Lib.trimPrefix p (dir ++ [47])).filter nameB
def refsM (m : Fs) : Fs × List B8 × Int := ((listM m placeD).1, lastL (listM m placeD).2.1 placeD, (listM m placeD).2.2)
def dropsM (m : Fs) : List B8 → Fs × Int
  | [] => (m, 0)
  | n :: l => if (removeM m (lockP n)).2 ≠ 0 then removeM m (lockP n) else dropsM (removeM m (lockP n)).1 l
def unlockM (m : Fs) : Fs × Int × Int :=
  if (listM m lockD).2.2 ≠ 0 then ((listM m lockD).1, 0, (listM m lockD).2.2)
  else if (dropsM (listM m lockD).1 (lastL (listM m lockD).2.1 lockD)).2 ≠ 0 then ((dropsM (listM m lockD).1 (lastL (listM m lockD).2.1 lockD)).1, 0, (dropsM (listM m lockD).1 (lastL (listM m lockD).2.1 lockD)).2)
  else ((dropsM (listM m lockD).1 (lastL (listM m lockD).2.1 lockD)).1, ((lastL (listM m lockD).2.1 lockD).length : Int), 0)

theorem read_len {m : Fs} {p : B8} (h : OkM m) (hp : PlanOk m) : (readM m p).2.1.data.length ≤ 20000 := by
  have hok := (call_left h hp).1.ok
  have hz : zeroFi.data.length ≤ 20000 := Nat.zero_le _
  unfold readM
  split
  · exact hz
  · split
    · exact hz
    · split
      · rename_i f hl
        obtain ⟨e, he, rfl⟩ := Option.map_eq_some_iff.1 hl
        exact (hok.dnow e (List.mem_of_find?_eq_some he)).2
      · exact hz
/-! ### What each leaves, in numbers -/
theorem good_create {n : Nat} {m : Fs} (h : Good n m) (path : B8) (mode : Int) (data : B8) : Good (n + 1) (createM m path mode data).1 :=
  h.left (left_putN h.ok h.few) (by have e1 : (createM m path mode data).1.calls = _ := put_calls m _ _ _ _; have e2 := (call_leftN h.ok h.few).2; omega)
theorem good_write {n : Nat} {m : Fs} (h : Good n m) (path : B8) (mode : Int) (data : B8) : Good (n + 1) (writeM m path mode data).1 :=
  h.left (left_putN h.ok h.few) (by have e1 : (writeM m path mode data).1.calls = _ := put_calls m _ _ _ _; have e2 := (call_leftN h.ok h.few).2; omega)
theorem good_move {n : Nat} {m : Fs} (h : Good n m) (s d : B8) (fresh : Bool) : Good (n + 1) (moveM m s d fresh).1 :=
  h.left (left_moveN h.ok h.few) (by rw [move_calls]; have e2 := (call_leftN h.ok h.few).2; omega)
theorem good_remove {n : Nat} {m : Fs} (h : Good n m) (p : B8) : Good (n + 1) (removeM m p).1 :=
  h.left (left_removeN h.ok h.few) (by rw [remove_calls]; have e2 := (call_leftN h.ok h.few).2; omega)
theorem good_sync {n : Nat} {m : Fs} (h : Good n m) : Good (n + 1) (syncM m).1 :=
  h.left (left_syncN h.ok h.few) (by rw [sync_calls]; have e2 := (call_leftN h.ok h.few).2; omega)
theorem good_call {n : Nat} {m : Fs} (h : Good n m) : Good (n + 1) (callM m).1 :=
  h.left ((call_leftN h.ok h.few).1.mono (by omega)) (by have e2 := (call_leftN h.ok h.few).2; omega)
theorem good_read {n : Nat} {m : Fs} (h : Good n m) (p : B8) : Good (n + 1) (readM m p).1 := by rw [read_fst]; exact good_call h
theorem good_list {n : Nat} {m : Fs} (h : Good n m) (p : B8) : Good (n + 1) (listM m p).1 := by rw [list_fst]; exact good_call h
theorem good_setEnd {n : Nat} {m : Fs} (h : Good n m) (name : B8) : Good (n + 2) (setEnd m name).1 := by
  have h1 := good_move h (lockP name) (placeP name) false
  unfold setEnd
  split
  · exact h1.mono (by omega)
  · exact good_sync h1
theorem good_setMid {n : Nat} {x : Fs × Int} (h : Good n x.1) (name : B8) : Good (n + 3) (setMid x name).1 := by
  have h1 : Good (n + 1) (if x.2 = 0 then syncM x.1 else x).1 := by
    split
    · exact good_sync h
    · exact h.mono (by omega)
  unfold setMid
  generalize (if x.2 = 0 then syncM x.1 else x) = y at h1 ⊢
  split
  · exact (good_remove h1 _).mono (by omega)
  · exact good_setEnd h1 name
theorem good_set {n : Nat} {m : Fs} (h : Good n m) (name old next : B8) : Good (n + 6) (setM m name old next).1 := by
  have h1 := good_create h (lockP name) 1 (lineM next)
  unfold setM
  split
  · exact h.mono (by omega)
  · split
    · exact h.mono (by omega)
    · split
      · exact h1.mono (by omega)
      · exact (good_setMid (x := expectM (createM m (lockP name) 1 (lineM next)).1 name old) (good_read h1 _) name).mono (by omega)
theorem good_delete {n : Nat} {m : Fs} (h : Good n m) (name old : B8) : Good (n + 3) (deleteM m name old).1 := by
  have h1 := good_read h (placeP name)
  have h2 := good_remove h1 (placeP name)
  unfold deleteM
  split
  · exact h.mono (by omega)
  · split
    · exact h.mono (by omega)
    · split
      · exact h1.mono (by omega)
      · split
        · exact h1.mono (by omega)
        · split
          · exact h2.mono (by omega)
          · exact good_sync h2
theorem good_get {n : Nat} {m : Fs} (h : Good n m) (name : B8) : Good (n + 1) (getM m name).1 := by
  unfold getM
  split
  · exact h.mono (by omega)
  · exact good_read h _
theorem good_drops {l : List B8} : ∀ {n : Nat} {m : Fs}, Good n m → Good (n + l.length) (dropsM m l).1 := by
  induction l with
  | nil => exact fun h => h
  | cons x l ih =>
    intro n m h
    have h1 := good_remove h (lockP x)
    unfold dropsM
    rw [List.length_cons]
    split
    · exact h1.mono (by omega)
    · exact (ih h1).mono (by omega)

end Go.Proofs.YtfimfbdlegookaaGreatDoor

/-! refs: line, place, expected, Get, last. Conditions: as each theorem states. -/
namespace Go.Proofs.YtfimfbdlegookaaGreatDoor
open Go Go.RowKit

theorem line_any (l : B8) (w : World) (hl : l.length ≤ 1000000) : Calls Tryz.prog 60 #[S8 l] w fun e w' => e = .returned (S8 (lineM l)) ∧ w' = w := by
  go_enter Tryz.func60, Tryz.ntmps60
  go_wp2
  go_ret
  exact ⟨rfl, rfl⟩
theorem place_any (l : B8) (w : World) (hl : l.length ≤ 1000000) : Calls Tryz.prog 65 #[S8 l] w fun e w' => e = .returned (S8 (placeP l)) ∧ w' = w := by
  go_enter Tryz.func65, Tryz.ntmps65
  go_wp2
  go_ret
  exact ⟨rfl, rfl⟩

set_option maxRecDepth 100000 in
set_option maxHeartbeats 2000000 in
theorem expected_any {S O R : Nat → Prop} {w : World} {p : Value} {m : Fs} (name old : B8) (h : FsIn S O R w p m) (hn : name.length ≤ 100) (hol : old.length ≤ 1000000) :
    Calls Tryz.prog 61 #[p, S8 name, S8 old] w fun e w' => e = .returned (.int .i64 (expectM m name old).2) ∧ FsPost S O R w p (expectM m name old).1 w' := by
  have hpl : (placeP name).length ≤ 400 := by unfold placeP; simp; omega
  have HR : Hid _ := read_any (placeP name) h hpl
  unfold expectM
  obtain ⟨⟨m1, fx, er⟩, hrd⟩ : ∃ q, readM m (placeP name) = q := ⟨_, rfl⟩
  rw [hrd] at HR ⊢
  clear hrd h
  go_enter Tryz.func61, Tryz.ntmps61
  go_wp2_with fail
  go_at_call 65
  refine (place_any name _ (by omega)).mono ?_
  rintro e w0 ⟨rfl, rfl⟩
  go_wp2_with fail
  go_at_call 68
  refine Calls.mono HR.out ?_
  rintro e w1 ⟨⟨v, rfl, hd⟩, hp1⟩
  try dsimp only at hd hp1
  obtain ⟨s1, t1, rfl, -⟩ := id hd.bytes
  try dsimp only
  go_upto_region 2 with fail
  obtain ⟨w2, hw2⟩ : ∃ wq, wq = w1.alloc (.cells #[.int .i64 fx.mode, .slice s1 fx.data.length t1, .int .i64 fx.time] 76) := ⟨_, rfl⟩
  rw [← hw2]
  have hx2 : Ext w1 w2 := by rw [hw2]; exact (Ext.refl _).alloc _
  have hb2 : w2.heap[w1.heap.size]? = some (.cells #[.int .i64 fx.mode, .slice s1 fx.data.length t1, .int .i64 fx.time] 76 (0, 0)) := by rw [hw2]; exact alloc_at _ _
  have HP : Hid _ := FsPost.ext hp1 hx2
  have HD : Hid (IsBytes w2 (.slice s1 fx.data.length t1) fx.data) := (IsData.ext hd hx2).bytes
  obtain ⟨c0, c1, c2⟩ := cellsAt3 hb2
  clear hw2 hb2 hd hp1 HR hx2
  try dsimp only
  by_cases h7 : er = 7
  · subst h7
    by_cases hoe : old = []
    · subst hoe
      go_wp2
      go_ret
      exact ⟨rfl, HP.out⟩
    · have hne : (old == ([] : B8)) = false := by simpa using hoe
      have HEE : Hid (expectE (fx, 7) old = 13) := by unfold Hid expectE; simp [hoe]
      clear hoe
      go_wp2
      go_ret
      rw [HEE.out]
      exact ⟨rfl, HP.out⟩
  · have b7 : (er == 7) = false := by simpa using h7
    by_cases h0 : er = 0
    · subst h0
      by_cases hoe : old = []
      · subst hoe
        have he : expectE (fx, 0) [] = 13 := rfl
        have HEE : Hid _ := he
        clear he h7 b7
        go_wp2_with fail
        apply wp_region_mix 10 [_, _, _, _, _, _, _, _, _, _] [none, none, none, none, none, none, none, none, none, none] [[], [0], [1], [2], [2, 3], [2, 4], [2], [2, 6], [2, 5, 7], [2, 8]] (by kernel_rfl) (by kernel_rfl) (by simp [mixV])
        · trivial
        · simp (maxSteps := 1000000) only [List.take_succ_cons, List.take_zero, oblFrom, stepObl, fillFrom, Act.put, List.setIfInBounds_toArray, List.set_cons_zero, List.set_cons_succ, knows, getV, mixV, List.getD_cons_zero, List.getD_cons_succ, and_true, true_and, forall_const]
          refine ⟨?_, ?_, ?_, ?_, ?_, ?_, ?_, ?_, ?_, ?_⟩
          · intro xs wq hq R hR
            go_simp
            exact hR _ _ (Ext.refl _) rfl
          · intro xs wq hq hk R hR
            go_simp
            exact hR _ _ (Ext.refl _) rfl
          · intro xs wq hq hk R hR
            go_simp
            exact hR _ _ (Ext.refl _) rfl
          · intro xs wq hq hk R hR
            go_simp
            exact hR _ _ (Ext.refl _) rfl
          · intro xs wq hq hk R hR
            obtain ⟨hk0, hk1⟩ := hk
            go_simp
            exact hR _ _ (Ext.refl _) rfl
          · intro xs wq hq hk R hR
            obtain ⟨hk0, hk1⟩ := hk
            go_simp
            exact hR _ _ (Ext.refl _) rfl
          · intro xs wq hq hk R hR
            go_simp
            exact hR _ _ (Ext.refl _) rfl
          · intro xs wq hq hk R hR
            obtain ⟨hk0, hk1⟩ := hk
            go_simp
            exact hR _ _ (Ext.refl _) rfl
          · intro xs wq hq hk R hR
            obtain ⟨hk0, hk1, hk2⟩ := hk
            go_simp
            exact hR _ _ (Ext.refl _) rfl
          · intro xs wq hq hk R hR
            obtain ⟨hk0, hk1⟩ := hk
            go_simp
            exact hR _ _ (Ext.refl _) rfl
        intro xs w3 hx3 hk
        simp only [heldV, Nat.zero_add, Nat.reduceAdd, and_true] at hk
        obtain ⟨q0, q1, q2, q3, q4, q5, q6, q7, q8, q9⟩ := hk
        simp (maxSteps := 1000000) only [List.take_succ_cons, List.take_zero, List.drop_succ_cons, List.drop_zero, fillFrom, Act.put, List.setIfInBounds_toArray, List.set_cons_zero, List.set_cons_succ, Nat.zero_add, Nat.reduceAdd, q0, q1, q2, q3, q4, q5, q6, q7, q8, q9]
        clear q0 q1 q2 q3 q4 q5 q6 q7 q8 q9
        go_wp2
        go_ret
        rw [HEE.out]
        exact ⟨rfl, FsPost.ext HP.out hx3⟩
      · have hne : (old == ([] : B8)) = false := by simpa using hoe
        have hne2 : old ≠ [] := hoe
        clear hoe
        obtain ⟨bq, hbq⟩ : ∃ bq, (fx.data == lineM old) = bq := ⟨_, rfl⟩
        have he : expectE (fx, 0) old = if bq then 0 else 13 := by
          unfold expectE
          simp only [ne_eq]
          rw [if_neg (by decide), if_neg (by decide)]
          cases bq with
          | true =>
            have : fx.data = lineM old := by simpa using hbq
            rw [if_neg (fun hh => hh.elim (fun h => hne2 h) (fun h => h this))]
            rfl
          | false =>
            have : fx.data ≠ lineM old := by simpa using hbq
            rw [if_pos (.inr this)]
            rfl
        have HEE : Hid _ := he
        have HBQ : Hid _ := hbq
        clear he h7 b7 hbq hne2
        go_wp2_with fail
        apply wp_region_mix 10 [_, _, _, _, .slice s1 fx.data.length t1, S8 fx.data, _, S8 (lineM old), .bool (!bq), .bool (!bq)] [none, none, none, none, none, none, none, none, none, none] [[], [0], [1], [2], [2, 3], [2, 4], [2], [2, 6], [2, 5, 7], [2, 8]] (by kernel_rfl) (by kernel_rfl) (by simp [mixV])
        · trivial
        · simp (maxSteps := 1000000) only [List.take_succ_cons, List.take_zero, oblFrom, stepObl, fillFrom, Act.put, List.setIfInBounds_toArray, List.set_cons_zero, List.set_cons_succ, knows, getV, mixV, List.getD_cons_zero, List.getD_cons_succ, and_true, true_and, forall_const]
          refine ⟨?_, ?_, ?_, ?_, ?_, ?_, ?_, ?_, ?_, ?_⟩
          · intro xs wq hq R hR
            have f1 := hq.cell c1
            go_simp
            exact hR _ _ (Ext.refl _) rfl
          · intro xs wq hq hk R hR
            have f1 := hq.cell c1
            go_simp
            exact hR _ _ (Ext.refl _) rfl
          · intro xs wq hq hk R hR
            have f1 := hq.cell c1
            go_simp
            exact hR _ _ (Ext.refl _) rfl
          · intro xs wq hq hk R hR
            have f1 := hq.cell c1
            go_simp
            exact hR _ _ (Ext.refl _) rfl
          · intro xs wq hq hk R hR
            obtain ⟨hk0, hk1⟩ := hk
            have f1 := hq.cell c1
            go_simp
            exact hR _ _ (Ext.refl _) rfl
          · intro xs wq hq hk R hR
            obtain ⟨hk0, hk1⟩ := hk
            have hcv := conv_bytes (IsBytes.ext HD.out hq)
            go_simp
            exact hR _ _ (Ext.refl _) rfl
          · intro xs wq hq hk R hR
            have f1 := hq.cell c1
            go_simp
            exact hR _ _ (Ext.refl _) rfl
          · intro xs wq hq hk R hR
            obtain ⟨hk0, hk1⟩ := hk
            go_simp
            exact (line_any old _ hol).mono (by rintro e' w4 ⟨rfl, rfl⟩; exact ⟨_, rfl, hR _ _ (Ext.refl _) rfl⟩)
          · intro xs wq hq hk R hR
            obtain ⟨hk0, hk1, hk2⟩ := hk
            have hb := HBQ.out
            go_simp
            exact hR _ _ (Ext.refl _) rfl
          · intro xs wq hq hk R hR
            obtain ⟨hk0, hk1⟩ := hk
            have f1 := hq.cell c1
            go_simp
            exact hR _ _ (Ext.refl _) rfl
        intro xs w3 hx3 hk
        simp only [heldV, Nat.zero_add, Nat.reduceAdd, and_true] at hk
        obtain ⟨q0, q1, q2, q3, q4, q5, q6, q7, q8, q9⟩ := hk
        simp (maxSteps := 1000000) only [List.take_succ_cons, List.take_zero, List.drop_succ_cons, List.drop_zero, fillFrom, Act.put, List.setIfInBounds_toArray, List.set_cons_zero, List.set_cons_succ, Nat.zero_add, Nat.reduceAdd, q0, q1, q2, q3, q4, q5, q6, q7, q8, q9]
        clear q0 q1 q2 q3 q4 q5 q6 q7 q8 q9
        cases bq with
        | true =>
          go_wp2
          go_ret
          rw [HEE.out]
          exact ⟨rfl, FsPost.ext HP.out hx3⟩
        | false =>
          go_wp2
          go_ret
          rw [HEE.out]
          exact ⟨rfl, FsPost.ext HP.out hx3⟩
    · have b0 : (er != 0) = true := by simpa using h0
      have he : expectE (fx, er) old = er := by
        unfold expectE
        simp only [ne_eq]
        rw [if_neg h7, if_pos h0]
      have HEE : Hid _ := he
      clear he h0 h7
      go_wp2
      go_ret
      rw [HEE.out]
      exact ⟨rfl, HP.out⟩

end Go.Proofs.YtfimfbdlegookaaGreatDoor

/-! refs: Get, Delete, Set, last, List. Conditions: as each theorem states. -/
namespace Go.Proofs.YtfimfbdlegookaaGreatDoor
open Go Go.RowKit

/-- []byte(s). -/
theorem str_bytes (w : World) (l : B8) (hl : l.length ≤ 1000000) : ∃ v w', (convert 9 31 (S8 l)).run Tryz.prog w = .ok v w' ∧ Ext w w' ∧ IsBytes w' v l ∧ TypB w' v ∧ ∃ a c, v = .slice a l.length c := by
  have hr := Lib.run_convert_string_bytes (P := Tryz.prog) w 9 31 5 ⟨l.toArray⟩ Tryz.underlying9 Tryz.underlying31 Tryz.underlying5
  have hsz : (⟨l.toArray⟩ : ByteArray).size = l.length := by simp [ByteArray.size]
  rw [hsz] at hr
  have hc1 := grownCap_ge w l.length 0 5
  have hc2 := grownCap_le_maxLen w l.length 0 5 (by unfold maxLen; omega)
  unfold maxLen at hc2
  refine ⟨_, _, hr, ⟨rfl, rfl, rfl, ?_, fun k hk => Lib.bytesWorld_at_old w _ _ k hk⟩, ⟨_, _, rfl, hc1, by omega, by omega, fun hn => ⟨w.heap.size, 0, rfl, fun i u hu => ?_⟩⟩, ?_, _, _, rfl⟩
  · rw [Lib.bytesWorld_size]; omega
  · have hi : i < l.length := by
      have := (List.getElem?_eq_some_iff.1 hu).1
      simpa using this
    have hu' : u = .int .u8 ((l.getD i 0).toNat : Int) := by
      rw [List.getElem?_map, List.getElem?_eq_getElem hi] at hu
      have := Option.some.inj hu
      rw [← this, List.getD_eq_getElem?_getD, List.getElem?_eq_getElem hi]
      rfl
    rw [hu', Nat.zero_add]
    have := Lib.bytesWorld_cell w 5 ⟨l.toArray⟩ i (by rw [hsz]; exact hi)
    simpa using this
  · intro a n c he
    cases he
    exact ⟨_, _, _, Lib.bytesWorld_at_new w _ _, byt_u8⟩

set_option maxRecDepth 100000 in
set_option maxHeartbeats 2000000 in
theorem get_any {S O R : Nat → Prop} {w : World} {p : Value} {m : Fs} (name : B8) (h : FsIn S O R w p m) (hn : name.length ≤ 1000000) :
    Calls Tryz.prog 18 #[p, S8 name] w fun e w' => e = .returned (.tuple #[S8 (getM m name).2.1, .int .i64 (getM m name).2.2]) ∧ FsPost S O R w p (getM m name).1 w' := by
  unfold getM
  cases hnb : nameB name with
  | false =>
    rw [if_pos rfl]
    have HF : Hid _ := h.fs
    clear h
    go_enter Tryz.func18, Tryz.ntmps18
    go_wp2_with fail
    go_at_call 17
    refine (name_any name _ (by omega)).mono ?_
    rw [hnb]
    rintro e w1 ⟨rfl, rfl⟩
    go_wp2
    go_ret2
    exact ⟨rfl, FsPost.same HF.out (Ext.refl _)⟩
  | true =>
    rw [if_neg (by simp)]
    have hnl : name.length ≤ 64 := by
      unfold nameB at hnb
      simp only [Bool.and_eq_true, decide_eq_true_eq] at hnb
      exact hnb.2.2.1
    have hpl : (placeP name).length ≤ 400 := by unfold placeP; simp; omega
    have HR : Hid _ := read_any (placeP name) h hpl
    have HOK : Hid _ := (call_left h.ok h.plan).1.ok
    have hrf := read_fst m (placeP name)
    have hdl0 : (readM m (placeP name)).2.1.data.length ≤ 20000 := read_len h.ok h.plan
    obtain ⟨⟨m1, fx, er⟩, hrd⟩ : ∃ q, readM m (placeP name) = q := ⟨_, rfl⟩
    rw [hrd] at HR hdl0 ⊢
    have hdl : fx.data.length ≤ 20000 := hdl0
    clear hrd h hrf HOK hdl0
    go_enter Tryz.func18, Tryz.ntmps18
    go_wp2_with fail
    go_at_call 17
    refine (name_any name _ (by omega)).mono ?_
    rw [hnb]
    rintro e w1 ⟨rfl, rfl⟩
    clear hnb
    go_wp2_with fail
    go_at_call 65
    refine (place_any name _ (by omega)).mono ?_
    rintro e w0 ⟨rfl, rfl⟩
    go_wp2_with fail
    go_at_call 68
    refine Calls.mono HR.out ?_
    rintro e w1 ⟨⟨v, rfl, hd⟩, hp1⟩
    try dsimp only at hd hp1
    obtain ⟨s1, t1, rfl, -⟩ := id hd.bytes
    try dsimp only
    go_upto_region 4 with fail
    obtain ⟨w2, hw2⟩ : ∃ wq, wq = w1.alloc (.cells #[.int .i64 fx.mode, .slice s1 fx.data.length t1, .int .i64 fx.time] 76) := ⟨_, rfl⟩
    rw [← hw2]
    have hx2 : Ext w1 w2 := by rw [hw2]; exact (Ext.refl _).alloc _
    have hb2 : w2.heap[w1.heap.size]? = some (.cells #[.int .i64 fx.mode, .slice s1 fx.data.length t1, .int .i64 fx.time] 76 (0, 0)) := by rw [hw2]; exact alloc_at _ _
    have HP : Hid _ := FsPost.ext hp1 hx2
    have HD : Hid (IsBytes w2 (.slice s1 fx.data.length t1) fx.data) := (IsData.ext hd hx2).bytes
    obtain ⟨c0, c1, c2⟩ := cellsAt3 hb2
    clear hw2 hb2 hd hp1 HR hx2
    by_cases h0 : er = 0
    · subst h0
      obtain ⟨id, hid⟩ : ∃ id, Lib.trimSuffix fx.data [10] = id := ⟨_, rfl⟩
      obtain ⟨vb, hvb⟩ : ∃ vb, validB id = vb := ⟨_, rfl⟩
      obtain ⟨bq, hbq⟩ : ∃ bq, (lineM id == fx.data) = bq := ⟨_, rfl⟩
      have HG : Hid (getE (fx, 0) = if vb = false ∨ bq = false then ([], 4) else (id, 0)) := by
        unfold Hid getE
        simp only [ne_eq, not_true_eq_false, if_false]
        rw [hid, hvb, ← hbq]
        simp
      have hil : id.length ≤ 1000000 := by
        rw [← hid]
        unfold Lib.trimSuffix
        split
        · rw [List.length_take]; omega
        · omega
      have HID : Hid _ := hid
      have HVB : Hid _ := hvb
      have HBQ : Hid _ := hbq
      have hcv := conv_bytes HD.out
      clear hid hvb hbq
      go_wp2_with fail
      go_at_call 69
      refine (Tryz.strings_TrimSuffix ⟨fx.data.toArray⟩ ⟨#[10]⟩ w2 (by simp [ByteArray.size]; omega)).mono ?_
      rw [show Lib.trimSuffix (⟨fx.data.toArray⟩ : ByteArray).data.toList (⟨#[10]⟩ : ByteArray).data.toList = id from HID.out]
      rintro e w3 ⟨rfl, rfl⟩
      clear hcv
      cases vb with
      | false =>
        go_wp2_with fail
        apply wp_region_mix 11 [_, .bool false, _, _, _, _, _, _, _, _, _] [none, none, none, none, none, none, none, none, none, none, none] [[], [0], [1], [2], [3], [3, 4], [3], [3, 6], [3, 7], [3, 5, 8], [3, 9]] (by kernel_rfl) (by kernel_rfl) (by simp [mixV])
        · trivial
        · simp (maxSteps := 1000000) only [List.take_succ_cons, List.take_zero, oblFrom, stepObl, fillFrom, Act.put, List.setIfInBounds_toArray, List.set_cons_zero, List.set_cons_succ, knows, getV, mixV, List.getD_cons_zero, List.getD_cons_succ, and_true, true_and, forall_const]
          refine ⟨?_, ?_, ?_, ?_, ?_, ?_, ?_, ?_, ?_, ?_, ?_⟩
          · intro xs wq hq R hR
            go_simp
            exact hR _ _ (Ext.refl _) rfl
          · intro xs wq hq hk R hR
            go_simp
            exact (valid_any id _ (by omega)).mono (by rw [HVB.out]; rintro e' w5 ⟨rfl, hx5⟩; exact ⟨_, rfl, hR _ _ hx5 rfl⟩)
          · intro xs wq hq hk R hR
            go_simp
            exact hR _ _ (Ext.refl _) rfl
          · intro xs wq hq hk R hR
            go_simp
            exact hR _ _ (Ext.refl _) rfl
          · intro xs wq hq hk R hR
            go_simp
            exact hR _ _ (Ext.refl _) rfl
          · intro xs wq hq hk R hR
            obtain ⟨hk0, hk1⟩ := hk
            go_simp
            exact hR _ _ (Ext.refl _) rfl
          · intro xs wq hq hk R hR
            go_simp
            exact hR _ _ (Ext.refl _) rfl
          · intro xs wq hq hk R hR
            obtain ⟨hk0, hk1⟩ := hk
            go_simp
            exact hR _ _ (Ext.refl _) rfl
          · intro xs wq hq hk R hR
            obtain ⟨hk0, hk1⟩ := hk
            go_simp
            exact hR _ _ (Ext.refl _) rfl
          · intro xs wq hq hk R hR
            obtain ⟨hk0, hk1, hk2⟩ := hk
            go_simp
            exact hR _ _ (Ext.refl _) rfl
          · intro xs wq hq hk R hR
            obtain ⟨hk0, hk1⟩ := hk
            go_simp
            exact hR _ _ (Ext.refl _) rfl
        intro xs w4 hx4 hk
        simp only [heldV, Nat.zero_add, Nat.reduceAdd, and_true] at hk
        obtain ⟨q0, q1, q2, q3, q4, q5, q6, q7, q8, q9, q10⟩ := hk
        simp (maxSteps := 1000000) only [List.take_succ_cons, List.take_zero, List.drop_succ_cons, List.drop_zero, fillFrom, Act.put, List.setIfInBounds_toArray, List.set_cons_zero, List.set_cons_succ, Nat.zero_add, Nat.reduceAdd, q0, q1, q2, q3, q4, q5, q6, q7, q8, q9, q10]
        clear q0 q1 q2 q3 q4 q5 q6 q7 q8 q9 q10
        go_wp2
        go_ret2
        rw [HG.out]
        exact ⟨rfl, FsPost.ext HP.out hx4⟩
      | true =>
        go_wp2_with fail
        apply wp_region_mix 11 [_, .bool true, _, _, _, S8 (lineM id), _, .slice s1 fx.data.length t1, S8 fx.data, .bool (!bq), .bool (!bq)] [none, none, none, none, none, none, none, none, none, none, none] [[], [0], [1], [2], [3], [3, 4], [3], [3, 6], [3, 7], [3, 5, 8], [3, 9]] (by kernel_rfl) (by kernel_rfl) (by simp [mixV])
        · trivial
        · simp (maxSteps := 1000000) only [List.take_succ_cons, List.take_zero, oblFrom, stepObl, fillFrom, Act.put, List.setIfInBounds_toArray, List.set_cons_zero, List.set_cons_succ, knows, getV, mixV, List.getD_cons_zero, List.getD_cons_succ, and_true, true_and, forall_const]
          refine ⟨?_, ?_, ?_, ?_, ?_, ?_, ?_, ?_, ?_, ?_, ?_⟩
          · intro xs wq hq R hR
            have f1 := hq.cell c1
            go_simp
            exact hR _ _ (Ext.refl _) rfl
          · intro xs wq hq hk R hR
            go_simp
            exact (valid_any id _ (by omega)).mono (by rw [HVB.out]; rintro e' w5 ⟨rfl, hx5⟩; exact ⟨_, rfl, hR _ _ hx5 rfl⟩)
          · intro xs wq hq hk R hR
            have f1 := hq.cell c1
            go_simp
            exact hR _ _ (Ext.refl _) rfl
          · intro xs wq hq hk R hR
            have f1 := hq.cell c1
            go_simp
            exact hR _ _ (Ext.refl _) rfl
          · intro xs wq hq hk R hR
            have f1 := hq.cell c1
            go_simp
            exact hR _ _ (Ext.refl _) rfl
          · intro xs wq hq hk R hR
            obtain ⟨hk0, hk1⟩ := hk
            go_simp
            exact (line_any id _ hil).mono (by rintro e' w5 ⟨rfl, rfl⟩; exact ⟨_, rfl, hR _ _ (Ext.refl _) rfl⟩)
          · intro xs wq hq hk R hR
            have f1 := hq.cell c1
            go_simp
            exact hR _ _ (Ext.refl _) rfl
          · intro xs wq hq hk R hR
            obtain ⟨hk0, hk1⟩ := hk
            have f1 := hq.cell c1
            go_simp
            exact hR _ _ (Ext.refl _) rfl
          · intro xs wq hq hk R hR
            obtain ⟨hk0, hk1⟩ := hk
            have hcv := conv_bytes (IsBytes.ext HD.out hq)
            go_simp
            exact hR _ _ (Ext.refl _) rfl
          · intro xs wq hq hk R hR
            obtain ⟨hk0, hk1, hk2⟩ := hk
            have hb := HBQ.out
            go_simp
            exact hR _ _ (Ext.refl _) rfl
          · intro xs wq hq hk R hR
            obtain ⟨hk0, hk1⟩ := hk
            have f1 := hq.cell c1
            go_simp
            exact hR _ _ (Ext.refl _) rfl
        intro xs w4 hx4 hk
        simp only [heldV, Nat.zero_add, Nat.reduceAdd, and_true] at hk
        obtain ⟨q0, q1, q2, q3, q4, q5, q6, q7, q8, q9, q10⟩ := hk
        simp (maxSteps := 1000000) only [List.take_succ_cons, List.take_zero, List.drop_succ_cons, List.drop_zero, fillFrom, Act.put, List.setIfInBounds_toArray, List.set_cons_zero, List.set_cons_succ, Nat.zero_add, Nat.reduceAdd, q0, q1, q2, q3, q4, q5, q6, q7, q8, q9, q10]
        clear q0 q1 q2 q3 q4 q5 q6 q7 q8 q9 q10
        cases bq with
        | true =>
          go_wp2
          go_ret2
          rw [HG.out]
          exact ⟨rfl, FsPost.ext HP.out hx4⟩
        | false =>
          go_wp2
          go_ret2
          rw [HG.out]
          exact ⟨rfl, FsPost.ext HP.out hx4⟩
    · have b0 : (er != 0) = true := by simpa using h0
      have he : getE (fx, er) = ([], er) := by
        unfold getE
        rw [if_pos h0]
      have HEE : Hid _ := he
      clear he h0
      go_wp2
      go_ret2
      rw [HEE.out]
      exact ⟨rfl, HP.out⟩

end Go.Proofs.YtfimfbdlegookaaGreatDoor

/-! refs: last, List, Delete, Set. Conditions: as each theorem states. -/
namespace Go.Proofs.YtfimfbdlegookaaGreatDoor
open Go Go.RowKit

theorem str_app (a b : B8) : ((⟨a.toArray⟩ : ByteArray) ++ ⟨b.toArray⟩).data.toList = a ++ b := by rw [ByteArray.data_append]; simp
theorem trimP_any (s d : B8) (w : World) : Calls Tryz.prog 139 #[S8 s, .string (⟨d.toArray⟩ ++ ⟨#[47]⟩)] w fun e w' => e = .returned (S8 (Lib.trimPrefix s (d ++ [47]))) ∧ w' = w := by
  have h := Tryz.strings_TrimPrefix ⟨s.toArray⟩ ((⟨d.toArray⟩ : ByteArray) ++ ⟨([47] : B8).toArray⟩) w
  rw [str_app d [47]] at h
  exact h
theorem last_snoc {ss : List B8} {dir : B8} {k : Nat} {s : B8} (h : ss[k]? = some s) : lastL (ss.take (k + 1)) dir = lastL (ss.take k) dir ++ (if nameB (Lib.trimPrefix s (dir ++ [47])) = true then [Lib.trimPrefix s (dir ++ [47])] else []) := by
  obtain ⟨hlt, rfl⟩ := (List.getElem?_eq_some_iff.1 h)
  unfold lastL
  rw [List.take_succ_eq_append_getElem hlt, List.map_append, List.filter_append]
  by_cases hc : nameB (Lib.trimPrefix ss[k] (dir ++ [47])) = true
  · rw [if_pos hc, List.map_cons, List.map_nil, List.filter_cons_of_pos hc, List.filter_nil]
  · rw [if_neg hc, List.map_cons, List.map_nil, List.filter_cons_of_neg hc, List.filter_nil]
theorem last_len (ss : List B8) (dir : B8) : (lastL ss dir).length ≤ ss.length := by
  unfold lastL
  exact Nat.le_trans (List.length_filter_le _ _) (by simp)
theorem trim_len (s p : B8) : (Lib.trimPrefix s p).length ≤ s.length := by
  unfold Lib.trimPrefix
  split
  · rw [List.length_drop]; omega
  · exact Nat.le_refl _

set_option maxRecDepth 100000 in
set_option maxHeartbeats 2000000 in
theorem last_any {w : World} {v : Value} {ss : List B8} (dir : B8) (hv : IsStrs w v ss) (hs : ∀ s ∈ ss, s.length ≤ 1000000) (hd : dir.length ≤ 1000) (hl : ss.length ≤ 1000000) :
    Calls Tryz.prog 71 #[v, S8 dir] w fun e w' => (∃ v', e = .returned v' ∧ w'.ownsRow w.heap.size 9 1 v' (lastL ss dir).length ((lastL ss dir).map S8)) ∧ Ext w w' := by
  obtain ⟨a, cap, rfl, l1, l2, l3, -⟩ := hv.get
  have HV : Hid _ := hv
  have HS : Hid _ := hs
  clear hv hs
  go_enter Tryz.func71, Tryz.ntmps71
  go_wp2
  go_loopw [5, 11] (fun v i wr => ∃ (k n : Nat), k ≤ ss.length ∧ i = .int .i64 k ∧ Hid ((lastL (ss.take k) dir).length = n) ∧ wr.ownsRow w.heap.size 9 1 v n ((lastL (ss.take k) dir).map S8) ∧ Ext w wr) (fun _ i _ => ss.length - (intOf i).toNat)
  case atStart => exact ⟨0, 0, Nat.zero_le _, rfl, rfl, World.ownsRow_nil _ _ _ _, Ext.refl _⟩
  case round =>
    obtain ⟨k, n, hk, rfl, HN, hown, hx⟩ := hrel
    have hnk : n ≤ ss.length := by rw [← HN.out]; exact Nat.le_trans (last_len _ _) (List.length_take_le' _ _)
    by_cases hlt : k < ss.length
    · obtain ⟨s, hse⟩ : ∃ s, ss[k]? = some s := ⟨_, List.getElem?_eq_getElem hlt⟩
      have hsl := HS.out s (List.mem_of_getElem? hse)
      obtain ⟨_, _, he, -, -, -, hg⟩ := (IsStrs.ext HV.out hx).get
      cases he
      obtain ⟨bb, oo, rfl, hc⟩ := hg k hlt
      have y1 := hc k hlt
      rw [show ss.getD k [] = s by rw [List.getD_eq_getElem?_getD, hse]; rfl] at y1
      obtain ⟨t, ht⟩ : ∃ t, Lib.trimPrefix s (dir ++ [47]) = t := ⟨_, rfl⟩
      have hsn := last_snoc (dir := dir) hse
      have htl := trim_len s (dir ++ [47])
      rw [ht] at hsn htl
      have HSN : Hid _ := hsn
      have HT : Hid _ := ht
      obtain ⟨nb, hnb⟩ : ∃ nb, nameB t = nb := ⟨_, rfl⟩
      have HNB : Hid _ := hnb
      clear hsn ht hnb hse hg hc
      go_wp2_with fail
      go_at_call 139
      refine Calls.mono (trimP_any s dir wr) ?_
      rw [HT.out]
      rintro e w3 ⟨rfl, rfl⟩
      go_wp2_with fail
      go_at_call 17
      refine (name_any t _ (by omega)).mono ?_
      rw [HNB.out]
      rintro e w4 ⟨rfl, rfl⟩
      have hsz := hx.size
      cases nb with
      | true =>
        go_wp2_with (at_builtin; go_must (refine app_str rfl _ _ rfl w.heap.size _ n _ rfl (hown.alloc _) w4.heap.size 1 1 [t] rfl rfl (alloc_at _ _) (by omega) (by simp; omega) ?_; intro v' w3 hown3 hg3))
        go_roundw
        case rel =>
          refine ⟨k + 1, n + 1, by omega, by go_num, ?_, ?_, owns_ext_app (hx.alloc _) (hown.alloc _) hg3⟩
          · unfold Hid; rw [HSN.out, HNB.out, if_pos rfl, List.length_append, HN.out]; rfl
          · rw [HSN.out, HNB.out, if_pos rfl]; exact hown3
        case measure => simp [intOf]; omega
      | false =>
        go_wp2
        go_roundw
        case rel => exact ⟨k + 1, n, by omega, by go_num, by unfold Hid; rw [HSN.out, HNB.out, if_neg (by simp), List.append_nil]; exact HN.out, by rw [HSN.out, HNB.out, if_neg (by simp), List.append_nil]; exact hown, hx⟩
        case measure => simp [intOf]; omega
    · have hkk : k = ss.length := by omega
      subst hkk
      have hn := HN.out
      rw [List.take_length] at hown hn
      subst hn
      have HR : Hid _ := hown
      clear hown
      go_wp2
      go_ret
      exact ⟨⟨_, rfl, HR.out⟩, hx⟩

theorem list_short {m : Fs} {dir : B8} (h : OkM m) (hp : PlanOk m) : ∀ s ∈ (listM m dir).2.1, s.length ≤ 200 := by
  have hok := (call_left h hp).1.ok
  have hall : ∀ s ∈ pathsL (callM m).1.now, s.length ≤ 200 := fun s hs => by
    obtain ⟨e, he, rfl⟩ := List.mem_map.1 hs
    exact path_short (hok.dnow e he).1
  unfold listM
  intro s hs
  split at hs
  · cases hs
  · split at hs
    · exact hall s hs
    · split at hs
      · cases hs
      · exact hall s (List.mem_filter.1 hs).1
theorem list_len {m : Fs} {dir : B8} (h : OkM m) (hp : PlanOk m) (ht : m.time ≤ 700000) : (listM m dir).2.1.length ≤ 701000 := by
  have hl := (call_left h hp).1
  have hn := hl.ok.lnow
  have ht2 := hl.time
  have hall : (pathsL (callM m).1.now).length ≤ 701000 := by unfold pathsL; rw [List.length_map]; omega
  unfold listM
  split
  · exact Nat.zero_le _
  · split
    · exact hall
    · split
      · exact Nat.zero_le _
      · exact Nat.le_trans (List.length_filter_le _ _) hall

set_option maxRecDepth 100000 in
set_option maxHeartbeats 2000000 in
theorem refs_any {S O R : Nat → Prop} {w : World} {p : Value} {m : Fs} (h : FsIn S O R w p m) :
    Calls Tryz.prog 22 #[p] w fun e w' => (∃ v, e = .returned (.tuple #[v, .int .i64 (refsM m).2.2]) ∧ IsStrs w' v (refsM m).2.1) ∧ FsPost S O R w p (refsM m).1 w' := by
  have HS : Hid _ := list_short (dir := placeD) h.ok h.plan
  have HL : Hid _ := list_len (dir := placeD) h.ok h.plan h.time
  have HR : Hid _ := list_any placeD h (by decide)
  unfold refsM
  obtain ⟨⟨m1, ls, er⟩, hrd⟩ : ∃ q, listM m placeD = q := ⟨_, rfl⟩
  rw [hrd] at HR HS HL ⊢
  clear hrd h
  go_enter Tryz.func22, Tryz.ntmps22
  go_wp2_with fail
  go_at_call 70
  refine Calls.mono HR.out ?_
  rintro e w1 ⟨⟨v, rfl, hv, -⟩, hp1⟩
  have hls : ls.length ≤ 701000 := HL.out
  have hv' : IsStrs w1 v ls := hv
  have HV : Hid _ := hv'
  have HP : Hid _ := hp1
  clear hv hv' hp1 HR
  go_wp2_with fail
  go_at_call 71
  refine (last_any placeD HV.out (fun s hs => Nat.le_trans (HS.out s hs) (by omega)) (by decide) (by omega)).mono ?_
  rintro e w2 ⟨⟨v2, rfl, ho⟩, hx2⟩
  have hll := last_len ls placeD
  have HO : Hid (IsStrs w2 v2 (lastL ls placeD)) := Row.of_owns ho (by omega)
  clear ho
  go_wp2
  go_ret2
  exact ⟨⟨_, rfl, HO.out⟩, FsPost.ext HP.out hx2⟩

theorem env_lt' {w0 : World} (hE : Env w0) : 2 < w0.heap.size := by
  obtain ⟨m, hm⟩ := hE.maxl
  exact World.block_lt_of_cell? _ _ hm
theorem FsPost.fin {S O R : Nat → Prop} {w w' : World} {p : Value} {m m' : Fs} (h : FsIn S O R w p m) (hp : FsPost S O R w p m' w') {n : Nat} (hg : Good n m') (hn : n ≤ 1000) : FsIn S (Nw O w w') (Nw R w w') w' p m' := by
  have hs := hp.fr.size
  exact ⟨h.env.fr hp.fr h.noG, hp.fs, hg.ok, hg.plan, by have := hg.time; omega, by have := hg.calls; omega,
    fun k hk e => by
      rcases hk with hk | hk
      · exact h.noG k hk e
      · have := env_lt' h.env; omega,
    fun k hk => ⟨fun ho => by
      rcases ho with ho | ho
      · exact (h.apart k hk).1 ho
      · have := (h.apart k hk).2; omega, by have := (h.apart k hk).2; omega⟩,
    fun k hk => by
      rcases hk with hk | hk
      · have := h.low k hk; omega
      · exact hk.2, hg.room0, hg.room1⟩

end Go.Proofs.YtfimfbdlegookaaGreatDoor

/-! refs: Delete, Set, Unlock. Conditions: as each theorem states. -/
namespace Go.Proofs.YtfimfbdlegookaaGreatDoor
open Go Go.RowKit

/-- A file system behind some calls of a walk that began in w. -/
structure At (S O R : Nat → Prop) (w : World) (p : Value) (m : Fs) (n : Nat) (w1 : World) : Prop where
  first : ∃ m0, FsIn S O R w p m0
  fin : FsIn S (Nw O w w1) (Nw R w w1) w1 p m
  post : FsPost S O R w p m w1
  good : Good n m
theorem At.start {S O R : Nat → Prop} {w : World} {p : Value} {m : Fs} {n : Nat} (h : FsIn S O R w p m) (hg : Good n m) (hn : n ≤ 1000) : At S O R w p m n w :=
  ⟨⟨_, h⟩, FsPost.fin h (FsPost.same h.fs (Ext.refl _)) hg hn, FsPost.same h.fs (Ext.refl _), hg⟩
theorem At.next {S O R : Nat → Prop} {w w1 w2 : World} {p : Value} {m m' : Fs} {n n' : Nat} (h : At S O R w p m n w1) (hp : FsPost S (Nw O w w1) (Nw R w w1) w1 p m' w2) (hg : Good n' m') (hn : n' ≤ 1000) : At S O R w p m' n' w2 := by
  obtain ⟨m0, h0⟩ := h.first
  exact ⟨⟨m0, h0⟩, FsPost.fin h0 (h.post.trans hp) hg hn, h.post.trans hp, hg⟩
theorem At.more {S O R : Nat → Prop} {w w1 w2 : World} {p : Value} {m : Fs} {n : Nat} (h : At S O R w p m n w1) (hx : Ext w1 w2) (hn : n ≤ 1000) : At S O R w p m n w2 := h.next (FsPost.same h.fin.fs hx) h.good hn

theorem lock_len {name : B8} (h : nameB name = true) : (lockP name).length ≤ 400 ∧ (placeP name).length ≤ 400 ∧ name.length ≤ 64 := by
  have hnl : name.length ≤ 64 := by
    unfold nameB at h
    simp only [Bool.and_eq_true, decide_eq_true_eq] at h
    exact h.2.2.1
  unfold lockP placeP
  simp
  omega

set_option maxRecDepth 100000 in
set_option maxHeartbeats 4000000 in
theorem delete_any {S O R : Nat → Prop} {w : World} {p : Value} {m : Fs} {n : Nat} (name old : B8) (h : FsIn S O R w p m) (hg : Good n m) (hn : n ≤ 990) (hnl : name.length ≤ 1000000) (hol : old.length ≤ 1000000) :
    Calls Tryz.prog 21 #[p, S8 name, S8 old] w fun e w' => e = .returned (.int .i64 (deleteM m name old).2) ∧ FsPost S O R w p (deleteM m name old).1 w' := by
  have HA0 : Hid _ := At.start h hg (by omega)
  clear h hg
  obtain ⟨nb, hnb⟩ : ∃ nb, nameB name = nb := ⟨_, rfl⟩
  have HNB : Hid _ := hnb
  clear hnb
  go_enter Tryz.func21, Tryz.ntmps21
  go_wp2_with fail
  go_at_call 17
  refine (name_any name _ (by omega)).mono ?_
  rw [HNB.out]
  rintro e w1 ⟨rfl, rfl⟩
  cases nb with
  | false =>
    have HM : Hid (deleteM m name old = (m, 6)) := by unfold Hid deleteM; rw [HNB.out]; rfl
    go_wp2
    go_ret
    rw [HM.out]
    exact ⟨rfl, HA0.out.post⟩
  | true =>
    have hlen := lock_len HNB.out
    obtain ⟨vb, hvb⟩ : ∃ vb, validB old = vb := ⟨_, rfl⟩
    have HVB : Hid _ := hvb
    clear hvb
    go_wp2_with fail
    go_at_call 14
    refine (valid_any old _ (by omega)).mono ?_
    rw [HVB.out]
    rintro e w2 ⟨rfl, hx2⟩
    have HA2 : Hid _ := At.more HA0.out hx2 (by omega)
    clear hx2
    cases vb with
    | false =>
      have HM : Hid (deleteM m name old = (m, 1)) := by unfold Hid deleteM; rw [HNB.out, if_neg (by simp), HVB.out]; rfl
      go_wp2
      go_ret
      rw [HM.out]
      exact ⟨rfl, HA2.out.post⟩
    | true =>
      have HM : Hid (deleteM m name old = if (readM m (placeP name)).2.2 ≠ 0 then ((readM m (placeP name)).1, (readM m (placeP name)).2.2)
          else if (readM m (placeP name)).2.1.data ≠ lineM old then ((readM m (placeP name)).1, 13)
          else if (removeM (readM m (placeP name)).1 (placeP name)).2 ≠ 0 then removeM (readM m (placeP name)).1 (placeP name)
          else syncM (removeM (readM m (placeP name)).1 (placeP name)).1) := by unfold Hid deleteM; rw [HNB.out, if_neg (by simp), HVB.out, if_neg (by simp)]
      have HR : Hid _ := read_any (placeP name) HA2.out.fin hlen.2.1
      have HG1 : Hid _ := good_read HA2.out.good (placeP name)
      obtain ⟨⟨m1, fx, er⟩, hrd⟩ : ∃ q, readM m (placeP name) = q := ⟨_, rfl⟩
      rw [hrd] at HR HM HG1
      clear hrd
      go_wp2_with fail
      go_at_call 65
      refine (place_any name _ (by omega)).mono ?_
      rintro e w0 ⟨rfl, rfl⟩
      go_wp2_with fail
      go_at_call 68
      refine Calls.mono HR.out ?_
      rintro e w3 ⟨⟨v, rfl, hd⟩, hp3⟩
      try dsimp only at hd hp3
      obtain ⟨s1, t1, rfl, -⟩ := id hd.bytes
      try dsimp only
      go_upto_region 6 with fail
      obtain ⟨w4, hw4⟩ : ∃ wq, wq = w3.alloc (.cells #[.int .i64 fx.mode, .slice s1 fx.data.length t1, .int .i64 fx.time] 76) := ⟨_, rfl⟩
      rw [← hw4]
      have hx4 : Ext w3 w4 := by rw [hw4]; exact (Ext.refl _).alloc _
      have hb4 : w4.heap[w3.heap.size]? = some (.cells #[.int .i64 fx.mode, .slice s1 fx.data.length t1, .int .i64 fx.time] 76 (0, 0)) := by rw [hw4]; exact alloc_at _ _
      have HA4 : Hid _ := At.more (At.next HA2.out hp3 HG1.out (by omega)) hx4 (by omega)
      have HD : Hid (IsBytes w4 (.slice s1 fx.data.length t1) fx.data) := (IsData.ext hd hx4).bytes
      obtain ⟨c0, c1, c2⟩ := cellsAt3 hb4
      clear hw4 hb4 hd hp3 HR hx4
      by_cases h0 : er = 0
      case neg =>
        have b0 : (er != 0) = true := by simpa using h0
        have HM2 : Hid (deleteM m name old = (m1, er)) := by unfold Hid; rw [HM.out]; exact if_pos h0
        clear h0
        go_wp2
        go_ret
        rw [HM2.out]
        exact ⟨rfl, HA4.out.post⟩
      subst h0
      obtain ⟨bq, hbq⟩ : ∃ bq, (fx.data == lineM old) = bq := ⟨_, rfl⟩
      have HBQ : Hid _ := hbq
      clear hbq
      go_wp2_with fail
      apply wp_region_mix 6 [_, .slice s1 fx.data.length t1, S8 fx.data, _, S8 (lineM old), .bool (!bq)] [none, none, none, none, none, none] [[], [0], [1], [], [3], [2, 4]] (by kernel_rfl) (by kernel_rfl) (by simp [mixV])
      · trivial
      · simp (maxSteps := 1000000) only [List.take_succ_cons, List.take_zero, oblFrom, stepObl, fillFrom, Act.put, List.setIfInBounds_toArray, List.set_cons_zero, List.set_cons_succ, knows, getV, mixV, List.getD_cons_zero, List.getD_cons_succ, and_true, true_and, forall_const]
        refine ⟨?_, ?_, ?_, ?_, ?_, ?_⟩
        · intro xs wq hq R hR
          have f1 := hq.cell c1
          go_simp
          exact hR _ _ (Ext.refl _) rfl
        · intro xs wq hq hk R hR
          have f1 := hq.cell c1
          go_simp
          exact hR _ _ (Ext.refl _) rfl
        · intro xs wq hq hk R hR
          have hcv := conv_bytes (IsBytes.ext HD.out hq)
          go_simp
          exact hR _ _ (Ext.refl _) rfl
        · intro xs wq hq R hR
          have f1 := hq.cell c1
          go_simp
          exact hR _ _ (Ext.refl _) rfl
        · intro xs wq hq hk R hR
          go_simp
          exact (line_any old _ hol).mono (by rintro e' w4 ⟨rfl, rfl⟩; exact ⟨_, rfl, hR _ _ (Ext.refl _) rfl⟩)
        · intro xs wq hq hk R hR
          obtain ⟨hk0, hk1⟩ := hk
          have hb := HBQ.out
          go_simp
          exact hR _ _ (Ext.refl _) rfl
      intro xs w5 hx5 hk
      simp only [heldV, Nat.zero_add, Nat.reduceAdd, and_true] at hk
      obtain ⟨q0, q1, q2, q3, q4, q5⟩ := hk
      simp (maxSteps := 1000000) only [List.take_succ_cons, List.take_zero, List.drop_succ_cons, List.drop_zero, fillFrom, Act.put, List.setIfInBounds_toArray, List.set_cons_zero, List.set_cons_succ, Nat.zero_add, Nat.reduceAdd, q0, q1, q2, q3, q4, q5]
      clear q0 q1 q2 q3 q4 q5
      have HA5 : Hid _ := At.more HA4.out hx5 (by omega)
      clear hx5 c0 c1 c2
      cases bq with
      | false =>
        have HM2 : Hid (deleteM m name old = (m1, 13)) := by
          have hne : fx.data ≠ lineM old := by have := HBQ.out; simpa using this
          unfold Hid; rw [HM.out]
          try dsimp only
          rw [if_neg (by simp), if_pos hne]
        go_wp2
        go_ret
        rw [HM2.out]
        exact ⟨rfl, HA5.out.post⟩
      | true =>
        have HM2 : Hid (deleteM m name old = if (removeM m1 (placeP name)).2 ≠ 0 then removeM m1 (placeP name) else syncM (removeM m1 (placeP name)).1) := by
          have hne : fx.data = lineM old := by have := HBQ.out; simpa using this
          unfold Hid; rw [HM.out]
          try dsimp only
          rw [if_neg (by simp), if_neg (by simpa using hne)]
        have HR : Hid _ := remove_any (placeP name) HA5.out.fin hlen.2.1
        have HG2 : Hid _ := good_remove HA5.out.good (placeP name)
        obtain ⟨⟨m2, e2⟩, hrd⟩ : ∃ q, removeM m1 (placeP name) = q := ⟨_, rfl⟩
        rw [hrd] at HR HM2 HG2
        clear hrd
        go_wp2_with fail
        go_at_call 65
        refine (place_any name _ (by omega)).mono ?_
        rintro e w0 ⟨rfl, rfl⟩
        go_wp2_with fail
        go_at_call 63
        refine Calls.mono HR.out ?_
        rintro e w6 ⟨rfl, h6⟩
        have HA6 : Hid _ := At.next HA5.out h6 HG2.out (by omega)
        clear h6 HR
        try dsimp only
        by_cases h0 : e2 = 0
        case neg =>
          have b0 : (e2 != 0) = true := by simpa using h0
          have HM3 : Hid (deleteM m name old = (m2, e2)) := by unfold Hid; rw [HM2.out]; exact if_pos h0
          clear h0
          go_wp2
          go_ret
          rw [HM3.out]
          exact ⟨rfl, HA6.out.post⟩
        subst h0
        have HM3 : Hid (deleteM m name old = syncM m2) := by unfold Hid; rw [HM2.out]; exact if_neg (by simp)
        have HG3 : Hid _ := good_sync HA6.out.good
        go_wp2_with fail
        go_at_call 62
        refine (sync_any HA6.out.fin).mono ?_
        rintro e w7 ⟨rfl, h7⟩
        have HA7 : Hid _ := At.next HA6.out h7 HG3.out (by omega)
        clear h7
        go_wp2
        go_ret
        rw [HM3.out]
        exact ⟨rfl, HA7.out.post⟩

end Go.Proofs.YtfimfbdlegookaaGreatDoor

/-! refs.Set. Conditions: as each theorem states. -/
namespace Go.Proofs.YtfimfbdlegookaaGreatDoor
open Go Go.RowKit

theorem typ_out {Q : Nat → Prop} {w : World} {b : Value} (ht : TypB w b) : Out Q w b := fun a n c he _ => .inr (ht a n c he)

set_option maxRecDepth 100000 in
set_option maxHeartbeats 8000000 in
theorem set_any {S O R : Nat → Prop} {w : World} {p : Value} {m : Fs} {n : Nat} (name old next : B8) (h : FsIn S O R w p m) (hg : Good n m) (hn : n ≤ 990) (hnl : name.length ≤ 1000000) (hol : old.length ≤ 1000000) (hxl : next.length ≤ 1000000) :
    Calls Tryz.prog 15 #[p, S8 name, S8 old, S8 next] w fun e w' => e = .returned (.int .i64 (setM m name old next).2) ∧ FsPost S O R w p (setM m name old next).1 w' := by
  have HA0 : Hid _ := At.start h hg (by omega)
  clear h hg
  obtain ⟨nb, hnb⟩ : ∃ nb, nameB name = nb := ⟨_, rfl⟩
  have HNB : Hid _ := hnb
  clear hnb
  go_enter Tryz.func15, Tryz.ntmps15
  go_wp2_with fail
  go_at_call 17
  refine (name_any name _ (by omega)).mono ?_
  rw [HNB.out]
  rintro e w1 ⟨rfl, rfl⟩
  cases nb with
  | false =>
    have HM : Hid (setM m name old next = (m, 6)) := by unfold Hid setM; rw [HNB.out]; rfl
    go_wp2
    go_ret
    rw [HM.out]
    exact ⟨rfl, HA0.out.post⟩
  | true =>
    have hlen := lock_len HNB.out
    obtain ⟨vb, hvb⟩ : ∃ vb, validB next = vb := ⟨_, rfl⟩
    have HVB : Hid _ := hvb
    clear hvb
    go_wp2_with fail
    go_at_call 14
    refine (valid_any next _ (by omega)).mono ?_
    rw [HVB.out]
    rintro e w2 ⟨rfl, hx2⟩
    have HA2 : Hid _ := At.more HA0.out hx2 (by omega)
    clear hx2
    cases vb with
    | false =>
      have HM : Hid (setM m name old next = (m, 1)) := by unfold Hid setM; rw [HNB.out, if_neg (by simp), if_pos (.inl HVB.out)]
      go_wp2
      go_ret
      rw [HM.out]
      exact ⟨rfl, HA2.out.post⟩
    | true =>
      obtain ⟨vo, hvo⟩ : ∃ vo, validB old = vo := ⟨_, rfl⟩
      have HVO : Hid _ := hvo
      clear hvo
      by_cases hbad : (old == ([] : B8)) = false ∧ vo = false
      case pos =>
        obtain ⟨hob, rfl⟩ := hbad
        have hob2 : (old != ([] : B8)) = true := by unfold bne; rw [hob]; rfl
        have HM : Hid (setM m name old next = (m, 1)) := by
          have hne : old ≠ [] := by simpa using hob
          unfold Hid setM; rw [HNB.out, if_neg (by simp), if_pos (.inr ⟨hne, HVO.out⟩)]
        go_wp2_with fail
        go_at_call 14
        refine (valid_any old _ (by omega)).mono ?_
        rw [HVO.out]
        rintro e w3 ⟨rfl, hx3⟩
        go_wp2
        go_ret
        rw [HM.out]
        exact ⟨rfl, FsPost.ext HA2.out.post hx3⟩
      have HM : Hid (setM m name old next = if (createM m (lockP name) 1 (lineM next)).2 ≠ 0 then ((createM m (lockP name) 1 (lineM next)).1, if (createM m (lockP name) 1 (lineM next)).2 = 8 then 13 else (createM m (lockP name) 1 (lineM next)).2)
          else setMid (expectM (createM m (lockP name) 1 (lineM next)).1 name old) name) := by
        unfold Hid setM
        rw [HNB.out, if_neg (by simp), if_neg ?_]
        rintro (h | ⟨h1, h2⟩)
        · rw [HVB.out] at h; cases h
        · exact hbad ⟨by simpa using h1, HVO.out.symm.trans h2⟩
      have HCR : Hid (∀ w3 w4 v4, Ext w2 w3 → Ext w3 w4 → IsBytes w4 v4 (lineM next) → TypB w4 v4 → Calls Tryz.prog 59 #[p, S8 (lockP name), .int .i64 1, v4] w4 fun e w' => e = .returned (.int .i64 (createM m (lockP name) 1 (lineM next)).2) ∧ At S O R w1 p (createM m (lockP name) 1 (lineM next)).1 (n + 1) w') := fun w3 w4 v4 hx3 hx4 hb ht =>
        (create_any (lockP name) 1 v4 (lineM next) (At.more (At.more HA2.out hx3 (by omega)) hx4 (by omega)).fin hlen.1 hb (typ_out ht)).mono (fun e w' ⟨he, hp⟩ => ⟨he, At.next (n' := n + 1) (At.more (At.more HA2.out hx3 (by omega)) hx4 (by omega)) hp (good_create HA2.out.good _ _ _) (by omega)⟩)
      obtain ⟨⟨m1, e1⟩, hrd⟩ : ∃ q, createM m (lockP name) 1 (lineM next) = q := ⟨_, rfl⟩
      rw [hrd] at HM HCR
      clear hrd
      have hll : (lineM next).length ≤ 1000000 := by
        have := (valid_len HVB.out).1
        unfold lineM
        rw [List.length_append, this]
        decide
      obtain ⟨ob, hob⟩ : ∃ ob, (old == ([] : B8)) = ob := ⟨_, rfl⟩
      have hob2 : (old != ([] : B8)) = !ob := by unfold bne; rw [hob]
      rw [hob] at hbad
      have go_no : True := trivial
      cases ob
      case' false =>
        have hvt : vo = true := by
          cases vo with
          | true => rfl
          | false => exact (hbad ⟨rfl, rfl⟩).elim
        subst hvt
        go_wp2_with fail
        go_at_call 14
        refine (valid_any old _ (by omega)).mono ?_
        rw [HVO.out]
        rintro e w3 ⟨rfl, hx3⟩
        have HX3 : Hid _ := hx3
        clear hx3
        go_wp2_with fail
      case' true =>
        obtain ⟨w3, hw3⟩ : ∃ w3, w3 = w2 := ⟨_, rfl⟩
        have HX3 : Hid (Ext w2 w3) := by rw [hw3]; exact Ext.refl _
        go_wp2_with fail
        rw [← hw3]
        clear hw3
      all_goals
        go_at_call 60
        refine (line_any next _ hxl).mono ?_
        rintro e w3b ⟨rfl, rfl⟩
        obtain ⟨v4, w4, hcv, hx4, hb4, ht4, s4, t4, rfl⟩ := str_bytes w3b (lineM next) hll
        have HX4 : Hid _ := hx4
        have HB4 : Hid _ := hb4
        have HT4 : Hid _ := ht4
        clear hx4 hb4 ht4 hbad hob hob2
        go_wp2_with fail
        clear hcv
        go_at_call 59
        refine Calls.mono (HCR.out _ _ _ HX3.out HX4.out HB4.out HT4.out) ?_
        rintro e w5 ⟨rfl, h5⟩
        have HA5 : Hid _ := h5
        clear h5
        try dsimp only
        by_cases h0 : e1 = 0
        case neg =>
          have b0 : (e1 != 0) = true := by simpa using h0
          by_cases h8 : e1 = 8
          · subst h8
            have HM2 : Hid (setM m name old next = (m1, 13)) := by unfold Hid; rw [HM.out]; rfl
            clear h0 b0
            go_wp2
            go_ret
            rw [HM2.out]
            exact ⟨rfl, HA5.out.post⟩
          · have b8 : (e1 == 8) = false := by simpa using h8
            have HM2 : Hid (setM m name old next = (m1, e1)) := by unfold Hid; rw [HM.out, if_pos h0, if_neg h8]
            clear h0 h8
            go_wp2
            go_ret
            rw [HM2.out]
            exact ⟨rfl, HA5.out.post⟩
        subst h0
        have HM2 : Hid (setM m name old next = setMid (expectM m1 name old) name) := by unfold Hid; rw [HM.out]; exact if_neg (by simp)
        have HEX : Hid _ := expected_any name old HA5.out.fin (by omega) hol
        have HG6 : Hid (Good (n + 2) (expectM m1 name old).1) := good_read HA5.out.good _
        obtain ⟨⟨m2, e2⟩, hrd⟩ : ∃ q, expectM m1 name old = q := ⟨_, rfl⟩
        rw [hrd] at HEX HM2 HG6
        clear hrd HM HCR
        go_wp2_with fail
        go_at_call 61
        refine Calls.mono HEX.out ?_
        rintro e w6 ⟨rfl, h6⟩
        have HA6 : Hid _ := At.next HA5.out h6 HG6.out (by omega)
        clear h6 HEX
        try dsimp only
        by_cases h0 : e2 = 0
        case neg =>
          have b0 : (e2 == 0) = false := by simpa using h0
          have b1 : (e2 != 0) = true := by simpa using h0
          have HM3 : Hid (setM m name old next = ((removeM m2 (lockP name)).1, e2)) := by
            unfold Hid; rw [HM2.out]; unfold setMid; simp only [if_neg h0]; exact if_pos h0
          have HG7 : Hid _ := good_remove HA6.out.good (lockP name)
          clear h0
          go_wp2_with fail
          go_at_call 63
          refine (remove_any (lockP name) HA6.out.fin hlen.1).mono ?_
          rintro e w7 ⟨rfl, h7⟩
          have HA7 : Hid _ := At.next HA6.out h7 HG7.out (by omega)
          clear h7
          go_wp2
          go_ret
          rw [HM3.out]
          exact ⟨rfl, HA7.out.post⟩
        subst h0
        have HG7 : Hid _ := good_sync HA6.out.good
        have HSY : Hid _ := sync_any HA6.out.fin
        have HM3 : Hid (setM m name old next = if (syncM m2).2 ≠ 0 then ((removeM (syncM m2).1 (lockP name)).1, (syncM m2).2) else setEnd (syncM m2).1 name) := by
          unfold Hid; rw [HM2.out]; unfold setMid; simp only [if_true]
        obtain ⟨⟨m3, e3⟩, hrd⟩ : ∃ q, syncM m2 = q := ⟨_, rfl⟩
        rw [hrd] at HSY HM3 HG7
        clear hrd HM2
        go_wp2_with fail
        go_at_call 62
        refine Calls.mono HSY.out ?_
        rintro e w7 ⟨rfl, h7⟩
        have HA7 : Hid _ := At.next HA6.out h7 HG7.out (by omega)
        clear h7 HSY
        try dsimp only
        by_cases h0 : e3 = 0
        case neg =>
          have b1 : (e3 != 0) = true := by simpa using h0
          have HM4 : Hid (setM m name old next = ((removeM m3 (lockP name)).1, e3)) := by
            unfold Hid; rw [HM3.out]; exact if_pos h0
          have HG8 : Hid _ := good_remove HA7.out.good (lockP name)
          clear h0
          go_wp2_with fail
          go_at_call 63
          refine (remove_any (lockP name) HA7.out.fin hlen.1).mono ?_
          rintro e w8 ⟨rfl, h8⟩
          have HA8 : Hid _ := At.next HA7.out h8 HG8.out (by omega)
          clear h8
          go_wp2
          go_ret
          rw [HM4.out]
          exact ⟨rfl, HA8.out.post⟩
        subst h0
        have HG8 : Hid _ := good_move HA7.out.good (lockP name) (placeP name) false
        have HMV : Hid _ := move_any (lockP name) (placeP name) HA7.out.fin hlen.1 hlen.2.1
        have HM4 : Hid (setM m name old next = if (moveM m3 (lockP name) (placeP name) false).2 ≠ 0 then moveM m3 (lockP name) (placeP name) false else syncM (moveM m3 (lockP name) (placeP name) false).1) := by
          unfold Hid; rw [HM3.out]; rfl
        obtain ⟨⟨m4, e4⟩, hrd⟩ : ∃ q, moveM m3 (lockP name) (placeP name) false = q := ⟨_, rfl⟩
        rw [hrd] at HMV HM4 HG8
        clear hrd HM3
        go_wp2_with fail
        go_at_call 65
        refine (place_any name _ (by omega)).mono ?_
        rintro e w7b ⟨rfl, rfl⟩
        go_wp2_with fail
        go_at_call 64
        refine Calls.mono HMV.out ?_
        rintro e w8 ⟨rfl, h8⟩
        have HA8 : Hid _ := At.next HA7.out h8 HG8.out (by omega)
        clear h8 HMV
        try dsimp only
        by_cases h0 : e4 = 0
        case neg =>
          have b1 : (e4 != 0) = true := by simpa using h0
          have HM5 : Hid (setM m name old next = (m4, e4)) := by unfold Hid; rw [HM4.out]; exact if_pos h0
          clear h0
          go_wp2
          go_ret
          rw [HM5.out]
          exact ⟨rfl, HA8.out.post⟩
        subst h0
        have HM5 : Hid (setM m name old next = syncM m4) := by unfold Hid; rw [HM4.out]; exact if_neg (by simp)
        have HG9 : Hid _ := good_sync HA8.out.good
        go_wp2_with fail
        go_at_call 62
        refine (sync_any HA8.out.fin).mono ?_
        rintro e w9 ⟨rfl, h9⟩
        have HA9 : Hid _ := At.next HA8.out h9 HG9.out (by omega)
        clear h9
        go_wp2
        go_ret
        rw [HM5.out]
        exact ⟨rfl, HA9.out.post⟩

end Go.Proofs.YtfimfbdlegookaaGreatDoor
