/- refs: Delete, Set, Unlock. Conditions: as each theorem states. -/
import Derived.Test.YtfimfbdlegookaaGreatDoorZae
import Derived.Defers
import Derived.Laws.Pointers
import Derived.Laws.LoneSync
import Derived.RegionCalls
import Derived.ChangeAlike
import Derived.Laws.NewBlocks
import Derived.Test.YtfimfbdlegookaaGreatDoorZad
import Derived.Test.YtfimfbdlegookaaGreatDoorZab
import Derived.Test.YtfimfbdlegookaaGreatDoorZaa
import Derived.Lib.ConvBytes

set_option linter.unusedVariables false
set_option linter.unusedSimpArgs false

/-! sync.Once in a block of its own; sha.New. Conditions: one goroutine. -/
namespace Go.Proofs.YtfimfbdlegookaaGreatDoor
open Go Go.RowKit
set_option linter.unusedVariables false
set_option linter.unusedSimpArgs false
set_option linter.unusedSectionVars false

theorem disable_any (w : World) : (callFunc 276 #[]).run Tryz.prog w = .ok (.value (.tuple #[])) w := run_call_mark0 Tryz.func276 (by kernel_rfl) (by kernel_rfl) (by kernel_rfl) .disable (by kernel_rfl) w
theorem enable_any (w : World) : (callFunc 278 #[]).run Tryz.prog w = .ok (.value (.tuple #[])) w := run_call_mark0 Tryz.func278 (by kernel_rfl) (by kernel_rfl) (by kernel_rfl) .enable (by kernel_rfl) w
theorem acquire_any (a : Addr) (w : World) : (callFunc 279 #[.pointer (some a)]).run Tryz.prog w = .ok (.value (.tuple #[])) w := run_call_marked Tryz.func279 (by kernel_rfl) (by kernel_rfl) (by kernel_rfl) .acquire (by kernel_rfl) a w
theorem release_any (a : Addr) (w : World) : (callFunc 281 #[.pointer (some a)]).run Tryz.prog w = .ok (.value (.tuple #[])) w := run_call_marked Tryz.func281 (by kernel_rfl) (by kernel_rfl) (by kernel_rfl) .releaseMerge (by kernel_rfl) a w

theorem storeB_deferred (a : Addr) (x : Value) (u : FrameMode) (w : World) (hc : w.cell? a = some x) (hz : w.frozen? a = false) :
    CallsD Tryz.prog 231 #[.pointer (some a), .bool true] u w fun e u' w' => u' = u ∧ (e = .returned (.tuple #[]) ∧ w' = w.drew.setCell a (.int .u32 1)) := by
  have hc' : w.drew.cell? a = some x := by go_simp
  have hz' : w.drew.frozen? a = false := by go_simp
  have hst := run_call_store (P := Tryz.prog) Tryz.func265 (by kernel_rfl) (by kernel_rfl) (by kernel_rfl) (by kernel_rfl) (k := .u32) (y := 1) hc' hz'
  go_enter_d Tryz.func231, Tryz.ntmps231
  go_wp2
  go_region_calls
  all_goals (go_end0; exact ⟨rfl, rfl⟩)

set_option maxRecDepth 100000 in
set_option maxHeartbeats 1000000 in
theorem unlock_deferred (a : Addr) (u : FrameMode) (w : World) (hc : w.cell? a = some (.int .i32 1)) (hz : w.frozen? a = false) :
    CallsD Tryz.prog 230 #[.pointer (some a)] u w fun e u' w' => u' = u ∧ (e = .returned (.tuple #[]) ∧ w' = w.setCell a (.int .i32 0)) := by
  have hd := disable_any
  have he := enable_any
  have hr := release_any
  have hadd := run_call_add (P := Tryz.prog) Tryz.func282 (by kernel_rfl) (by kernel_rfl) (by kernel_rfl) .i32 (by kernel_rfl) (y := -1) (s := 0) hc hz (by simp [go_sem]; rfl)
  have hcv := run_convert_to_unsafe (P := Tryz.prog) (src := 298) (dst := 302) Tryz.underlying298 Tryz.underlying302 (by kernel_rfl) hc
  go_enter_d Tryz.func230, Tryz.ntmps230
  go_wp2
  go_end0
  go_wp2
  go_end0
  exact ⟨rfl, rfl⟩

set_option maxRecDepth 100000 in
set_option maxHeartbeats 1000000 in
theorem lock_free (a : Addr) (w : World) (hc : w.cell? a = some (.int .i32 0)) (hz : w.frozen? a = false) :
    Calls Tryz.prog 229 #[.pointer (some a)] w fun e w' => e = .returned (.tuple #[]) ∧ w' = w.setCell a (.int .i32 1) := by
  have hd := disable_any
  have he := enable_any
  have ha := acquire_any
  have hcas := run_call_cas_hit (P := Tryz.prog) Tryz.func277 (by kernel_rfl) (by kernel_rfl) (by kernel_rfl) .i32 (by kernel_rfl) (y := 1) hc hz
  have hc' : (w.setCell a (.int .i32 1)).cell? a = some (.int .i32 1) := World.cell?_setCell_same w a _ hc
  have hcv := run_convert_to_unsafe (P := Tryz.prog) (src := 298) (dst := 302) Tryz.underlying298 Tryz.underlying302 (by kernel_rfl) hc'
  go_enter Tryz.func229, Tryz.ntmps229
  go_wp2
  first | go_end0 | (simp only [Exit.inBlock, Exit.then]; refine bodyPost_ret (results_none rfl _ _ _) rfl ?_) | refine bodyPost_ret (results_none rfl _ _ _) rfl ?_
  go_wp2
  go_end0
  exact ⟨rfl, rfl⟩

/-- The roots of the primes stand where the program laid them. -/
structure EnvS (w : World) : Prop where
  sq : ∃ fr, w.heap[0]? = some (.cells (shaH.map U32).toArray 243 fr)
  cu : ∃ fr, w.heap[1]? = some (.cells (shaK.map U32).toArray 244 fr)
theorem EnvS.fr {O : Nat → Prop} {w w' : World} (h : EnvS w) (hf : Fr O w w') (ho : ∀ k, O k → 2 ≤ k) : EnvS w' := by
  obtain ⟨f0, h0⟩ := h.sq
  obtain ⟨f1, h1⟩ := h.cu
  exact ⟨⟨f0, hf.row h0 (fun hh => by have := ho _ hh; revert this; decide)⟩, ⟨f1, hf.row h1 (fun hh => by have := ho _ hh; revert this; decide)⟩⟩
theorem EnvS.ext {w w' : World} (h : EnvS w) (hx : Ext w w') : EnvS w' := h.fr (O := fun _ => False) (Fr.of_ext hx) (fun _ hh => hh.elim)
theorem EnvS.two {w : World} (h : EnvS w) : 2 ≤ w.heap.size := by
  obtain ⟨f1, h1⟩ := h.cu
  exact (Array.getElem?_eq_some_iff.1 h1).1
/-- A Once's own cells; a constants' block that is not yet filled, or is. -/
def oCells (d m s : Int) : List Value := [.int .u32 d, .int .i32 m, .int .u32 s]
def eCells (o X : List Value) : Array Value := (o ++ X).toArray

set_option maxRecDepth 100000 in
set_option maxHeartbeats 2000000 in
theorem fill_any (b : Nat) (o X : List Value) (w : World) (ho : o.length = 3) (hX : X.length = 72) (hE : EnvS w) (hb : 2 ≤ b) (hg : w.heap[b]? = some (.cells (eCells o X) 246 (0, 0))) :
    Calls Tryz.prog 211 #[.pointer (some ⟨b, 0, none⟩)] w fun e w' => e = .returned (.tuple #[]) ∧ w'.heap[b]? = some (.cells (kCells o) 246 (0, 0)) ∧ Fr (fun k => k = b) w w' := by
  obtain ⟨f0, h0⟩ := hE.sq
  obtain ⟨f1, h1⟩ := hE.cu
  have hs8 : (shaH.map U32).toArray.size = 8 := by simp; rfl
  have hs64 : (shaK.map U32).toArray.size = 64 := by simp; rfl
  have hone8 : ∀ v ∈ (shaH.map U32).toArray.toList, v.oneCell' = true := by intro v hv; simp only [List.toList_toArray, List.mem_map] at hv; obtain ⟨x, -, rfl⟩ := hv; rfl
  have hone64 : ∀ v ∈ (shaK.map U32).toArray.toList, v.oneCell' = true := by intro v hv; simp only [List.toList_toArray, List.mem_map] at hv; obtain ⟨x, -, rfl⟩ := hv; rfl
  generalize hV8 : (shaH.map U32).toArray = V8 at h0 hs8 hone8
  generalize hV64 : (shaK.map U32).toArray = V64 at h1 hs64 hone64
  have hsz : (eCells o X).size = 75 := by unfold eCells; simp [ho, hX]
  have hsz2 : (eCells o (V8.toList ++ X.drop 8)).size = 75 := by unfold eCells; simp [ho, hX, hs8]
  have hl8 : V8.toList.length = 8 := by rw [Array.length_toList]; exact hs8
  have hl64 : V64.toList.length = 64 := by rw [Array.length_toList]; exact hs64
  have hn1 : eCells o (V8.toList ++ X.drop 8) = ((eCells o X).toList.take 3 ++ V8.toList ++ (eCells o X).toList.drop (3 + V8.size)).toArray := by
    unfold eCells
    simp only [List.toList_toArray]
    have hd : (o ++ X).drop (3 + V8.size) = X.drop 8 := by
      have hdo : o.drop (3 + 8) = [] := List.drop_eq_nil_of_le (by omega)
      rw [hs8, List.drop_append, hdo, List.nil_append, ho]
    rw [List.take_left' ho, hd, List.append_assoc]
  have hn2 : kCells o = ((eCells o (V8.toList ++ X.drop 8)).toList.take 11 ++ V64.toList ++ (eCells o (V8.toList ++ X.drop 8)).toList.drop (11 + V64.size)).toArray := by
    have hk : kCells o = (o ++ (V8.toList ++ V64.toList)).toArray := by rw [← hV8, ← hV64]; rfl
    rw [hk]
    unfold eCells
    simp only [List.toList_toArray]
    have hd : (o ++ (V8.toList ++ X.drop 8)).drop (11 + V64.size) = [] := List.drop_eq_nil_of_le (by rw [List.length_append, List.length_append, List.length_drop]; omega)
    have ht : (o ++ (V8.toList ++ X.drop 8)).take 11 = o ++ V8.toList := by rw [← List.append_assoc]; exact List.take_left' (by rw [List.length_append]; omega)
    rw [hd, ht, List.append_nil, List.append_assoc]
  have HN1 : Hid _ := hn1
  have HN2 : Hid _ := hn2
  clear hn1 hn2 hV8 hV64 hE
  go_enter Tryz.func211, Tryz.ntmps211
  go_wp2_with (first
    | (refine wpList_load_row rfl 243 _ rfl 0 rfl 243 V8 f0 _ h0 Tryz.underlying243 rfl (by rw [hs8]; exact size_a8) ?_)
    | (refine wpList_load_row rfl 244 _ rfl 1 rfl 244 V64 f1 _ h1 Tryz.underlying244 rfl (by rw [hs64]; exact size_a64) ?_)
    | (refine store_all rfl 243 _ _ rfl b 3 rfl V8 rfl hone8 _ (eCells o X) hg (by omega) (by rw [hs8]; exact size_a8) _ HN1.out ?_; intro w2 hg2 hgr2)
    | (refine store_all rfl 244 _ _ rfl b 11 rfl V64 rfl hone64 _ (eCells o (V8.toList ++ X.drop 8)) hg2 (by omega) (by rw [hs64]; exact size_a64) _ HN2.out ?_; intro w3 hg3 hgr3))
  go_end0
  have hu : ∀ {w9 : World} {cs : Array Value}, w9.heap[b]? = some (.cells cs 246 (0, 0)) → ¬ IsU8 w9 b := fun h => cells_u8 h (by kernel_rfl)
  exact ⟨rfl, hg3, ((Fr.refl _ w).step hgr2 (fun j hj => by cases hj; exact .inl rfl) (by rintro j hj; cases hj; exact hu hg)).step hgr3 (fun j hj => by cases hj; exact .inl rfl) (by rintro j hj; cases hj; exact hu hg2)⟩

/-- A Once's cells in a constants' block. -/
theorem e_cell {w : World} {b j : Nat} {o X : List Value} {v : Value} (hg : w.heap[b]? = some (.cells (eCells o X) 246 (0, 0))) (hj : (o ++ X)[j]? = some v) : w.cell? ⟨b, j, none⟩ = some v :=
  (cell_of_row _ _ j _ _ _ hg).trans (by unfold eCells; simpa using hj)
theorem e_frz {w : World} {b j : Nat} {cs : Array Value} (hg : w.heap[b]? = some (.cells cs 246 (0, 0))) : w.frozen? ⟨b, j, none⟩ = false := by simp [World.frozen?, hg]
theorem e_put0 {w : World} {b : Nat} {d m s x : Int} {X : List Value} (hg : w.heap[b]? = some (.cells (eCells (oCells d m s) X) 246 (0, 0))) : (w.setCell ⟨b, 0, none⟩ (.int .u32 x)).heap[b]? = some (.cells (eCells (oCells x m s) X) 246 (0, 0)) := by
  rw [heap_setCell_same w b 0 _ _ _ hg]; simp [eCells, oCells]
theorem e_put1 {w : World} {b : Nat} {d m s x : Int} {X : List Value} (hg : w.heap[b]? = some (.cells (eCells (oCells d m s) X) 246 (0, 0))) : (w.setCell ⟨b, 1, none⟩ (.int .i32 x)).heap[b]? = some (.cells (eCells (oCells d x s) X) 246 (0, 0)) := by
  rw [heap_setCell_same w b 1 _ _ _ hg]; simp [eCells, oCells]
theorem e_fr {w : World} {b j : Nat} {v : Value} {cs : Array Value} (hg : w.heap[b]? = some (.cells cs 246 (0, 0))) {O : Nat → Prop} {w0 : World} (h : Fr O w0 w) (hb : O b) : Fr O w0 (w.setCell ⟨b, j, none⟩ v) :=
  h.step (setCell_grown w b j v) (fun k hk => by cases hk; exact .inl hb) (by rintro k hk; cases hk; exact cells_u8 hg (by kernel_rfl))

set_option maxRecDepth 100000 in
theorem loadB_any (a : Addr) (x : Int) (y : Bool) (w : World) (h0 : w.cell? a = some (.int .u32 x)) (hx : (x != 0) = y) :
    Calls Tryz.prog 194 #[.pointer (some a)] w fun e w' => e = .returned (.bool y) ∧ w' = w := by
  have hl := run_call_load (P := Tryz.prog) Tryz.func228 (by kernel_rfl) (by kernel_rfl) (by kernel_rfl) .u32 (by kernel_rfl) h0
  go_enter Tryz.func194, Tryz.ntmps194
  go_wp2
  go_ret
  exact ⟨by first | rfl | rw [hx], rfl⟩

set_option maxRecDepth 100000 in
set_option maxHeartbeats 2000000 in
theorem slow_fill (b : Nat) (s : Int) (X : List Value) (w : World) (hX : X.length = 72) (hE : EnvS w) (hb : 2 ≤ b) (hg : w.heap[b]? = some (.cells (eCells (oCells 0 0 s) X) 246 (0, 0))) :
    Calls Tryz.prog 195 #[.pointer (some ⟨b, 0, none⟩), .func (.func 211) #[.pointer (some ⟨b, 0, none⟩)] #[]] w fun e w' => e = .returned (.tuple #[]) ∧ w'.heap[b]? = some (.cells (kCells (oCells 1 0 s)) 246 (0, 0)) ∧ Fr (fun k => k = b) w w' := by
  have hg1 := e_put1 (x := 1) hg
  have hf1 : Fr (fun k => k = b) w (w.setCell ⟨b, 1, none⟩ (.int .i32 1)) := e_fr hg (Fr.refl _ w) rfl
  have hE1 : EnvS (w.setCell ⟨b, 1, none⟩ (.int .i32 1)) := hE.fr hf1 (fun k hk => by subst hk; exact hb)
  have hnot : ∀ (x : Bool) (w : World), (Op.unary .not (.bool x)).run Tryz.prog w = .ok (.bool (!x)) w := fun _ _ => rfl
  have HG1 : Hid _ := hg1
  have HF1 : Hid _ := hf1
  have HG : Hid _ := hg
  have HE1 : Hid (EnvS (w.setCell ⟨b, 1, none⟩ (.int .i32 1))) := hE1
  clear hg1 hf1 hE hE1 hg
  go_enter_defers Tryz.func195, Tryz.ntmps195
  go_wp2_with (first | (go_at_call 229; go_must (refine (lock_free ⟨b, 1, none⟩ w (e_cell HG.out rfl) (e_frz HG.out)).mono ?_; rintro e w' ⟨rfl, rfl⟩)) | (go_at_call 194; go_must (refine (loadB_any ⟨b, 0, none⟩ 0 false _ (e_cell HG1.out rfl) rfl).mono ?_; rintro e w' ⟨rfl, rfl⟩)) | (go_at_call 211; go_must (refine (fill_any b (oCells 0 1 s) X _ rfl hX HE1.out hb HG1.out).mono ?_; rintro e w2 ⟨rfl, hg2, hf2⟩)))
  have hg2e : w2.heap[b]? = some (.cells (eCells (oCells 0 1 s) (shaH.map U32 ++ shaK.map U32)) 246 (0, 0)) := hg2
  have hg2d : w2.drew.heap[b]? = some (.cells (eCells (oCells 0 1 s) (shaH.map U32 ++ shaK.map U32)) 246 (0, 0)) := hg2
  have hg3 := e_put0 (x := 1) hg2d
  have hg4 := e_put1 (x := 0) hg3
  have hf4 : Fr (fun k => k = b) w (((w2.drew.setCell ⟨b, 0, none⟩ (.int .u32 1))).setCell ⟨b, 1, none⟩ (.int .i32 0)) := e_fr hg3 (e_fr hg2d ((HF1.out.trans (hf2.mono (fun k hk => .inl hk))).ext (Ext.refl _).drew) rfl) rfl
  refine leaves_cons (f := 231) (args := #[.pointer (some ⟨b, 0, none⟩), .bool true]) (by simp) (by simp [go_sem]) ?_
  refine (storeB_deferred ⟨b, 0, none⟩ (.int .u32 0) .returning w2 (e_cell hg2e rfl) (e_frz hg2e)).mono ?_
  rintro e u' w'' ⟨rfl, rfl, rfl⟩
  refine leaves_cons (f := 230) (args := #[.pointer (some ⟨b, 1, none⟩)]) (by simp [Go.settle]) (by simp [go_sem]) ?_
  refine (unlock_deferred ⟨b, 1, none⟩ _ _ (e_cell hg3 rfl) (e_frz hg3)).mono ?_
  rintro e u' w'' ⟨rfl, rfl, rfl⟩
  simp [Leaves, Go.settle, results, Tryz.results195]
  exact ⟨hg4, hf4⟩

set_option maxRecDepth 100000 in
set_option maxHeartbeats 2000000 in
theorem do_fill (b : Nat) (s : Int) (X : List Value) (w : World) (hX : X.length = 72) (hE : EnvS w) (hb : 2 ≤ b) (hg : w.heap[b]? = some (.cells (eCells (oCells 0 0 s) X) 246 (0, 0))) :
    Calls Tryz.prog 165 #[.pointer (some ⟨b, 0, none⟩), .func (.func 211) #[.pointer (some ⟨b, 0, none⟩)] #[]] w fun e w' => e = .returned (.tuple #[]) ∧ w'.heap[b]? = some (.cells (kCells (oCells 1 0 s)) 246 (0, 0)) ∧ Fr (fun k => k = b) w w' := by
  have hnot : ∀ (x : Bool) (w : World), (Op.unary .not (.bool x)).run Tryz.prog w = .ok (.bool (!x)) w := fun _ _ => rfl
  have HG : Hid _ := hg
  have HE : Hid (EnvS w) := hE
  clear hg hE
  go_enter Tryz.func165, Tryz.ntmps165
  go_wp2_with (first | (go_at_call 194; go_must (refine (loadB_any ⟨b, 0, none⟩ 0 false _ (e_cell HG.out rfl) rfl).mono ?_; rintro e w' ⟨rfl, rfl⟩)) | (go_at_call 195; go_must (refine (slow_fill b s X _ hX HE.out hb HG.out).mono ?_; rintro e w2 ⟨rfl, hg2, hf2⟩)))
  go_end0
  exact ⟨rfl, hg2, hf2⟩

end Go.Proofs.YtfimfbdlegookaaGreatDoor

/-! sha.New, Sum, ID. Conditions: at most 100000 bytes; the roots of the primes as laid. -/
namespace Go.Proofs.YtfimfbdlegookaaGreatDoor
open Go Go.RowKit
set_option linter.unusedVariables false
set_option linter.unusedSimpArgs false
set_option linter.unusedSectionVars false

theorem zero_c : Tryz.zeroCells246 = eCells (oCells 0 0 0) (List.replicate 72 (.int .u32 0)) := by first | rfl | kernel_rfl
def zX : List Value := List.replicate 72 (.int .u32 0)

set_option maxRecDepth 100000 in
set_option maxHeartbeats 2000000 in
theorem new_sha (w : World) (hE : EnvS w) : Calls Tryz.prog 172 #[] w fun e w' => (∃ hb cb : Nat, e = .returned (.pointer (some ⟨hb, 0, none⟩)) ∧ hb ≠ cb ∧ w.heap.size ≤ hb ∧ w.heap.size ≤ cb ∧ w'.heap[cb]? = some (.cells (kCells (oCells 1 0 0)) 246 (0, 0)) ∧ w'.heap[hb]? = some (.cells (hCells cb shaH (.slice none 0 0) (0 : Nat)) 248 (0, 0))) ∧ Ext w w' := by
  obtain ⟨w1, hw1⟩ : ∃ w1, w1 = w.alloc (.cells (eCells (oCells 0 0 0) zX) 246) := ⟨_, rfl⟩
  have hx1 : Ext w w1 := by rw [hw1]; exact (Ext.refl _).alloc _
  have hg1 : w1.heap[w.heap.size]? = some (.cells (eCells (oCells 0 0 0) zX) 246 (0, 0)) := by rw [hw1]; exact alloc_at _ _
  have hE1 : EnvS w1 := hE.ext hx1
  have h2 := hE.two
  have HG1 : Hid _ := hg1
  have HE1 : Hid (EnvS w1) := hE1
  have HX1 : Hid (Ext w w1) := hx1
  have HW1 : Hid _ := hw1
  clear hg1 hE1 hx1 hw1 hE
  have hmf : ∀ (fn : Fn) (first cap : Array Value) (w : World), (Instr.makeFunc fn first cap).run Tryz.prog w = .ok (.func fn first cap) w := fun _ _ _ _ => rfl
  go_enter Tryz.func172, Tryz.ntmps172
  go_upto_region 2 with fail
  rw [show w.alloc (.cells Tryz.zeroCells246 246) = w1 from (congrArg (fun c => w.alloc (.cells c 246)) zero_c).trans HW1.out.symm]
  generalize Tryz.zeroCells246 = zc
  go_upto_region 3 with (go_at_call 165; go_must (refine (do_fill w.heap.size 0 zX w1 rfl HE1.out h2 HG1.out).mono ?_; rintro e w2 ⟨rfl, hg2, hf2⟩))
  have hx2 : Ext w w2 := Ext.of_fr HX1.out hf2 (fun k hk => by cases hk; exact Nat.le_refl _)
  obtain ⟨i0, i1, i2, i3, i4, i5, i6, i7, hH⟩ := list8 (show shaH.length = 8 from rfl)
  have hk : kCells (oCells 1 0 0) = (oCells 1 0 0 ++ ([i0, i1, i2, i3, i4, i5, i6, i7].map U32 ++ shaK.map U32)).toArray := by unfold kCells; rw [hH]
  have hg2' := hg2
  rw [hk] at hg2'
  have c1 : w2.cell? ⟨w.heap.size, 3, none⟩ = some (U32 i0) := (cell_of_row _ _ 3 _ _ _ hg2').trans rfl
  have c2 : w2.cell? ⟨w.heap.size, 4, none⟩ = some (U32 i1) := (cell_of_row _ _ 4 _ _ _ hg2').trans rfl
  have c3 : w2.cell? ⟨w.heap.size, 5, none⟩ = some (U32 i2) := (cell_of_row _ _ 5 _ _ _ hg2').trans rfl
  have c4 : w2.cell? ⟨w.heap.size, 6, none⟩ = some (U32 i3) := (cell_of_row _ _ 6 _ _ _ hg2').trans rfl
  have c5 : w2.cell? ⟨w.heap.size, 7, none⟩ = some (U32 i4) := (cell_of_row _ _ 7 _ _ _ hg2').trans rfl
  have c6 : w2.cell? ⟨w.heap.size, 8, none⟩ = some (U32 i5) := (cell_of_row _ _ 8 _ _ _ hg2').trans rfl
  have c7 : w2.cell? ⟨w.heap.size, 9, none⟩ = some (U32 i6) := (cell_of_row _ _ 9 _ _ _ hg2').trans rfl
  have c8 : w2.cell? ⟨w.heap.size, 10, none⟩ = some (U32 i7) := (cell_of_row _ _ 10 _ _ _ hg2').trans rfl
  have hlt2 := (Array.getElem?_eq_some_iff.1 hg2).1
  obtain ⟨w3, hw3⟩ : ∃ w3, w3 = w2.alloc (.cells (hCells w.heap.size [i0, i1, i2, i3, i4, i5, i6, i7] (.slice none 0 0) (0 : Nat)) 248) := ⟨_, rfl⟩
  have hx3 : Ext w2 w3 := by rw [hw3]; exact (Ext.refl _).alloc _
  have hg3 : w3.heap[w2.heap.size]? = some (.cells (hCells w.heap.size [i0, i1, i2, i3, i4, i5, i6, i7] (.slice none 0 0) (0 : Nat)) 248 (0, 0)) := by rw [hw3]; exact alloc_at _ _
  have HX2 : Hid (Ext w w2) := hx2
  have HX3 : Hid (Ext w2 w3) := hx3
  have HG3 : Hid _ := hg3
  have HW3 : Hid _ := hw3
  have HG2 : Hid _ := hg2
  have HH : Hid _ := hH
  have hs2 := hx2.size
  clear hg2 hg2' hk hf2 hH hx2 hx3 hg3 hw3
  go_wp2_with fail
  go_ret
  rw [HH.out]
  have hfin : w2.alloc (.cells (hCells w.heap.size [i0, i1, i2, i3, i4, i5, i6, i7] (.slice none 0 0) (0 : Nat)) 248) = w3 := HW3.out.symm
  refine ⟨⟨w2.heap.size, w.heap.size, rfl, by omega, hs2, Nat.le_refl _, ?_, ?_⟩, ?_⟩
  · exact hfin ▸ Ext.row HX3.out HG2.out
  · exact hfin ▸ HG3.out
  · exact hfin ▸ HX2.out.trans HX3.out

theorem absorb_rest (h : List UInt32) (l : B8) : (absorb h l).2.length < 64 := by
  induction h, l using absorb.induct with
  | case1 h l hc ih => rw [absorb, if_pos hc]; exact ih
  | case2 h l hc => rw [absorb, if_neg hc]; show l.length < 64; omega

set_option maxRecDepth 100000 in
set_option maxHeartbeats 2000000 in
theorem sum_sha (v : Value) (l : B8) (w : World) (hE : EnvS w) (hv : IsBytes w v l) (hl : l.length ≤ 1000000) :
    Calls Tryz.prog 122 #[v] w fun e w' => (∃ v', e = .returned v' ∧ w'.ownsRow w.heap.size 5 1 v' 32 ((sumM l).map fun x => .int .u8 x.toNat)) ∧ Ext w w' := by
  have HE : Hid (EnvS w) := hE
  have HV : Hid (IsBytes w v l) := hv
  obtain ⟨a, cap, rfl, h1, h2, h3, h4⟩ := hv.get
  have hout : ∀ (k : Nat), w.heap.size ≤ k → ∀ w1, Out (fun j => j = k) w1 (.slice a l.length cap) := by
    intro k hk w1 a' n' c' he hn'
    simp only [Value.slice.injEq] at he
    obtain ⟨rfl, rfl, rfl⟩ := he
    obtain ⟨b, o, hb, hc⟩ := h4 0 (by omega)
    cases hb
    have hlt := World.block_lt_of_cell? _ _ (hc 0 (by omega))
    exact .inl (fun h => by dsimp only at h hlt; omega)
  have HOUT : Hid (∀ (k : Nat), w.heap.size ≤ k → ∀ w1, Out (fun j => j = k) w1 (.slice a l.length cap)) := hout
  clear h4 hout hv hE
  go_enter Tryz.func122, Tryz.ntmps122
  go_upto_region 2 with (go_at_call 172; go_must (refine (new_sha w HE.out).mono ?_; rintro e w1 ⟨⟨hb, cb, rfl, hne, hb1, hb2, hgc, hgh⟩, hx1⟩))
  have HGC : Hid _ := hgc
  have HGH : Hid _ := hgh
  have HX1 : Hid (Ext w w1) := hx1
  clear hgc hgh hx1
  go_upto_region 3 with (go_at_call 173; go_must (refine (write_sha hb cb shaH (.slice none 0 0) (.slice a l.length cap) [] l 0 (oCells 1 0 0) w1 rfl rfl hne (by omega) HGH.out HGC.out (IsBytes.nil _) (TypB.nil _ _ _) (HV.out.ext HX1.out) (HOUT.out hb hb1 w1) (by simp) hl).mono ?_; rintro e w2 ⟨rfl, st2, rv2, r2, hw2, hab⟩))
  rw [List.nil_append] at hw2 hab
  have hx2 : Ext w w2 := Ext.of_fr HX1.out hw2.fr (fun k hk => by cases hk; exact hb1)
  have hgc2 := hw2.fr.row HGC.out (fun h => hne h.symm)
  have hgh2 : w2.heap[hb]? = some (.cells (hCells cb st2 rv2 (l.length : Nat)) 248 (0, 0)) := by
    have h9 := hw2.cells
    rwa [show (((0 : Nat) : Int) + (l.length : Int)) = ((l.length : Nat) : Int) by omega] at h9
  have hr2 : r2.length < 64 := by
    have h9 := absorb_rest shaH l
    rw [← hab] at h9
    exact h9
  have hsum : sumM l = (absorb st2 (r2 ++ padM l.length)).1.flatMap outM := by unfold sumM; rw [← hab]
  have HX2 : Hid (Ext w w2) := hx2
  have HW2 : Hid (Wr w1 w2 hb cb (absorb shaH l) (((0 : Nat) : Int) + l.length) st2 rv2 r2) := hw2
  have HGC2 : Hid _ := hgc2
  have HGH2 : Hid _ := hgh2
  have HSUM : Hid _ := hsum
  have hs2 := hx2.size
  clear hx2 hgc2 hgh2 hsum hw2 hab
  go_wp2_with (go_at_call 174; go_must (refine (sumH_any hb cb st2 rv2 r2 l.length (oCells 1 0 0) w2 HW2.out.hst rfl hl HGH2.out HGC2.out HW2.out.bytes (by omega)).mono ?_; rintro e w3 ⟨⟨v3, rfl, hown3⟩, hx3⟩))
  go_ret
  rw [HSUM.out]
  exact ⟨⟨_, rfl, owns_low hown3 hs2⟩, HX2.out.trans hx3⟩

theorem sum32 (l : B8) {w : World} {base : Nat} {v : Value} (h : w.ownsRow base 5 1 v 32 ((sumM l).map fun x => .int .u8 x.toNat)) : (sumM l).length = 32 := by
  have h9 := h.1
  simpa using h9

set_option maxRecDepth 100000 in
set_option maxHeartbeats 2000000 in
theorem id_sha (v : Value) (l : B8) (w : World) (hE : EnvS w) (hv : IsBytes w v l) (hl : l.length ≤ 1000000) :
    Calls Tryz.prog 45 #[v] w fun e w' => e = .returned (S8 (shaM l)) ∧ Ext w w' := by
  have HE : Hid (EnvS w) := hE
  have HV : Hid (IsBytes w v l) := hv
  clear hv hE
  go_enter Tryz.func45, Tryz.ntmps45
  go_wp2_with (first
    | (go_at_call 122; go_must (refine (sum_sha v l w HE.out HV.out hl).mono ?_; rintro e w1 ⟨⟨v1, rfl, hown1⟩, hx1⟩; have h32 := sum32 l hown1; have hb1 : IsBytes w1 v1 (sumM l) := by unfold IsBytes; rw [h32]; exact Row.of_owns hown1 (by omega)))
    | (go_at_call 121; go_must (refine (hex_any v1 (sumM l) w1 hb1 (by omega)).mono ?_; rintro e w2 ⟨rfl, hx2⟩)))
  go_ret
  exact ⟨rfl, hx1.trans hx2⟩

end Go.Proofs.YtfimfbdlegookaaGreatDoor

/-! cell: NewLazy, ID, NewCounter, Add. Conditions: one goroutine; at most 1000000 bytes. -/
namespace Go.Proofs.YtfimfbdlegookaaGreatDoor
open Go Go.RowKit
set_option linter.unusedVariables false
set_option linter.unusedSimpArgs false
set_option linter.unusedSectionVars false

/-- A lazy hash's cells: its Once, the bytes, the hash, how often. -/
def lzCells (d m s : Int) (vb : Value) (id : B8) (n : Int) : Array Value := #[.int .u32 d, .int .i32 m, .int .u32 s, vb, S8 id, .int .i64 n]
theorem lz_cell {w : World} {g j : Nat} {d m s n : Int} {vb v : Value} {id : B8} (hg : w.heap[g]? = some (.cells (lzCells d m s vb id n) 201 (0, 0))) (hj : (lzCells d m s vb id n)[j]? = some v) : w.cell? ⟨g, j, none⟩ = some v :=
  (cell_of_row _ _ j _ _ _ hg).trans hj
theorem lz_frz {w : World} {g j : Nat} {cs : Array Value} {t : TypeId} (hg : w.heap[g]? = some (.cells cs t (0, 0))) : w.frozen? ⟨g, j, none⟩ = false := by simp [World.frozen?, hg]
theorem lz_put0 {w : World} {g : Nat} {d m s n x : Int} {vb : Value} {id : B8} (hg : w.heap[g]? = some (.cells (lzCells d m s vb id n) 201 (0, 0))) : (w.setCell ⟨g, 0, none⟩ (.int .u32 x)).heap[g]? = some (.cells (lzCells x m s vb id n) 201 (0, 0)) := by
  rw [heap_setCell_same w g 0 _ _ _ hg]; simp [lzCells]
theorem lz_put1 {w : World} {g : Nat} {d m s n x : Int} {vb : Value} {id : B8} (hg : w.heap[g]? = some (.cells (lzCells d m s vb id n) 201 (0, 0))) : (w.setCell ⟨g, 1, none⟩ (.int .i32 x)).heap[g]? = some (.cells (lzCells d x s vb id n) 201 (0, 0)) := by
  rw [heap_setCell_same w g 1 _ _ _ hg]; simp [lzCells]
theorem lz_put5 {w : World} {g : Nat} {d m s n x : Int} {vb : Value} {id : B8} (hg : w.heap[g]? = some (.cells (lzCells d m s vb id n) 201 (0, 0))) : (w.setCell ⟨g, 5, none⟩ (.int .i64 x)).heap[g]? = some (.cells (lzCells d m s vb id x) 201 (0, 0)) := by
  rw [heap_setCell_same w g 5 _ _ _ hg]; simp [lzCells]
theorem lz_fr {w : World} {g j : Nat} {v : Value} {cs : Array Value} (hg : w.heap[g]? = some (.cells cs 201 (0, 0))) (hu : ¬ IsU8 w g) {O : Nat → Prop} {w0 : World} (h : Fr O w0 w) (hb : O g) : Fr O w0 (w.setCell ⟨g, j, none⟩ v) :=
  h.step (setCell_grown w g j v) (fun k hk => by cases hk; exact .inl hb) (by rintro k hk; cases hk; exact hu)

set_option maxRecDepth 100000 in
set_option maxHeartbeats 2000000 in
/-- The hash is worked out. -/
theorem body_lz (g bx : Nat) (d m s n : Int) (vb : Value) (b : B8) (fr : Nat × Nat) (w : World) (hE : EnvS w) (hb : IsBytes w vb b) (hl : b.length ≤ 1000000) (hn0 : 0 ≤ n) (hn1 : n ≤ 1000000000)
    (hg : w.heap[g]? = some (.cells (lzCells d m s vb [] n) 201 (0, 0))) (hx : w.heap[bx]? = some (.cells #[.pointer (some ⟨g, 0, none⟩)] 151 fr)) (hgx : g ≠ bx) :
    Calls Tryz.prog 166 #[.pointer (some ⟨bx, 0, none⟩)] w fun e w' => e = .returned (.tuple #[]) ∧ w'.heap[g]? = some (.cells (lzCells d m s vb (shaM b) (n + 1)) 201 (0, 0)) ∧ Fr (fun k => k = g) w w' := by
  have hu : ∀ {w9 : World} {cs : Array Value}, w9.heap[g]? = some (.cells cs 201 (0, 0)) → ¬ IsU8 w9 g := fun h => cells_u8 h (by kernel_rfl)
  have HE : Hid (EnvS w) := hE
  have HB : Hid (IsBytes w vb b) := hb
  have HG : Hid _ := hg
  have HX : Hid _ := hx
  have c3 := lz_cell (j := 3) hg rfl
  have x0 : w.cell? ⟨bx, 0, none⟩ = some (.pointer (some ⟨g, 0, none⟩)) := (cell_of_row _ _ 0 _ _ _ hx).trans rfl
  obtain ⟨va, vc, rfl, -⟩ := id hb
  clear hE hb hg hx
  go_enter Tryz.func166, Tryz.ntmps166
  go_upto_region 0 with fail
  apply wp_region_mix 8 [_, _, _, _, _, S8 (shaM b), _, _] [none, none, none, none, none, none, none, none] [[], [], [1], [2], [3], [4], [0], [6]] (by kernel_rfl) (by kernel_rfl) (by simp [mixV])
  · trivial
  · simp (maxSteps := 1000000) only [List.take_succ_cons, List.take_zero, oblFrom, stepObl, fillFrom, Act.put, List.setIfInBounds_toArray, List.set_cons_zero, List.set_cons_succ, knows, getV, mixV, List.getD_cons_zero, List.getD_cons_succ, and_true, true_and, forall_const]
    refine ⟨?_, ?_, ?_, ?_, ?_, ?_, ?_, ?_⟩
    · intro xs wq hq R hR
      have f1 := hq.cell c3; have f2 := hq.cell x0
      go_simp
      exact hR _ _ (Ext.refl _) rfl
    · intro xs wq hq R hR
      have f1 := hq.cell c3; have f2 := hq.cell x0
      go_simp
      exact hR _ _ (Ext.refl _) rfl
    · intro xs wq hq hk R hR
      have f1 := hq.cell c3; have f2 := hq.cell x0
      go_simp
      exact hR _ _ (Ext.refl _) rfl
    · intro xs wq hq hk R hR
      have f1 := hq.cell c3; have f2 := hq.cell x0
      go_simp
      exact hR _ _ (Ext.refl _) rfl
    · intro xs wq hq hk R hR
      have f1 := hq.cell c3; have f2 := hq.cell x0
      go_simp
      exact hR _ _ (Ext.refl _) rfl
    · intro xs wq hq hk R hR
      go_simp
      exact (id_sha _ b _ (EnvS.ext HE.out hq) (IsBytes.ext HB.out hq) hl).mono (by rintro e' w4 ⟨rfl, h4⟩; exact ⟨_, rfl, hR _ _ h4 rfl⟩)
    · intro xs wq hq hk R hR
      have f1 := hq.cell c3; have f2 := hq.cell x0
      go_simp
      exact hR _ _ (Ext.refl _) rfl
    · intro xs wq hq hk R hR
      have f1 := hq.cell c3; have f2 := hq.cell x0
      go_simp
      exact hR _ _ (Ext.refl _) rfl
  intro xs w2 hx2 hk
  simp only [heldV, Nat.zero_add, Nat.reduceAdd, and_true] at hk
  obtain ⟨q0, q1, q2, q3, q4, q5, q6, q7⟩ := hk
  simp (maxSteps := 1000000) only [List.take_succ_cons, List.take_zero, List.drop_succ_cons, List.drop_zero, fillFrom, Act.put, List.setIfInBounds_toArray, List.set_cons_zero, List.set_cons_succ, Nat.zero_add, Nat.reduceAdd, q0, q1, q2, q3, q4, q5, q6, q7]
  clear q0 q1 q2 q3 q4 q5 q6 q7
  have hg2 := Ext.row hx2 HG.out
  have HX2 : Hid (Ext w w2) := hx2
  have hxr := Ext.row hx2 HX.out
  refine store_field rfl 9 (.tmp 8) (.tmp 6) rfl g 4 rfl (S8 (shaM b)) rfl rfl 201 (lzCells d m s (.slice va b.length vc) [] n) hg2 (Nat.le_of_ble_eq_true rfl) (by kernel_rfl) (lzCells d m s (.slice va b.length vc) (shaM b) n) (by simp [lzCells]) ?_
  intro w3 hg3 hgr3
  have hxr3 := but_row hgr3 hxr (fun e => hgx e.symm)
  have x3 : w3.cell? ⟨bx, 0, none⟩ = some (.pointer (some ⟨g, 0, none⟩)) := (cell_of_row _ _ 0 _ _ _ hxr3).trans rfl
  have HG3 : Hid _ := hg3
  have HF3 : Hid (Fr (fun k => k = g) w w3) := (Fr.of_ext HX2.out).step hgr3 (fun k hk => by cases hk; exact .inl rfl) (by rintro k hk; cases hk; exact hu hg2)
  clear hx2 hg2 hxr hxr3 hgr3 hg3 c3 x0
  go_wp2_with fail
  go_at_call 167
  refine (add_any (lz_cell HG3.out rfl) (lz_frz HG3.out) hn0 hn1).mono ?_
  rintro e w4 ⟨rfl, rfl⟩
  go_wp2
  go_end0
  exact ⟨rfl, lz_put5 HG3.out, lz_fr HG3.out (hu HG3.out) HF3.out rfl⟩

set_option maxRecDepth 100000 in
set_option maxHeartbeats 2000000 in
theorem slow_lz (g bx : Nat) (s n : Int) (vb : Value) (b : B8) (fr : Nat × Nat) (w : World) (hE : EnvS w) (hb : IsBytes w vb b) (ht : TypB w vb) (hl : b.length ≤ 1000000) (hn0 : 0 ≤ n) (hn1 : n ≤ 1000000000) (h2 : 2 ≤ g)
    (hg : w.heap[g]? = some (.cells (lzCells 0 0 s vb [] n) 201 (0, 0))) (hx : w.heap[bx]? = some (.cells #[.pointer (some ⟨g, 0, none⟩)] 151 fr)) (hgx : g ≠ bx) :
    Calls Tryz.prog 195 #[.pointer (some ⟨g, 0, none⟩), .func (.func 166) #[] #[.pointer (some ⟨bx, 0, none⟩)]] w fun e w' => e = .returned (.tuple #[]) ∧ w'.heap[g]? = some (.cells (lzCells 1 0 s vb (shaM b) (n + 1)) 201 (0, 0)) ∧ Fr (fun k => k = g) w w' := by
  have hu : ∀ {w9 : World} {cs : Array Value}, w9.heap[g]? = some (.cells cs 201 (0, 0)) → ¬ IsU8 w9 g := fun h => cells_u8 h (by kernel_rfl)
  have hg1 := lz_put1 (x := 1) hg
  have hf1 : Fr (fun k => k = g) w (w.setCell ⟨g, 1, none⟩ (.int .i32 1)) := lz_fr hg (hu hg) (Fr.refl _ w) rfl
  have hE1 : EnvS (w.setCell ⟨g, 1, none⟩ (.int .i32 1)) := hE.fr hf1 (fun k hk => by subst hk; exact h2)
  have hb1 : IsBytes (w.setCell ⟨g, 1, none⟩ (.int .i32 1)) vb b := Row.keepB hb ht hf1.keep
  have hx1 : (w.setCell ⟨g, 1, none⟩ (.int .i32 1)).heap[bx]? = some (.cells #[.pointer (some ⟨g, 0, none⟩)] 151 fr) := hf1.row hx (fun e => hgx e.symm)
  have hnot : ∀ (x : Bool) (w : World), (Op.unary .not (.bool x)).run Tryz.prog w = .ok (.bool (!x)) w := fun _ _ => rfl
  have HG1 : Hid _ := hg1
  have HF1 : Hid _ := hf1
  have HG : Hid _ := hg
  have HE1 : Hid (EnvS (w.setCell ⟨g, 1, none⟩ (.int .i32 1))) := hE1
  have HB1 : Hid (IsBytes (w.setCell ⟨g, 1, none⟩ (.int .i32 1)) vb b) := hb1
  have HX1 : Hid _ := hx1
  clear hg1 hf1 hE hE1 hg hb hb1 hx hx1 ht
  go_enter_defers Tryz.func195, Tryz.ntmps195
  go_wp2_with (first | (go_at_call 229; go_must (refine (lock_free ⟨g, 1, none⟩ w (lz_cell HG.out rfl) (lz_frz HG.out)).mono ?_; rintro e w' ⟨rfl, rfl⟩)) | (go_at_call 194; go_must (refine (loadB_any ⟨g, 0, none⟩ 0 false _ (lz_cell HG1.out rfl) rfl).mono ?_; rintro e w' ⟨rfl, rfl⟩)) | (go_at_call 166; go_must (refine (body_lz g bx 0 1 s n vb b fr _ HE1.out HB1.out hl hn0 hn1 HG1.out HX1.out hgx).mono ?_; rintro e w2 ⟨rfl, hg2, hf2⟩)))
  have hg2d : w2.drew.heap[g]? = some (.cells (lzCells 0 1 s vb (shaM b) (n + 1)) 201 (0, 0)) := hg2
  have hg3 := lz_put0 (x := 1) hg2d
  have hg4 := lz_put1 (x := 0) hg3
  have hf4 : Fr (fun k => k = g) w (((w2.drew.setCell ⟨g, 0, none⟩ (.int .u32 1))).setCell ⟨g, 1, none⟩ (.int .i32 0)) := lz_fr hg3 (hu hg3) (lz_fr hg2d (hu hg2d) ((HF1.out.trans (hf2.mono (fun k hk => .inl hk))).ext (Ext.refl _).drew) rfl) rfl
  refine leaves_cons (f := 231) (args := #[.pointer (some ⟨g, 0, none⟩), .bool true]) (by simp) (by simp [go_sem]) ?_
  refine (storeB_deferred ⟨g, 0, none⟩ (.int .u32 0) .returning w2 (lz_cell hg2 rfl) (lz_frz hg2)).mono ?_
  rintro e u' w'' ⟨rfl, rfl, rfl⟩
  refine leaves_cons (f := 230) (args := #[.pointer (some ⟨g, 1, none⟩)]) (by simp [Go.settle]) (by simp [go_sem]) ?_
  refine (unlock_deferred ⟨g, 1, none⟩ _ _ (lz_cell hg3 rfl) (lz_frz hg3)).mono ?_
  rintro e u' w'' ⟨rfl, rfl, rfl⟩
  simp [Leaves, Go.settle, results, Tryz.results195]
  exact ⟨hg4, hf4⟩

set_option maxRecDepth 100000 in
set_option maxHeartbeats 2000000 in
theorem do_lz (g bx : Nat) (s n : Int) (vb : Value) (b : B8) (fr : Nat × Nat) (w : World) (hE : EnvS w) (hb : IsBytes w vb b) (ht : TypB w vb) (hl : b.length ≤ 1000000) (hn0 : 0 ≤ n) (hn1 : n ≤ 1000000000) (h2 : 2 ≤ g)
    (hg : w.heap[g]? = some (.cells (lzCells 0 0 s vb [] n) 201 (0, 0))) (hx : w.heap[bx]? = some (.cells #[.pointer (some ⟨g, 0, none⟩)] 151 fr)) (hgx : g ≠ bx) :
    Calls Tryz.prog 165 #[.pointer (some ⟨g, 0, none⟩), .func (.func 166) #[] #[.pointer (some ⟨bx, 0, none⟩)]] w fun e w' => e = .returned (.tuple #[]) ∧ w'.heap[g]? = some (.cells (lzCells 1 0 s vb (shaM b) (n + 1)) 201 (0, 0)) ∧ Fr (fun k => k = g) w w' := by
  have hnot : ∀ (x : Bool) (w : World), (Op.unary .not (.bool x)).run Tryz.prog w = .ok (.bool (!x)) w := fun _ _ => rfl
  have HG : Hid _ := hg
  have HE : Hid (EnvS w) := hE
  have HB : Hid (IsBytes w vb b) := hb
  have HT : Hid (TypB w vb) := ht
  have HX : Hid _ := hx
  clear hg hE hb hx ht
  go_enter Tryz.func165, Tryz.ntmps165
  go_wp2_with (first | (go_at_call 194; go_must (refine (loadB_any ⟨g, 0, none⟩ 0 false _ (lz_cell HG.out rfl) rfl).mono ?_; rintro e w' ⟨rfl, rfl⟩)) | (go_at_call 195; go_must (refine (slow_lz g bx s n vb b fr _ HE.out HB.out HT.out hl hn0 hn1 h2 HG.out HX.out hgx).mono ?_; rintro e w2 ⟨rfl, hg2, hf2⟩)))
  go_end0
  exact ⟨rfl, hg2, hf2⟩

/-- A lazy hash of the call's own, made and asked at once. -/
def LzNew (w : World) (b : B8) (v : Value) (w' : World) : Prop := ∃ (g : Nat) (vb : Value), v = .pointer (some ⟨g, 0, none⟩) ∧ w'.heap[g]? = some (.cells (lzCells 0 0 0 vb [] 0) 201 (0, 0)) ∧ IsBytes w' vb b ∧ TypB w' vb ∧ w.heap.size ≤ g
set_option maxRecDepth 100000 in
theorem newLazy_any (v : Value) (b : B8) (w : World) (hv : IsBytes w v b) (hl : b.length ≤ 1000000) :
    Calls Tryz.prog 114 #[v] w fun e w' => (∃ u, e = .returned u ∧ LzNew w b u w') ∧ Ext w w' := by
  have HV : Hid (IsBytes w v b) := hv
  clear hv
  go_enter Tryz.func114, Tryz.ntmps114
  go_wp2_with fail
  go_at_call 57
  refine (clone_any v b w HV.out (by omega)).mono ?_
  rintro e w1 ⟨⟨vb, rfl, hd⟩, hx⟩
  have hdb := hd.bytes
  obtain ⟨va, vc, rfl, -⟩ := hdb
  have HD : Hid (IsData _ w1 (.slice va b.length vc) b) := hd
  have HX : Hid (Ext w w1) := hx
  clear hd hx
  go_wp2
  go_ret
  have hx2 : Ext w1 (w1.alloc (.cells (lzCells 0 0 0 (.slice va b.length vc) [] 0) 201)) := (Ext.refl _).alloc _
  have hd2 := IsData.ext HD.out hx2
  exact ⟨⟨_, rfl, w1.heap.size, .slice va b.length vc, rfl, alloc_at _ _, hd2.bytes, hd2.typed, HX.out.size⟩, HX.out.trans hx2⟩

set_option maxRecDepth 100000 in
set_option maxHeartbeats 1000000 in
theorem lazyID_any (w0 w : World) (b : B8) (v : Value) (hE : EnvS w) (h2 : 2 ≤ w0.heap.size) (hx : Ext w0 w) (hn : LzNew w0 b v w) (hl : b.length ≤ 1000000) :
    Calls Tryz.prog 115 #[v] w fun e w' => e = .returned (S8 (shaM b)) ∧ Ext w0 w' := by
  obtain ⟨g, vb, rfl, hg, hb, ht, hge⟩ := hn
  have HE : Hid (EnvS w) := hE
  have HG : Hid _ := hg
  have HB : Hid (IsBytes w vb b) := hb
  have HT : Hid (TypB w vb) := ht
  have HX : Hid (Ext w0 w) := hx
  have hglt : g < w.heap.size := (Array.getElem?_eq_some_iff.1 hg).1
  clear hE hg hb ht hx
  go_enter Tryz.func115, Tryz.ntmps115
  go_wp2_with fail
  go_at_call 165
  obtain ⟨bx, hbx⟩ : ∃ bx, w.heap.size = bx := ⟨_, rfl⟩
  obtain ⟨wa, hwa⟩ : ∃ wa, w.alloc (.cells #[.pointer (some ⟨g, 0, none⟩)] 151) = wa := ⟨_, rfl⟩
  have hxa : Ext w wa := by rw [← hwa]; exact (Ext.refl _).alloc _
  have hxb : wa.heap[bx]? = some (.cells #[.pointer (some ⟨g, 0, none⟩)] 151 (0, 0)) := by rw [← hwa, ← hbx]; exact alloc_at _ _
  have hgx : g ≠ bx := by omega
  rw [hbx, hwa]
  have HXB : Hid _ := hxb
  have HXA : Hid (Ext w wa) := hxa
  clear hwa hbx hxa hxb
  refine (do_lz g bx 0 0 vb b (0, 0) wa (HE.out.ext HXA.out) (IsBytes.ext HB.out HXA.out) (HT.out.keep (KeepB.of_ext HXA.out)) hl (by omega) (by omega) (by omega) (Ext.row HXA.out HG.out) HXB.out hgx).mono ?_
  rintro e w2 ⟨rfl, hg2, hf2⟩
  have HX2 : Hid (Ext w0 w2) := Ext.of_fr (HX.out.trans HXA.out) hf2 (fun k hk => by subst hk; exact hge)
  have x0 : w2.cell? ⟨bx, 0, none⟩ = some (.pointer (some ⟨g, 0, none⟩)) := (cell_of_row _ _ 0 _ _ _ (hf2.row HXB.out (fun e => hgx e.symm))).trans rfl
  have c4 := lz_cell (j := 4) hg2 rfl
  clear hg2 hf2
  go_wp2
  go_ret
  exact ⟨rfl, HX2.out⟩

/-! ### Counters -/
theorem newCounter_any (w : World) : Calls Tryz.prog 113 #[] w fun e w' => e = .returned (.pointer (some ⟨w.heap.size, 0, none⟩)) ∧ w'.heap[w.heap.size]? = some (.cells #[.int .i64 0] 189 (0, 0)) ∧ Ext w w' := by
  go_enter Tryz.func113, Tryz.ntmps113
  go_wp2
  go_ret
  exact ⟨rfl, alloc_at _ _, (Ext.refl _).alloc _⟩
theorem add0_run {w : World} {g : Nat} {c : Int} (hc : w.cell? ⟨g, 0, none⟩ = some (.int .i64 c)) (hz : w.frozen? ⟨g, 0, none⟩ = false) (h0 : 0 ≤ c) (h1 : c ≤ 1000000000) :
    (callFunc 196 #[.pointer (some ⟨g, 0, none⟩), .int .i64 1]).run Tryz.prog w = .ok (.value (.int .i64 (c + 1))) (w.setCell ⟨g, 0, none⟩ (.int .i64 (c + 1))) :=
  run_call_add (P := Tryz.prog) Tryz.func196 (by kernel_rfl) (by kernel_rfl) (by kernel_rfl) .i64 (by kernel_rfl) (y := 1) (s := c + 1) hc hz (by
    have := IntWalk.i64_in (c + 1) (by omega)
    simp [go_sem, this])
set_option maxRecDepth 100000 in
theorem add0_any {w : World} {g : Nat} {c : Int} (hc : w.cell? ⟨g, 0, none⟩ = some (.int .i64 c)) (hz : w.frozen? ⟨g, 0, none⟩ = false) (h0 : 0 ≤ c) (h1 : c ≤ 1000000000) :
    Calls Tryz.prog 167 #[.pointer (some ⟨g, 0, none⟩), .int .i64 1] w fun e w' => e = .returned (.int .i64 (c + 1)) ∧ w' = w.setCell ⟨g, 0, none⟩ (.int .i64 (c + 1)) := by
  have hl := add0_run hc hz h0 h1
  go_enter Tryz.func167, Tryz.ntmps167
  go_wp2
  go_ret
  exact ⟨rfl, rfl⟩
set_option maxRecDepth 100000 in
theorem counterAdd_any {w : World} {g : Nat} {c : Int} (hg : w.heap[g]? = some (.cells #[.int .i64 c] 189 (0, 0))) (h0 : 0 ≤ c) (h1 : c ≤ 1000000000) :
    Calls Tryz.prog 168 #[.pointer (some ⟨g, 0, none⟩), .int .i64 1] w fun e w' => e = .returned (.int .i64 (c + 1)) ∧ w'.heap[g]? = some (.cells #[.int .i64 (c + 1)] 189 (0, 0)) ∧ w.grownBy w' (some g) := by
  have hc : w.cell? ⟨g, 0, none⟩ = some (.int .i64 c) := (cell_of_row _ _ 0 _ _ _ hg).trans rfl
  have hz : w.frozen? ⟨g, 0, none⟩ = false := by simp [World.frozen?, hg]
  have HG : Hid _ := hg
  have hws : IntKind.i64.wrap (c + 1) = c + 1 := IntWalk.i64_in _ (by omega)
  clear hg
  go_enter Tryz.func168, Tryz.ntmps168
  go_wp2_with fail
  go_at_call 167
  refine (add0_any hc hz h0 h1).mono ?_
  rintro e w2 ⟨rfl, rfl⟩
  go_wp2
  go_ret
  exact ⟨rfl, by rw [heap_setCell_same w g 0 _ _ _ HG.out]; simp, setCell_grown w g 0 _⟩

end Go.Proofs.YtfimfbdlegookaaGreatDoor

/-! marlaw5: an operation of both file systems, in plain Lean. Conditions: as each theorem states. -/
namespace Go.Proofs.YtfimfbdlegookaaGreatDoor
open Go Go.RowKit

structure Opn where
  (kind mode keep torn : Int)
  (path dest data : B8)
  (plan : List Ev)
structure OpOk (o : Opn) : Prop where
  path : o.path.length ≤ 400
  dest : o.dest.length ≤ 400
  few : o.plan.length ≤ 60
  ev : ∀ e ∈ o.plan, I64 e.keep ∧ I64 e.torn ∧ e.path.length ≤ 400
  keep : I64 o.keep
  torn : I64 o.torn
def stepM (m : Fs) (o : Opn) : Fs :=
  if o.kind = 0 then (createM m o.path o.mode o.data).1
  else if o.kind = 1 then (writeM m o.path o.mode o.data).1
  else if o.kind = 2 then (moveM m o.path o.dest false).1
  else if o.kind = 3 then (moveM m o.path o.dest true).1
  else if o.kind = 4 then (removeM m o.path).1
  else if o.kind = 5 then (syncM m).1
  else if o.kind = 6 then (readM m o.path).1
  else if o.kind = 7 then (listM m o.path).1
  else if o.kind = 8 then (userWrite m o.path o.mode o.data).1
  else if o.kind = 9 then (userRemove m o.path).1
  else if o.kind = 10 then crash m o.keep o.torn
  else if o.kind = 11 then rebootM m
  else if o.kind = 12 then planM m o.plan
  else m

/-! ### What an operation leaves, in numbers -/
theorem call_leftN {m : Fs} (h : OkM m) {N : Nat} (hn : m.plan.length ≤ N) : Left m (callM m).1 N ∧ (callM m).1.calls = m.calls + 1 := by
  obtain ⟨x, hx, he⟩ := call_mid h
  rw [he]
  exact ⟨⟨hx.ok, by have := hx.time; omega, hx.time0, hx.plan, hx.room⟩, hx.calls⟩
theorem left_putN {m : Fs} {path : B8} {mode : Int} {data : B8} {only : Bool} (h : OkM m) {N : Nat} (hn : m.plan.length ≤ N) : Left m (putM (callM m) path mode data only).1 (N + 1) := by
  have hc := (call_leftN h hn).1
  unfold putM
  split
  · exact hc.mono (by omega)
  · split
    · exact hc.mono (by omega)
    · rename_i hw
      have hw0 := wrong_zero (by simpa using hw)
      split
      · exact hc.mono (by omega)
      · exact hc.trans (left_puts hc.ok hw0.1 hw0.2.2.2)
theorem left_moveN {m : Fs} {s d : B8} {fresh : Bool} (h : OkM m) {N : Nat} (hn : m.plan.length ≤ N) : Left m (moveM m s d fresh).1 (N + 1) := by
  have hc := (call_leftN h hn).1
  unfold moveM mvM
  split
  · exact hc.mono (by omega)
  · split
    · exact hc.mono (by omega)
    · rename_i hpb
      split
      · exact hc.mono (by omega)
      · rename_i hs
        split
        · exact hc.mono (by omega)
        · split
          · exact hc.mono (by omega)
          · rename_i hne
            split
            · exact hc.mono (by omega)
            · refine hc.trans (left_does hc.ok ?_ (fun s' d' e => ?_))
              · simp only [not_or, Bool.not_eq_false] at hpb
                exact ⟨hpb.1, hpb.2, hne⟩
              · cases e
                cases hl : look (callM m).1.now s with
                | none => rw [hl] at hs; simp at hs
                | some f => rfl
theorem read_fst (m : Fs) (path : B8) : (readM m path).1 = (callM m).1 := by
  unfold readM
  split
  · rfl
  · split
    · rfl
    · split <;> rfl
/-- What holds of a file system behind n operations. -/
structure Good (n : Nat) (m : Fs) : Prop where
  ok : OkM m
  plan : PlanOk m
  few : m.plan.length ≤ 60
  time : m.time ≤ 400 * n
  calls : m.calls ≤ 500 * n
  room0 : 0 ≤ m.room
  room1 : m.room ≤ 1073741824
theorem Good.left {n : Nat} {m m' : Fs} (h : Good n m) (hl : Left m m' 61) (hc : m'.calls ≤ m.calls + 1) : Good (n + 1) m' :=
  ⟨hl.ok, ⟨by rw [hl.plan]; exact h.plan.len, by rw [hl.plan]; exact h.plan.ev⟩, by rw [hl.plan]; exact h.few, by have := hl.time; have := h.time; omega, by have := h.calls; omega, by rw [hl.room]; exact h.room0, by rw [hl.room]; exact h.room1⟩

theorem left_hap {m : Fs} (h : OkM m) (e : Ev) : Left m (hapM m e) 1 ∧ (hapM m e).calls = m.calls :=
  ⟨⟨ok_hap h e, (hap_time m e).2, (hap_time m e).1, (hap_plan m e).1, (hap_plan m e).2.2⟩, (hap_plan m e).2.1⟩
theorem put_calls (m : Fs) (path : B8) (mode : Int) (data : B8) (only : Bool) : (putM (callM m) path mode data only).1.calls = (callM m).1.calls := by
  unfold putM
  split
  · rfl
  · split
    · rfl
    · split
      · rfl
      · unfold putsM
        split
        · rfl
        · split <;> rfl
theorem move_calls (m : Fs) (s d : B8) (fresh : Bool) : (moveM m s d fresh).1.calls = (callM m).1.calls := by
  unfold moveM mvM
  split
  · rfl
  · split
    · rfl
    · split
      · rfl
      · split
        · rfl
        · split
          · rfl
          · split <;> rfl
theorem planM_ok {m : Fs} (h : OkM m) (L : List Ev) : OkM (planM m L) := h.same rfl rfl rfl h.lusers (Nat.le_refl _)
theorem good_plan {n : Nat} {m : Fs} (h : Good n m) {L : List Ev} (hl : L.length ≤ 60) (he : ∀ e ∈ L, I64 e.keep ∧ I64 e.torn ∧ e.path.length ≤ 400) : Good n (planM m L) := by
  have hf : (planM m L).plan.length ≤ L.length := List.length_filter_le _ _
  exact ⟨planM_ok h.ok L, ⟨by omega, fun e hm => he e (List.mem_filter.1 hm).1⟩, by omega, h.time, h.calls, h.room0, h.room1⟩
theorem Good.mono {n k : Nat} {m : Fs} (h : Good n m) (hk : n ≤ k) : Good k m := ⟨h.ok, h.plan, h.few, by have := h.time; omega, by have := h.calls; omega, h.room0, h.room1⟩
end Go.Proofs.YtfimfbdlegookaaGreatDoor

/-! What holds of the files behind any operations, crashes among them: no file under another one, modes, times, the room: in plain Lean. Conditions: as each theorem states. -/
namespace Go.Proofs.YtfimfbdlegookaaGreatDoor
open Go Go.RowKit

/-! ### Bytes of files -/
theorem usedF_ins (x : B8 × Fi) : ∀ l : Files, usedF (insF x l) = x.2.data.length + usedF l
  | [] => by simp [insF, usedF]
  | y :: r => by
    unfold insF
    split
    · simp [usedF]
    · have := usedF_ins x r
      simp only [usedF, List.map_cons, List.sum_cons] at *
      omega
theorem delF_none {l : Files} {p : B8} (h : ∀ e ∈ l, e.1 ≠ p) : delF l p = l := List.filter_eq_self.2 (fun e he => by simpa using h e he)
theorem usedF_del {l : Files} (h : Rising l) (p : B8) : usedF (delF l p) + oldLen l p = usedF l := by
  induction l with
  | nil => rfl
  | cons y r ih =>
    obtain ⟨h1, h2⟩ := List.pairwise_cons.1 h
    have ih := ih h2
    by_cases hy : y.1 = p
    · have hr : delF r p = r := delF_none (fun e he => by rw [← hy]; exact (ltB_ne (h1 e he)).symm)
      have e1 : delF (y :: r) p = r := by
        unfold delF at *
        rw [List.filter_cons, hr]
        simp [hy]
      have e2 : oldLen (y :: r) p = y.2.data.length := by unfold oldLen look; simp [hy]
      rw [e1, e2]
      simp only [usedF, List.map_cons, List.sum_cons]
      omega
    · have e1 : delF (y :: r) p = y :: delF r p := by unfold delF; rw [List.filter_cons]; simp [hy]
      have e2 : oldLen (y :: r) p = oldLen r p := by unfold oldLen look; simp [hy]
      rw [e1, e2]
      simp only [usedF, List.map_cons, List.sum_cons] at *
      omega
theorem usedF_put {l : Files} (h : Rising l) (p : B8) (f : Fi) : usedF (putF l p f) + oldLen l p = usedF l + f.data.length := by
  have h1 := usedF_ins (p, f) (delF l p)
  have h2 := usedF_del h p
  unfold putF
  simp only at h1
  omega
theorem mem_put {l : Files} {p : B8} {f : Fi} {e : B8 × Fi} : e ∈ putF l p f ↔ e = (p, f) ∨ (e ∈ l ∧ e.1 ≠ p) := by
  unfold putF
  rw [mem_insF]
  simp [delF]
theorem mem_del {l : Files} {p : B8} {e : B8 × Fi} : e ∈ delF l p ↔ e ∈ l ∧ e.1 ≠ p := by simp [delF]

/-! ### Paths -/
theorem not_under_self (p : B8) : isUnder p p = false := by
  cases h : isUnder p p with
  | false => rfl
  | true =>
    obtain ⟨r, hr⟩ := (under_iff p p).1 h
    have := congrArg List.length hr
    simp at this
theorem may_spec {l : Files} {p but : B8} (h : mayF l p but = true) : ∀ e ∈ l, e.1 ≠ but → isUnder e.1 p = false ∧ isUnder p e.1 = false := by
  intro e he hb
  unfold mayF at h
  simp only [Bool.not_eq_true', List.any_eq_false] at h
  have := h e he
  simpa [hb] using this

/-- Files as they are to be: b: is the room to be kept? t: no file is younger. -/
structure Fine (r : Int) (b : Prop) (t : Nat) (l : Files) : Prop where
  rise : Rising l
  path : ∀ e ∈ l, pathB e.1 = true
  tree : ∀ x ∈ l, ∀ y ∈ l, isUnder x.1 y.1 = false
  mode : ∀ e ∈ l, 1 ≤ e.2.mode ∧ e.2.mode ≤ 3
  time : ∀ e ∈ l, 0 ≤ e.2.time ∧ e.2.time ≤ t
  used : b → (usedF l : Int) ≤ r
theorem Fine.mono {r : Int} {b b' : Prop} {t t' : Nat} {l : Files} (h : Fine r b t l) (hb : b' → b) (ht : t ≤ t') : Fine r b' t' l :=
  ⟨h.rise, h.path, h.tree, h.mode, fun e he => by have := h.time e he; omega, fun hb' => h.used (hb hb')⟩
theorem Fine.nil {r : Int} {b : Prop} {t : Nat} (hr : 0 ≤ r) : Fine r b t [] :=
  ⟨List.Pairwise.nil, fun e he => (by cases he), fun e he => (by cases he), fun e he => (by cases he), fun e he => (by cases he), fun _ => (by simpa [usedF] using hr)⟩
theorem Fine.put {r : Int} {b : Prop} {t : Nat} {l : Files} (h : Fine r b t l) {p : B8} {f : Fi} (hp : pathB p = true) (hm : 1 ≤ f.mode ∧ f.mode ≤ 3) (ht : 0 ≤ f.time ∧ f.time ≤ t) (hmay : look l p = none → mayF l p [] = true)
    (hu : b → (f.data.length : Int) ≤ r - usedF l + oldLen l p) : Fine r b t (putF l p f) := by
  have hmem : ∀ e ∈ putF l p f, e = (p, f) ∨ (e ∈ l ∧ e.1 ≠ p) := fun e he => mem_put.1 he
  have hno : ∀ e ∈ l, isUnder e.1 p = false ∧ isUnder p e.1 = false := by
    intro e he
    cases hl : look l p with
    | none => exact may_spec (hmay hl) e he (path_ne (h.path e he))
    | some f0 => exact ⟨h.tree e he _ (look_mem hl), h.tree _ (look_mem hl) e he⟩
  refine ⟨h.rise.put p f, fun e he => ?_, fun x hx y hy => ?_, fun e he => ?_, fun e he => ?_, fun hb => ?_⟩
  · rcases hmem e he with rfl | he
    · exact hp
    · exact h.path e he.1
  · rcases hmem x hx with rfl | hx <;> rcases hmem y hy with rfl | hy
    · exact not_under_self p
    · exact (hno y hy.1).2
    · exact (hno x hx.1).1
    · exact h.tree x hx.1 y hy.1
  · rcases hmem e he with rfl | he
    · exact hm
    · exact h.mode e he.1
  · rcases hmem e he with rfl | he
    · exact ht
    · exact h.time e he.1
  · have := usedF_put h.rise p f
    have := hu hb
    omega
theorem Fine.del {r : Int} {b : Prop} {t : Nat} {l : Files} (h : Fine r b t l) (p : B8) : Fine r b t (delF l p) := by
  have hmem : ∀ e ∈ delF l p, e ∈ l := fun e he => (mem_del.1 he).1
  refine ⟨h.rise.del p, fun e he => h.path e (hmem e he), fun x hx y hy => h.tree x (hmem x hx) y (hmem y hy), fun e he => h.mode e (hmem e he), fun e he => h.time e (hmem e he), fun hb => ?_⟩
  have := usedF_del h.rise p
  have := h.used hb
  omega
theorem Fine.mv {r : Int} {b : Prop} {t : Nat} {l : Files} (h : Fine r b t l) {s d : B8} {x : Fi} (hs : look l s = some x) (hd : pathB d = true) (hmay : look l d = none → mayF l d s = true) : Fine r b t (putF (delF l s) d x) := by
  have hmem : ∀ e ∈ putF (delF l s) d x, e = (d, x) ∨ (e ∈ l ∧ e.1 ≠ s) := fun e he => (mem_put.1 he).imp id (fun h => mem_del.1 h.1)
  have hx := look_mem hs
  have hno : ∀ e ∈ l, e.1 ≠ s → isUnder e.1 d = false ∧ isUnder d e.1 = false := by
    intro e he hne
    cases hl : look l d with
    | none => exact may_spec (hmay hl) e he hne
    | some f0 => exact ⟨h.tree e he _ (look_mem hl), h.tree _ (look_mem hl) e he⟩
  refine ⟨(h.rise.del s).put d x, fun e he => ?_, fun x hx y hy => ?_, fun e he => ?_, fun e he => ?_, fun hb => ?_⟩
  · rcases hmem e he with rfl | he
    · exact hd
    · exact h.path e he.1
  · rcases hmem x hx with rfl | hx <;> rcases hmem y hy with rfl | hy
    · exact not_under_self d
    · exact (hno y hy.1 hy.2).2
    · exact (hno x hx.1 hx.2).1
    · exact h.tree x hx.1 y hy.1
  · rcases hmem e he with rfl | he
    · exact h.mode (s, x) hx
    · exact h.mode e he.1
  · rcases hmem e he with rfl | he
    · exact h.time (s, x) hx
    · exact h.time e he.1
  · have h1 := usedF_put (h.rise.del s) d x
    have h2 := usedF_del h.rise s
    have h3 := h.used hb
    have h4 : oldLen l s = x.data.length := by unfold oldLen; rw [hs]
    omega

/-! ### At all times -/
def FineM (m : Fs) : Prop := ∀ k, Fine m.room (m.users = []) m.time ((m.pend.take k).foldl ap m.sure)
theorem FineM.now {m : Fs} (h : FineM m) (hok : OkM m) : Fine m.room (m.users = []) m.time m.now := by
  have := h m.pend.length
  rwa [List.take_length, hok.fold] at this
theorem FineM.same {m m' : Fs} (h : FineM m) (h1 : m'.sure = m.sure) (h2 : m'.pend = m.pend) (h3 : m'.room = m.room) (h4 : m'.users = m.users) (h5 : m'.time = m.time) : FineM m' := by
  intro k
  rw [h1, h2, h3, h4, h5]
  exact h k
/-- A file system behind operations. -/
def playM (room : Int) (l : List Opn) : Fs := l.foldl stepM (newM room)
end Go.Proofs.YtfimfbdlegookaaGreatDoor

/-! Calls without events, crashes, users: what each leaves; what a crash behind them leaves; moves, failing calls: in plain Lean. Conditions: as each theorem states. -/
namespace Go.Proofs.YtfimfbdlegookaaGreatDoor
open Go Go.RowKit

/-! ### Finds behind changes -/
theorem find_ins (p q : B8) (f : Fi) (hne : q ≠ p) : ∀ r : Files, (insF (q, f) r).find? (fun e => e.1 == p) = r.find? (fun e => e.1 == p)
  | [] => by simp [insF, hne]
  | y :: r => by
    unfold insF
    split
    · have hq : (q == p) = false := by simpa using hne
      rw [List.find?_cons]
      simp only [hq]
    · rw [List.find?_cons, List.find?_cons, find_ins p q f hne r]
theorem look_delF_ne {l : Files} {p q : B8} (hne : q ≠ p) : look (delF l q) p = look l p := by
  unfold look delF
  rw [List.find?_filter]
  congr 2
  funext e
  by_cases h : e.1 = p
  · simp [h, Ne.symm hne]
  · simp [h]
theorem look_putF_ne {l : Files} {p q : B8} {f : Fi} (hne : q ≠ p) : look (putF l q f) p = look l p := by
  have h1 := look_delF_ne (l := l) hne
  unfold putF
  rw [← h1]
  unfold look
  rw [find_ins p q f hne]
/-- A change that does not touch a path. -/
def Away (p : B8) : Ch → Prop
  | .put q _ => q ≠ p
  | .mv s d => s ≠ p ∧ d ≠ p
  | .del q => q ≠ p
/-! ### Calls with nothing planned -/
/-- A path that stays as it is. -/
structure Stays (p : B8) (v : Option Fi) (m : Fs) : Prop where
  plan : m.plan = []
  down : m.down = false
  all : ∀ k, look ((m.pend.take k).foldl ap m.sure) p = v
  away : ∀ c ∈ m.pend, Away p c
theorem Stays.now {p : B8} {v : Option Fi} {m : Fs} (hok : OkM m) (h : Stays p v m) : look m.now p = v := by
  have := h.all m.pend.length
  rwa [List.take_length, hok.fold] at this
/-- Calls but a sync: nothing new is durable. -/
structure Kept (F : Files) (m : Fs) : Prop where
  plan : m.plan = []
  down : m.down = false
  sure : m.sure = F
/-! ### A move -/
end Go.Proofs.YtfimfbdlegookaaGreatDoor

/-! Names for commits, over a file system: what each call does, in plain Lean. Conditions: as each theorem states. -/
namespace Go.Proofs.YtfimfbdlegookaaGreatDoor
open Go Go.RowKit

def lockD : B8 := [115, 47, 108]
def placeD : B8 := [115, 47, 114]
def lockP (n : B8) : B8 := [115, 47, 108, 47] ++ n
def placeP (n : B8) : B8 := [115, 47, 114, 47] ++ n
def lineM (id : B8) : B8 := id ++ [10]
/-- A file is read: what the program makes of it. -/
def expectE (x : Fi × Int) (old : B8) : Int :=
  if x.2 = 7 then (if old = [] then 0 else 13) else if x.2 ≠ 0 then x.2 else if old = [] ∨ x.1.data ≠ lineM old then 13 else 0
def expectM (m : Fs) (name old : B8) : Fs × Int := ((readM m (placeP name)).1, expectE (readM m (placeP name)).2 old)
def setEnd (m : Fs) (name : B8) : Fs × Int :=
  if (moveM m (lockP name) (placeP name) false).2 ≠ 0 then moveM m (lockP name) (placeP name) false else syncM (moveM m (lockP name) (placeP name) false).1
def setMid (x : Fs × Int) (name : B8) : Fs × Int :=
  if (if x.2 = 0 then syncM x.1 else x).2 ≠ 0 then ((removeM (if x.2 = 0 then syncM x.1 else x).1 (lockP name)).1, (if x.2 = 0 then syncM x.1 else x).2)
  else setEnd (if x.2 = 0 then syncM x.1 else x).1 name
def setM (m : Fs) (name old next : B8) : Fs × Int :=
  if nameB name = false then (m, 6) else if validB next = false ∨ (old ≠ [] ∧ validB old = false) then (m, 1)
  else if (createM m (lockP name) 1 (lineM next)).2 ≠ 0 then ((createM m (lockP name) 1 (lineM next)).1, if (createM m (lockP name) 1 (lineM next)).2 = 8 then 13 else (createM m (lockP name) 1 (lineM next)).2)
  else setMid (expectM (createM m (lockP name) 1 (lineM next)).1 name old) name
def deleteM (m : Fs) (name old : B8) : Fs × Int :=
  if nameB name = false then (m, 6) else if validB old = false then (m, 1)
  else if (readM m (placeP name)).2.2 ≠ 0 then ((readM m (placeP name)).1, (readM m (placeP name)).2.2)
  else if (readM m (placeP name)).2.1.data ≠ lineM old then ((readM m (placeP name)).1, 13)
  else if (removeM (readM m (placeP name)).1 (placeP name)).2 ≠ 0 then removeM (readM m (placeP name)).1 (placeP name)
  else syncM (removeM (readM m (placeP name)).1 (placeP name)).1
def getE (x : Fi × Int) : B8 × Int :=
  if x.2 ≠ 0 then ([], x.2) else if validB (Lib.trimSuffix x.1.data [10]) = false ∨ lineM (Lib.trimSuffix x.1.data [10]) ≠ x.1.data then ([], 4) else (Lib.trimSuffix x.1.data [10], 0)
def getM (m : Fs) (name : B8) : Fs × B8 × Int := if nameB name = false then (m, [], 6) else ((readM m (placeP name)).1, getE (readM m (placeP name)).2)
def lastL (l : List B8) (dir : B8) : List B8 := (l.map fun p => Lib.trimPrefix p (dir ++ [47])).filter nameB
def refsM (m : Fs) : Fs × List B8 × Int := ((listM m placeD).1, lastL (listM m placeD).2.1 placeD, (listM m placeD).2.2)
def dropsM (m : Fs) : List B8 → Fs × Int
  | [] => (m, 0)
  | n :: l => if (removeM m (lockP n)).2 ≠ 0 then removeM m (lockP n) else dropsM (removeM m (lockP n)).1 l
def unlockM (m : Fs) : Fs × Int × Int :=
  if (listM m lockD).2.2 ≠ 0 then ((listM m lockD).1, 0, (listM m lockD).2.2)
  else if (dropsM (listM m lockD).1 (lastL (listM m lockD).2.1 lockD)).2 ≠ 0 then ((dropsM (listM m lockD).1 (lastL (listM m lockD).2.1 lockD)).1, 0, (dropsM (listM m lockD).1 (lastL (listM m lockD).2.1 lockD)).2)
  else ((dropsM (listM m lockD).1 (lastL (listM m lockD).2.1 lockD)).1, ((lastL (listM m lockD).2.1 lockD).length : Int), 0)

theorem read_len {m : Fs} {p : B8} (h : OkM m) (hp : PlanOk m) : (readM m p).2.1.data.length ≤ 20000 := by
  have hok := (call_left h hp).1.ok
  have hz : zeroFi.data.length ≤ 20000 := Nat.zero_le _
  unfold readM
  split
  · exact hz
  · split
    · exact hz
    · split
      · rename_i f hl
        obtain ⟨e, he, rfl⟩ := Option.map_eq_some_iff.1 hl
        exact (hok.dnow e (List.mem_of_find?_eq_some he)).2
      · exact hz
/-! ### What each leaves, in numbers -/
theorem good_write {n : Nat} {m : Fs} (h : Good n m) (path : B8) (mode : Int) (data : B8) : Good (n + 1) (writeM m path mode data).1 :=
  h.left (left_putN h.ok h.few) (by have e1 : (writeM m path mode data).1.calls = _ := put_calls m _ _ _ _; have e2 := (call_leftN h.ok h.few).2; omega)
theorem good_move {n : Nat} {m : Fs} (h : Good n m) (s d : B8) (fresh : Bool) : Good (n + 1) (moveM m s d fresh).1 :=
  h.left (left_moveN h.ok h.few) (by rw [move_calls]; have e2 := (call_leftN h.ok h.few).2; omega)
theorem good_call {n : Nat} {m : Fs} (h : Good n m) : Good (n + 1) (callM m).1 :=
  h.left ((call_leftN h.ok h.few).1.mono (by omega)) (by have e2 := (call_leftN h.ok h.few).2; omega)
theorem good_read {n : Nat} {m : Fs} (h : Good n m) (p : B8) : Good (n + 1) (readM m p).1 := by rw [read_fst]; exact good_call h
end Go.Proofs.YtfimfbdlegookaaGreatDoor

/-! refs: line, place, expected, Get, last. Conditions: as each theorem states. -/
namespace Go.Proofs.YtfimfbdlegookaaGreatDoor
open Go Go.RowKit

end Go.Proofs.YtfimfbdlegookaaGreatDoor

/-! refs: Get, Delete, Set, last, List. Conditions: as each theorem states. -/
namespace Go.Proofs.YtfimfbdlegookaaGreatDoor
open Go Go.RowKit

end Go.Proofs.YtfimfbdlegookaaGreatDoor

/-! refs: last, List, Delete, Set. Conditions: as each theorem states. -/
namespace Go.Proofs.YtfimfbdlegookaaGreatDoor
open Go Go.RowKit

theorem trim_len (s p : B8) : (Lib.trimPrefix s p).length ≤ s.length := by
  unfold Lib.trimPrefix
  split
  · rw [List.length_drop]; omega
  · exact Nat.le_refl _

theorem list_short {m : Fs} {dir : B8} (h : OkM m) (hp : PlanOk m) : ∀ s ∈ (listM m dir).2.1, s.length ≤ 200 := by
  have hok := (call_left h hp).1.ok
  have hall : ∀ s ∈ pathsL (callM m).1.now, s.length ≤ 200 := fun s hs => by
    obtain ⟨e, he, rfl⟩ := List.mem_map.1 hs
    exact path_short (hok.dnow e he).1
  unfold listM
  intro s hs
  split at hs
  · cases hs
  · split at hs
    · exact hall s hs
    · split at hs
      · cases hs
      · exact hall s (List.mem_filter.1 hs).1
theorem list_len {m : Fs} {dir : B8} (h : OkM m) (hp : PlanOk m) (ht : m.time ≤ 700000) : (listM m dir).2.1.length ≤ 701000 := by
  have hl := (call_left h hp).1
  have hn := hl.ok.lnow
  have ht2 := hl.time
  have hall : (pathsL (callM m).1.now).length ≤ 701000 := by unfold pathsL; rw [List.length_map]; omega
  unfold listM
  split
  · exact Nat.zero_le _
  · split
    · exact hall
    · split
      · exact Nat.zero_le _
      · exact Nat.le_trans (List.length_filter_le _ _) hall

theorem env_lt' {w0 : World} (hE : Env w0) : 2 < w0.heap.size := by
  obtain ⟨m, hm⟩ := hE.maxl
  exact World.block_lt_of_cell? _ _ hm
theorem FsPost.fin {S O R : Nat → Prop} {w w' : World} {p : Value} {m m' : Fs} (h : FsIn S O R w p m) (hp : FsPost S O R w p m' w') {n : Nat} (hg : Good n m') (hn : n ≤ 1000) : FsIn S (Nw O w w') (Nw R w w') w' p m' := by
  have hs := hp.fr.size
  exact ⟨h.env.fr hp.fr h.noG, hp.fs, hg.ok, hg.plan, by have := hg.time; omega, by have := hg.calls; omega,
    fun k hk e => by
      rcases hk with hk | hk
      · exact h.noG k hk e
      · have := env_lt' h.env; omega,
    fun k hk => ⟨fun ho => by
      rcases ho with ho | ho
      · exact (h.apart k hk).1 ho
      · have := (h.apart k hk).2; omega, by have := (h.apart k hk).2; omega⟩,
    fun k hk => by
      rcases hk with hk | hk
      · have := h.low k hk; omega
      · exact hk.2, hg.room0, hg.room1⟩

end Go.Proofs.YtfimfbdlegookaaGreatDoor

/-! refs: Delete, Set, Unlock. Conditions: as each theorem states. -/
namespace Go.Proofs.YtfimfbdlegookaaGreatDoor
open Go Go.RowKit

/-- A file system behind some calls of a walk that began in w. -/
structure At (S O R : Nat → Prop) (w : World) (p : Value) (m : Fs) (n : Nat) (w1 : World) : Prop where
  first : ∃ m0, FsIn S O R w p m0
  fin : FsIn S (Nw O w w1) (Nw R w w1) w1 p m
  post : FsPost S O R w p m w1
  good : Good n m
theorem At.start {S O R : Nat → Prop} {w : World} {p : Value} {m : Fs} {n : Nat} (h : FsIn S O R w p m) (hg : Good n m) (hn : n ≤ 1000) : At S O R w p m n w :=
  ⟨⟨_, h⟩, FsPost.fin h (FsPost.same h.fs (Ext.refl _)) hg hn, FsPost.same h.fs (Ext.refl _), hg⟩
theorem At.next {S O R : Nat → Prop} {w w1 w2 : World} {p : Value} {m m' : Fs} {n n' : Nat} (h : At S O R w p m n w1) (hp : FsPost S (Nw O w w1) (Nw R w w1) w1 p m' w2) (hg : Good n' m') (hn : n' ≤ 1000) : At S O R w p m' n' w2 := by
  obtain ⟨m0, h0⟩ := h.first
  exact ⟨⟨m0, h0⟩, FsPost.fin h0 (h.post.trans hp) hg hn, h.post.trans hp, hg⟩
theorem At.more {S O R : Nat → Prop} {w w1 w2 : World} {p : Value} {m : Fs} {n : Nat} (h : At S O R w p m n w1) (hx : Ext w1 w2) (hn : n ≤ 1000) : At S O R w p m n w2 := h.next (FsPost.same h.fin.fs hx) h.good hn

end Go.Proofs.YtfimfbdlegookaaGreatDoor
