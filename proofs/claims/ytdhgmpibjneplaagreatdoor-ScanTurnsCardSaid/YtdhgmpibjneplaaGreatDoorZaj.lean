/- A slice of bytes of the call's own that grows step by step inside a region that draws its order. Conditions: as each theorem states. -/
import Derived.Test.YtdhgmpibjneplaaGreatDoorZai
import Derived.Test.YtdhgmpibjneplaaGreatDoorZae
import Derived.Test.YtdhgmpibjneplaaGreatDoorZag
import Derived.Test.YtdhgmpibjneplaaGreatDoorZaa
import Derived.Test.YtdhgmpibjneplaaGreatDoorZab
import Derived.Test.YtdhgmpibjneplaaGreatDoorZah
import Derived.Deep.DeepCutAuto
import Derived.Lib.AppendStr

set_option linter.unusedVariables false
set_option linter.unusedSimpArgs false
set_option linter.unusedSectionVars false

/-! store: Open, place, read. Conditions: as each theorem states. -/
namespace Go.Proofs.YtdhgmpibjneplaaGreatDoor
open Go Go.RowKit
set_option linter.unusedVariables false
set_option linter.unusedSimpArgs false
set_option linter.unusedSectionVars false

/-- What a caller wants kept besides: blocks and what they hold. -/
structure KeptW where
  blk : Nat → Option Obj
def keptW [KW : Inhabited KeptW] : Nat → Option Obj := (default : KeptW).blk
variable [KW : Inhabited KeptW]
/-- A store over a file system, both of the call's own. -/
structure St (w0 : World) (S O : Nat → Prop) (w : World) (f : Value) (gs gc : Nat) (m : Fs) (n : Int) : Prop where
  one : One w0 S O w f m
  row : w.heap[gs]? = some (.cells #[f, .pointer (some ⟨gc, 0, none⟩)] 88 (0, 0))
  cnt : w.heap[gc]? = some (.cells #[.int .i64 n] 128 (0, 0))
  lo : w0.heap.size ≤ gs ∧ w0.heap.size ≤ gc ∧ gs ≠ gc
  out : ¬ O gs ∧ ¬ O gc ∧ ¬ S gs ∧ ¬ S gc
  kp : ∀ k o, keptW k = some o → w.heap[k]? = some o ∧ ¬ O k ∧ k ≠ gs ∧ k ≠ gc
section
variable {w0 w w' : World} {S O : Nat → Prop} {f : Value} {gs gc : Nat} {m m' : Fs} {n : Int}
theorem St.more (h : St w0 S O w f gs gc m n) (hx : Ext w w') : St w0 S O w' f gs gc m n := ⟨h.one.more hx, Ext.row hx h.row, Ext.row hx h.cnt, h.lo, h.out, fun k o hk => ⟨Ext.row hx (h.kp k o hk).1, (h.kp k o hk).2⟩⟩
theorem St.lt (h : St w0 S O w f gs gc m n) : gs < w.heap.size ∧ gc < w.heap.size := ⟨(Array.getElem?_eq_some_iff.1 h.row).1, (Array.getElem?_eq_some_iff.1 h.cnt).1⟩
theorem St.post (h : St w0 S O w f gs gc m n) (hp : FsPost S O (fun k => k < w.heap.size) w f m' w') : St w0 S (Nw O w w') w' f gs gc m' n := by
  have hl := h.lt
  refine ⟨h.one.post hp, hp.fr.row h.row h.out.1, hp.fr.row h.cnt h.out.2.1, h.lo, ⟨fun ho => ?_, fun ho => ?_, h.out.2.2⟩, fun k o hk => ?_⟩
  · rcases ho with ho | ho
    · exact h.out.1 ho
    · omega
  · rcases ho with ho | ho
    · exact h.out.2.1 ho
    · omega
  · obtain ⟨k1, k2, k3⟩ := h.kp k o hk
    have hlt := (Array.getElem?_eq_some_iff.1 k1).1
    refine ⟨hp.fr.row k1 k2, fun ho => ?_, k3⟩
    rcases ho with ho | ho
    · exact k2 ho
    · omega
end
theorem placeO_any (l : B8) (w : World) (hl : l.length ≤ 10000000) : Calls Tryz.prog 123 #[S8 l] w fun e w' => e = .returned (S8 (placeO l)) ∧ w' = w := by
  go_enter Tryz.func123, Tryz.ntmps123
  go_wp2
  go_ret
  exact ⟨rfl, rfl⟩
theorem alloc_size (w : World) (o : Obj) : (w.alloc o).heap.size = w.heap.size + 1 := Array.size_push ..
variable [Inhabited BaseW]
theorem St.count {w0 w w' : World} {S O : Nat → Prop} {f : Value} {gs gc : Nat} {m : Fs} {n k : Int} (h : St w0 S O w f gs gc m n) (hg : w'.heap[gc]? = some (.cells #[.int .i64 k] 128 (0, 0))) (hw : w.grownBy w' (some gc)) : St w0 S O w' f gs gc m k :=
  ⟨h.one.grown hw h.lo.2.1 h.out.2.1 h.out.2.2.2 (cells_u8 h.cnt (by kernel_rfl)), but_row hw h.row h.lo.2.2, hg, h.lo, h.out, fun k o hk => ⟨but_row hw (h.kp k o hk).1 (h.kp k o hk).2.2.2, (h.kp k o hk).2⟩⟩
set_option maxRecDepth 100000 in
theorem open_any {w0 w : World} {S O : Nat → Prop} {f : Value} {m : Fs} (h : One w0 S O w f m) (hkp : ∀ k, keptW k = none) :
    Calls Tryz.prog 12 #[f] w fun e w' => ∃ gs gc, e = .returned (.pointer (some ⟨gs, 0, none⟩)) ∧ St w0 S O w' f gs gc m 0 ∧ w'.heap.size = gs + 1 := by
  have H : Hid (One w0 S O w f m) := h
  obtain ⟨g, rfl⟩ : ∃ g, f = .pointer (some ⟨g, 0, none⟩) := by
    obtain ⟨g, gm, gd, vp, vl, vu, L, c0, hpe, -⟩ := h.fs
    exact ⟨g, hpe⟩
  clear h
  go_enter Tryz.func12, Tryz.ntmps12
  go_wp2_with fail
  go_at_call 37
  refine (newCounter_any w).mono ?_
  rintro e w1 ⟨rfl, hg1, hx1⟩
  have HG1 : Hid _ := hg1
  have HX1 : Hid (Ext w w1) := hx1
  clear hg1 hx1
  go_wp2
  go_ret
  have h1 := One.more H.out HX1.out
  have hx2 : Ext w1 (w1.alloc (.cells #[.pointer (some ⟨g, 0, none⟩), .pointer (some ⟨w.heap.size, 0, none⟩)] 88)) := (Ext.refl _).alloc _
  have hs := HX1.out.size
  have hlt := (Array.getElem?_eq_some_iff.1 HG1.out).1
  have hs0 := H.out.ext.size
  refine ⟨w1.heap.size, w.heap.size, rfl, ⟨h1.more hx2, alloc_at _ _, Ext.row hx2 HG1.out, ⟨by omega, hs0, by omega⟩, ⟨fun ho => ?_, fun ho => ?_, fun ho => ?_, fun ho => ?_⟩, fun k o hk => by rw [hkp] at hk; cases hk⟩, alloc_size _ _⟩
  · have := (H.out.lo _ ho).2; omega
  · have := (H.out.lo _ ho).2; omega
  · have := (H.out.loS _ ho).2; omega
  · have := (H.out.loS _ ho).2; omega

/-- A block of the call's own, apart from the store, is written. -/
theorem St.but {w0 w w' : World} {S O : Nat → Prop} {f : Value} {gs gc b : Nat} {m : Fs} {n : Int} (h : St w0 S O w f gs gc m n) (hw : w.grownBy w' (some b)) (hb : w0.heap.size ≤ b) (hO : ¬ O b) (hS : ¬ S b) (hu : ¬ IsU8 w b) (h1 : gs ≠ b) (h2 : gc ≠ b) (h3 : keptW b = none) : St w0 S O w' f gs gc m n :=
  ⟨h.one.grown hw hb hO hS hu, but_row hw h.row h1, but_row hw h.cnt h2, h.lo, h.out, fun k o hk => ⟨but_row hw (h.kp k o hk).1 (fun e => by rw [e, h3] at hk; cases hk), (h.kp k o hk).2⟩⟩
/-- read's second region: what the call (6), its parts (7, 8) and the new variable (10) have handed back. -/
structure RdJ (w0 w1 : World) (S O : Nat → Prop) (f : Value) (gs gc : Nat) (m m1 : Fs) (n : Int) (fx : Fi) (er : Int) (z6 z7 z8 z10 z11 : Option Value) (w : World) : Prop where
  base : St w0 S O w1 f gs gc m n
  pre : z6 = none → Ext w1 w
  post : ∀ u, z6 = some u → ∃ v O' R, u = .tuple #[fiV fx v, .int .i64 er] ∧ IsData R w v fx.data ∧ St w0 S O' w f gs gc m1 n ∧ KeepB w1 w ∧ ∀ b, w1.heap.size ≤ b → z10 = some (.pointer (some ⟨b, 0, none⟩)) → ¬ O' b
  n7 : z7 ≠ none → z7 = z6
  n8 : ∀ u, z8 = some u → ∃ q, z6 = some (.tuple #[u, q])
  bl : ∀ u, z10 = some u → ∃ b cs, u = .pointer (some ⟨b, 0, none⟩) ∧ w.heap[b]? = some (.cells cs 96 (0, 0)) ∧ cs.size = 3 ∧ w1.heap.size ≤ b
  fl : z11 ≠ none → ∃ v b, z8 = some (fiV fx v) ∧ z10 = some (.pointer (some ⟨b, 0, none⟩)) ∧ w.heap[b]? = some (.cells #[.int .i64 fx.mode, v, .int .i64 fx.time] 96 (0, 0))
section
variable {w0 w1 w w' : World} {S O : Nat → Prop} {f : Value} {gs gc : Nat} {m m1 : Fs} {n er : Int} {fx : Fi} {z6 z7 z8 z10 z11 : Option Value}
theorem RdJ.start (h : St w0 S O w1 f gs gc m n) (hx : Ext w1 w) : RdJ w0 w1 S O f gs gc m m1 n fx er none none none none none w :=
  ⟨h, fun _ => hx, fun u hu => (by cases hu), fun h => absurd rfl h, fun u hu => (by cases hu), fun u hu => (by cases hu), fun h => absurd rfl h⟩
theorem RdJ.st (h : RdJ w0 w1 S O f gs gc m m1 n fx er none z7 z8 z10 z11 w) : St w0 S O w f gs gc m n := h.base.more (h.pre rfl)
theorem RdJ.cell (h : RdJ w0 w1 S O f gs gc m m1 n fx er z6 z7 z8 z10 z11 w) : w.cell? ⟨gs, 0, none⟩ = some f := by
  cases hz : z6 with
  | none => rw [hz] at h; exact (cell_of_row _ _ 0 _ _ _ h.st.row).trans rfl
  | some u =>
    obtain ⟨v, O', R, -, -, hs, -⟩ := h.post u hz
    exact (cell_of_row _ _ 0 _ _ _ hs.row).trans rfl
theorem RdJ.low (h : RdJ w0 w1 S O f gs gc m m1 n fx er z6 z7 z8 z10 z11 w) (k : Nat) (hk : w1.heap.size ≤ k) : ¬ O k ∧ ¬ S k ∧ gs ≠ k ∧ gc ≠ k ∧ w0.heap.size ≤ k ∧ keptW k = none := by
  have h1 := h.base.lt
  have h2 := h.base.one.ext.size
  exact ⟨fun ho => by have := (h.base.one.lo _ ho).2; omega, fun ho => by have := (h.base.one.loS _ ho).2; omega, by omega, by omega, by omega, by
    cases hq : keptW k with
    | none => rfl
    | some o => have := (Array.getElem?_eq_some_iff.1 (h.base.kp k o hq).1).1; omega⟩
theorem RdJ.set10 (h : RdJ w0 w1 S O f gs gc m m1 n fx er z6 z7 z8 none z11 w) (cs : Array Value) (hc : cs.size = 3) : RdJ w0 w1 S O f gs gc m m1 n fx er z6 z7 z8 (some (.pointer (some ⟨w.heap.size, 0, none⟩))) z11 (w.alloc (.cells cs 96)) := by
  have hx : Ext w (w.alloc (.cells cs 96)) := (Ext.refl w).alloc _
  have hsz : w1.heap.size ≤ w.heap.size := by
    cases hz : z6 with
    | none => exact (h.pre hz).size
    | some u =>
      exact (h.post u hz).choose_spec.choose_spec.choose_spec.2.2.2.1.1
  refine ⟨h.base, fun hz => (h.pre hz).trans hx, fun u hu => ?_, h.n7, h.n8, fun u hu => ?_, fun h11 => (by obtain ⟨v, b, -, h10, -⟩ := h.fl h11; cases h10)⟩
  · obtain ⟨v, O', R, e, hd, hs, hz1, -⟩ := h.post u hu
    have hz2 := hx.size
    refine ⟨v, O', R, e, hd.ext hx, hs.more hx, hz1.trans (KeepB.of_ext hx), fun b hb he ho => ?_⟩
    cases he
    have := (hs.one.lo _ ho).2
    omega
  · cases hu
    exact ⟨_, cs, rfl, alloc_at _ _, hc, hsz⟩
theorem RdJ.set6 {v : Value} (h : RdJ w0 w1 S O f gs gc m m1 n fx er none z7 z8 z10 z11 w) (hp : FsPost S O (fun k => k < w.heap.size) w f m1 w') (hd : IsData (Nu w w') w' v fx.data) :
    RdJ w0 w1 S O f gs gc m m1 n fx er (some (.tuple #[fiV fx v, .int .i64 er])) z7 z8 z10 z11 w' := by
  have h7 : z7 = none := by
    cases hz : z7 with
    | none => rfl
    | some u => have := h.n7 (by rw [hz]; simp); rw [hz] at this; cases this
  have h8 : z8 = none := by
    cases hz : z8 with
    | none => rfl
    | some u => obtain ⟨q, hq⟩ := h.n8 u hz; cases hq
  subst h7; subst h8
  refine ⟨h.base, fun hz => (by cases hz), fun u hu => ?_, fun hz => absurd rfl hz, fun u hu => (by cases hu), fun u hu => ?_, fun h11 => (by obtain ⟨v, b, h8, -⟩ := h.fl h11; cases h8)⟩
  · cases hu
    refine ⟨v, _, _, rfl, hd, h.st.post hp, (KeepB.of_ext (h.pre rfl)).trans hp.fr.keep, fun b hb he ho => ?_⟩
    obtain ⟨b', cs, e, hrow, -, -⟩ := h.bl _ he
    cases e
    have hlt := (Array.getElem?_eq_some_iff.1 hrow).1
    rcases ho with ho | ho
    · exact (h.low _ hb).1 ho
    · omega
  · obtain ⟨b, cs, e, hrow, hc, hb⟩ := h.bl u hu
    exact ⟨b, cs, e, hp.fr.row hrow (h.low _ hb).1, hc, hb⟩
theorem RdJ.set7 {u : Value} (h : RdJ w0 w1 S O f gs gc m m1 n fx er z6 z7 z8 z10 z11 w) (hk : z6 = some u) : RdJ w0 w1 S O f gs gc m m1 n fx er z6 (some u) z8 z10 z11 w :=
  ⟨h.base, h.pre, h.post, fun _ => hk.symm, h.n8, h.bl, h.fl⟩
theorem RdJ.seven {u : Value} (h : RdJ w0 w1 S O f gs gc m m1 n fx er z6 z7 z8 z10 z11 w) (hk : z7 = some u) : ∃ v, u = .tuple #[fiV fx v, .int .i64 er] := by
  have h6 := h.n7 (by rw [hk]; simp)
  obtain ⟨v, O', R, e, -⟩ := h.post u (h6.symm.trans hk)
  exact ⟨v, e⟩
theorem RdJ.set8 {u q : Value} (h : RdJ w0 w1 S O f gs gc m m1 n fx er z6 z7 none z10 z11 w) (hk : z7 = some (.tuple #[u, q])) : RdJ w0 w1 S O f gs gc m m1 n fx er z6 z7 (some u) z10 z11 w :=
  ⟨h.base, h.pre, h.post, h.n7, fun x hx => (by cases hx; exact ⟨q, (h.n7 (by rw [hk]; simp)).symm.trans hk⟩), h.bl, fun h11 => (by obtain ⟨v, b, h8, -⟩ := h.fl h11; cases h8)⟩
theorem RdJ.mid {u8 u10 : Value} (h : RdJ w0 w1 S O f gs gc m m1 n fx er z6 z7 z8 z10 z11 w) (h8 : z8 = some u8) (h10 : z10 = some u10) : ∃ v b cs, u8 = fiV fx v ∧ u10 = .pointer (some ⟨b, 0, none⟩) ∧ w.heap[b]? = some (.cells cs 96 (0, 0)) ∧ cs.size = 3 ∧ v.oneCell' = true := by
  obtain ⟨q, hq⟩ := h.n8 _ h8
  obtain ⟨v, O', R, e, hd, -⟩ := h.post _ hq
  obtain ⟨b, cs, e10, hrow, hc, hb⟩ := h.bl _ h10
  simp only [Value.tuple.injEq, Array.mk.injEq, List.cons.injEq, and_true] at e
  obtain ⟨s1, t1, rfl, -⟩ := hd.bytes
  exact ⟨_, b, cs, e.1, e10, hrow, hc, rfl⟩
theorem RdJ.set11 {v x : Value} {b : Nat} {cs : Array Value} (h : RdJ w0 w1 S O f gs gc m m1 n fx er z6 z7 z8 z10 none w) (h8 : z8 = some (fiV fx v)) (h10 : z10 = some (.pointer (some ⟨b, 0, none⟩))) (hrow : w.heap[b]? = some (.cells cs 96 (0, 0)))
    (hg : w'.heap[b]? = some (.cells #[.int .i64 fx.mode, v, .int .i64 fx.time] 96 (0, 0))) (hw : w.grownBy w' (some b)) : RdJ w0 w1 S O f gs gc m m1 n fx er z6 z7 z8 z10 (some x) w' := by
  have hu : ¬ IsU8 w b := cells_u8 hrow (by kernel_rfl)
  have hs := hw.size
  obtain ⟨b', cs', e10, -, -, hb⟩ := h.bl _ h10
  cases e10
  have hl := h.low b hb
  refine ⟨h.base, fun hz => ?_, fun u hu6 => ?_, h.n7, h.n8, fun u hu10 => ?_, fun _ => ⟨v, b, h8, h10, hg⟩⟩
  · obtain ⟨q, hq⟩ := h.n8 _ h8
    rw [hz] at hq
    cases hq
  · obtain ⟨v', O', R, e, hd, hst, hz1, ho⟩ := h.post u hu6
    refine ⟨v', O', R, e, hd.keepR (grown_keepR hw hu), hst.but hw hl.2.2.2.2.1 (ho b hb h10) hl.2.1 hu hl.2.2.1 hl.2.2.2.1 hl.2.2.2.2.2, hz1.trans (KeepB.of_grown hw hrow (by kernel_rfl)), ho⟩
  · rw [h10] at hu10
    cases hu10
    exact ⟨b, _, rfl, hg, rfl, hb⟩
theorem RdJ.fin {u6 u7 u8 u10 u11 : Value} (h : RdJ w0 w1 S O f gs gc m m1 n fx er (some u6) (some u7) (some u8) (some u10) (some u11) w) : ∃ v O' b, u10 = .pointer (some ⟨b, 0, none⟩) ∧ KeepB w1 w ∧ (IsBytes w v fx.data ∧ TypB w v) ∧ St w0 S O' w f gs gc m1 n ∧ w.heap[b]? = some (.cells #[.int .i64 fx.mode, v, .int .i64 fx.time] 96 (0, 0)) := by
  obtain ⟨v', O', R, e, hd, hs, hk, -⟩ := h.post _ rfl
  obtain ⟨q, hq⟩ := h.n8 _ rfl
  obtain ⟨v, b, h8, h10, hrow⟩ := h.fl (by simp)
  cases h8
  cases h10
  cases hq
  simp only [Value.tuple.injEq, Array.mk.injEq, List.cons.injEq, and_true, fiV, Value.agg.injEq, true_and] at e
  obtain ⟨rfl, -⟩ := e
  exact ⟨_, O', b, rfl, hk, ⟨hd.bytes, hd.typed⟩, hs, hrow⟩
end
theorem size_file : (Tryz.prog.info? 96).map (·.size) = some 3 := by kernel_rfl
theorem rel_store_all {c : Prop} [Decidable c] {ev : Operand → Value} {R : Value → World → Prop} {o : Oper} {w : World} (ty : TypeId) (x y : Operand) {g : Nat} {vs : Array Value} {t : TypeId} {cur : Array Value} (hc : c) (ho : o.op = .store ty x y) (hx : ev x = .pointer (some ⟨g, 0, none⟩)) (hy : ev y = .agg vs)
    (h1 : ∀ v ∈ vs.toList, v.oneCell' = true) (hg : w.heap[g]? = some (.cells cur t (0, 0))) (hj : cur.size = vs.size) (hi : (Tryz.prog.info? ty).map (·.size) = some vs.size) (h : ∀ w', w'.heap[g]? = some (.cells vs t (0, 0)) → w.grownBy w' (some g) → R undef w') :
    if c then relUpon Tryz.prog R ((execOp ev o).run Tryz.prog w) else R undef w := by
  rw [if_pos hc]
  have hs := run_storeCells_at (P := Tryz.prog) g 0 t vs.toList 0 cur w hg (by simp [hj]) h1
  have hr : (storeVar ty ⟨g, 0, none⟩ (.agg vs)).run Tryz.prog w = .ok () (w.setRow g vs) := by
    cases hq : Tryz.prog.info? ty with
    | none => simp [hq] at hi
    | some i =>
      have hs1 : i.size = vs.size := by simpa [hq] using hi
      have hdr : cur.toList.drop vs.size = [] := List.drop_eq_nil_of_le (by simp [hj])
      simp only [Nat.add_zero, Array.length_toList, List.take_zero, List.nil_append, Nat.zero_add, hdr, List.append_nil, Array.toArray_toList] at hs
      simp [storeVar, sizeOf, typeInfo, hq, Value.cells, hs1, hs]
  unfold execOp
  simp only [ho, hx, hy, Instr.storeAt, Instr.sureAddr, Sem.run_bind, Sem.run_pure, Result.andThen_ok, hr]
  exact h _ (setRow_heap _ _ _ _ _ _ hg) (setRow_grown _ _ _)
set_option maxRecDepth 100000 in
set_option maxHeartbeats 2000000 in
theorem readT_any {w0 w : World} {S O : Nat → Prop} {f : Value} {gs gc : Nat} {m : Fs} {n : Int} {k : Nat} (id : B8) (h : St w0 S O w f gs gc m n) (hE : Env w0) (hg : Good k m) (hk : k ≤ 79900) (hn0 : 0 ≤ n) (hn1 : n ≤ 100000) (hid : id.length ≤ 100) :
    Calls Tryz.prog 119 #[.pointer (some ⟨gs, 0, none⟩), S8 id] w fun e w' => ∃ (v : Value) (O' : Nat → Prop), e = .returned (.tuple #[v, .int .i64 (readM m (placeO id)).2.2]) ∧ (IsBytes w' v (readM m (placeO id)).2.1.data ∧ TypB w' v) ∧ KeepB w w' ∧ St w0 S O' w' f gs gc (readM m (placeO id)).1 (n + 1) := by
  have H : Hid (St w0 S O w f gs gc m n) := h
  have HE : Hid (Env w0) := hE
  have HG : Hid (Good k m) := hg
  have hpl : (placeO id).length ≤ 400 := by unfold placeO; simp; omega
  have HPL : Hid _ := hpl
  obtain ⟨g, rfl⟩ : ∃ g, f = .pointer (some ⟨g, 0, none⟩) := by
    obtain ⟨g, gm, gd, vp, vl, vu, L, c0, hpe, -⟩ := h.one.fs
    exact ⟨g, hpe⟩
  have c1 : w.cell? ⟨gs, 1, none⟩ = some (.pointer (some ⟨gc, 0, none⟩)) := (cell_of_row _ _ 1 _ _ _ h.row).trans rfl
  obtain ⟨⟨m1, fx, er⟩, hr⟩ : ∃ q, readM m (placeO id) = q := ⟨_, rfl⟩
  have HR : Hid _ := hr
  rw [hr]
  clear h hE hg hpl hr
  go_enter Tryz.func119, Tryz.ntmps119
  go_wp2_with fail
  go_at_call 82
  refine (counterAdd_any H.out.cnt hn0 (by omega)).mono ?_
  rintro e w1 ⟨rfl, hc1, hw1⟩
  have H1 : Hid (St w0 S O w1 (.pointer (some ⟨g, 0, none⟩)) gs gc m (n + 1)) := St.count H.out hc1 hw1
  have d0 : w1.cell? ⟨gs, 0, none⟩ = some (.pointer (some ⟨g, 0, none⟩)) := (cell_of_row _ _ 0 _ _ _ H1.out.row).trans rfl
  have HK1 : Hid (KeepB w w1) := KeepB.of_grown hw1 H.out.cnt (by kernel_rfl)
  clear hc1 hw1 c1
  go_upto_region 2 with fail
  have hrd : ∀ w2, St w0 S O w2 (.pointer (some ⟨g, 0, none⟩)) gs gc m (n + 1) → Calls Tryz.prog 41 #[.pointer (some ⟨g, 0, none⟩), S8 (placeO id)] w2 fun e w' => (∃ v, e = .returned (.tuple #[fiV fx v, .int .i64 er]) ∧ IsData (Nu w2 w') w' v fx.data) ∧ FsPost S O (fun k => k < w2.heap.size) w2 (.pointer (some ⟨g, 0, none⟩)) m1 w' := fun w2 h2 => by
    have hq := read_any (placeO id) (One.fin h2.one HE.out HG.out (by omega)) HPL.out
    rw [HR.out] at hq
    exact hq
  have HRD : Hid _ := hrd
  clear hrd d0
  apply wp_region_inv 12 (fun z w' => RdJ w0 w1 S O (.pointer (some ⟨g, 0, none⟩)) gs gc m m1 (n + 1) fx er (z 6) (z 7) (z 8) (z 10) (z 11) w') [false, false, false, false, false, false, true, true, true, false, true, true] [_, _, _, .pointer (some ⟨g, 0, none⟩), _, S8 (placeO id), undef, undef, undef, .int .i64 er, undef, undef] [none, none, none, none, none, none, none, none, none, none, none, none] [[], [0], [1], [2], [], [4], [3, 5], [6], [7], [7], [], [8, 10]] (by kernel_rfl) (by kernel_rfl) rfl
  · exact RdJ.start H1.out ⟨rfl, rfl, rfl, Nat.le_refl _, fun _ _ => rfl⟩
  · simp (maxSteps := 1000000) only [oblI, stepI, knowsI, getP, mixP, List.getD_cons_zero, List.getD_cons_succ, Bool.false_eq_true, if_false, if_true, and_true, true_and, forall_const, Nat.zero_add, Nat.reduceAdd, List.take_succ_cons, List.take_zero, fillFrom, Act.put, List.setIfInBounds_toArray, List.set_cons_zero, List.set_cons_succ]
    refine ⟨?_, ?_, ?_, ?_, ?_, ?_, ?_, ?_, ?_, ?_, ?_, ?_⟩
    · intro xs z wq hj R hR
      have f0 := hj.cell
      go_simp
      exact hR _ _ hj rfl
    · intro xs z wq hj hk R hR
      have f0 := hj.cell
      go_simp
      exact hR _ _ hj rfl
    · intro xs z wq hj hk R hR
      have f0 := hj.cell
      go_simp
      exact hR _ _ hj rfl
    · intro xs z wq hj hk R hR
      have f0 := hj.cell
      go_simp
      exact hR _ _ hj rfl
    · intro xs z wq hj R hR
      have f0 := hj.cell
      go_simp
      exact hR _ _ hj rfl
    · intro xs z wq hj hk R hR
      go_simp
      exact (placeO_any id _ (by omega)).mono (by rintro e' w4 ⟨rfl, rfl⟩; exact ⟨_, rfl, hR _ _ hj rfl⟩)
    · intro xs z wq hj hz hk R hR
      obtain ⟨hk0, hk1⟩ := hk
      rw [hz] at hj
      go_simp
      exact (HRD.out _ hj.st).mono (by rintro e' w4 ⟨⟨v, rfl, hd⟩, hp⟩; exact ⟨_, rfl, hR _ _ (RdJ.set6 hj hp hd)⟩)
    · intro xs z wq hj hz hk R hR
      go_simp
      exact hR _ _ (RdJ.set7 hj hk)
    · intro xs z wq hj hz hk R hR
      rw [hz] at hj
      obtain ⟨v, hv⟩ := RdJ.seven hj hk
      rw [hv] at hk ⊢
      go_simp
      exact hR _ _ (RdJ.set8 hj hk)
    · intro xs z wq hj hk R hR
      obtain ⟨v, hv⟩ := RdJ.seven hj hk
      rw [hv]
      go_simp
      exact hR _ _ hj rfl
    · intro xs z wq hj hz R hR
      rw [hz] at hj
      go_simp
      exact hR _ _ (RdJ.set10 hj _ rfl)
    · intro xs z wq hj hz hk R hR
      obtain ⟨hk0, hk1⟩ := hk
      rw [hz] at hj
      obtain ⟨v, b, cs, e8, e10, hrow, hcs, h1v⟩ := RdJ.mid hj hk0 hk1
      rw [e8] at hk0
      rw [e10] at hk1
      apply rel_store_all 96 (.tmp 6) (.tmp 21) (g := b) (vs := #[.int .i64 fx.mode, v, .int .i64 fx.time]) (t := 96) (cur := cs)
      · rfl
      · rfl
      · exact e10
      · exact e8
      · intro u hu; simp at hu; rcases hu with rfl | rfl | rfl <;> first | exact h1v | rfl
      · exact hrow
      · exact hcs
      · exact size_file
      · intro w' hg hgr; exact hR _ _ (RdJ.set11 hj hk0 hk1 hrow hg hgr)
  intro xs w2 hj2 hk
  simp only [zAll, List.getD_cons_zero, List.getD_cons_succ, Bool.false_eq_true, if_false, if_true] at hj2
  simp only [heldI, Nat.zero_add, Nat.reduceAdd, and_true] at hk
  obtain ⟨q0, q1, q2, q3, q4, q5, q9⟩ := hk
  simp (maxSteps := 1000000) only [List.drop_succ_cons, List.drop_zero, Nat.zero_add, Nat.reduceAdd, List.take_succ_cons, List.take_zero, fillFrom, Act.put, List.setIfInBounds_toArray, List.set_cons_zero, List.set_cons_succ, q0, q1, q2, q3, q4, q5, q9]
  clear q0 q1 q2 q3 q4 q5 q9
  generalize xs 6 = x6 at *
  generalize xs 7 = x7 at *
  generalize xs 8 = x8 at *
  generalize xs 10 = x10 at *
  generalize xs 11 = x11 at *
  obtain ⟨v, O', b, e10, hk2, hd2, hs2, hrow2⟩ := RdJ.fin hj2
  have HK2 : Hid _ := HK1.out.trans hk2
  have HS2 : Hid _ := hs2
  have HD2 : Hid _ := hd2
  obtain ⟨c0, c1, c2⟩ := cellsAt3 hrow2
  clear hk2 hd2 hs2 hrow2
  subst e10
  go_wp2
  go_ret2
  exact ⟨_, _, rfl, HD2.out, HK2.out, HS2.out⟩

theorem readO_any {w0 w : World} {S O : Nat → Prop} {f : Value} {gs gc : Nat} {m : Fs} {n : Int} {k : Nat} (id : B8) (h : St w0 S O w f gs gc m n) (hE : Env w0) (hg : Good k m) (hk : k ≤ 79900) (hn0 : 0 ≤ n) (hn1 : n ≤ 100000) (hid : id.length ≤ 100) :
    Calls Tryz.prog 119 #[.pointer (some ⟨gs, 0, none⟩), S8 id] w fun e w' => ∃ (v : Value) (O' : Nat → Prop), e = .returned (.tuple #[v, .int .i64 (readM m (placeO id)).2.2]) ∧ IsBytes w' v (readM m (placeO id)).2.1.data ∧ KeepB w w' ∧ St w0 S O' w' f gs gc (readM m (placeO id)).1 (n + 1) := by
  refine (readT_any id h hE hg hk hn0 hn1 hid).mono ?_
  rintro e w' ⟨v, O', he, hd, hk, hs⟩
  exact ⟨v, O', he, hd.1, hk, hs⟩

end Go.Proofs.YtdhgmpibjneplaaGreatDoor

/-! marref5.apply: a change of a list of files. Conditions: at most 10000000 files; short paths. -/
namespace Go.Proofs.YtdhgmpibjneplaaGreatDoor
open Go Go.RowKit

/-- What a change hands back: a new list, or the one that it was given. -/
def NewOr (w : World) (v v' : Value) : Prop := ∀ k, v'.ownBlock = some k → v.ownBlock = some k ∨ w.heap.size ≤ k
end Go.Proofs.YtdhgmpibjneplaaGreatDoor

/-! marref5.FS: change: a change is done. Conditions: at most 10000000 files, changes, ticks. -/
namespace Go.Proofs.YtdhgmpibjneplaaGreatDoor
open Go Go.RowKit
variable [Inhabited BaseW]

section
variable {ops : Array Oper} {rest : List Oper} {o : Oper} {a : Act} {Q : Exit → Act → World → Prop} {w : World}
end

/-- A change, in its cells: its kind, two paths, a file. -/
theorem IsOp.shape {R : Nat → Prop} {w : World} {cs : List Value} {c : Ch} (h : IsOp R w cs c) : ∃ (kind : Int) (p q : B8) (mode time : Int) (a : Option Addr) (n cap : Nat), cs = [.int .i64 kind, S8 p, S8 q, .int .i64 mode, .slice a n cap, .int .i64 time] ∧ ((kind = 1 ∧ ∃ f, c = .put q f ∧ p = [] ∧ f.mode = mode ∧ f.data.length = n ∧ f.time = time) ∨ (kind ≠ 1 ∧ ∀ t, c.at t = c)) := by
  cases c with
  | put p f =>
    obtain ⟨_, v, rfl, h3⟩ := h
    obtain ⟨a, cap, rfl, _⟩ := h3.bytes
    exact ⟨_, _, _, _, _, _, _, _, rfl, .inl ⟨rfl, f, rfl, rfl, rfl, rfl, rfl⟩⟩
  | mv s d => obtain ⟨_, _, rfl⟩ := h; exact ⟨_, _, _, _, _, _, _, _, rfl, .inr ⟨by omega, fun _ => rfl⟩⟩
  | del p => obtain ⟨_, rfl⟩ := h; exact ⟨_, _, _, _, _, _, _, _, rfl, .inr ⟨by omega, fun _ => rfl⟩⟩

theorem IsOp.ext {R : Nat → Prop} {w w' : World} {cs : List Value} {c : Ch} (h : IsOp R w cs c) (hx : Ext w w') : IsOp R w' cs c := h.keepR (KeepR.of_keep (KeepB.of_ext hx))
/-- A change with its stamp. -/
theorem IsOp.stamp {R : Nat → Prop} {w : World} {kind : Int} {p q : B8} {mode time t2 : Int} {a : Option Addr} {n cap : Nat} {c : Ch} {t : Nat} (h : IsOp R w [.int .i64 kind, S8 p, S8 q, .int .i64 mode, .slice a n cap, .int .i64 time] c)
    (hk : (kind = 1 ∧ ∃ f, c = .put q f ∧ p = [] ∧ f.mode = mode ∧ f.data.length = n ∧ f.time = time) ∨ (kind ≠ 1 ∧ ∀ t, c.at t = c)) (ht : t2 = if kind = 1 then (t : Int) else time) :
    IsOp R w [.int .i64 kind, S8 p, S8 q, .int .i64 mode, .slice a n cap, .int .i64 t2] (c.at t) := by
  rcases hk with ⟨rfl, f, rfl, rfl, rfl, rfl, rfl⟩ | ⟨hk, hat⟩
  · obtain ⟨h1, v, he, hd⟩ := h
    rw [if_pos rfl] at ht
    subst ht
    simp only [List.cons.injEq, true_and, and_true] at he
    exact ⟨h1, _, rfl, he ▸ hd⟩
  · rw [if_neg hk] at ht
    rw [hat, ht]
    exact h

end Go.Proofs.YtdhgmpibjneplaaGreatDoor

/-! marref1.Under: what it answers. Conditions: texts of at most 10000000 signs. -/
namespace Go.Proofs.YtdhgmpibjneplaaGreatDoor
open Go Go.RowKit

end Go.Proofs.YtdhgmpibjneplaaGreatDoor

/-! marref5.may: may a file stand at a path? Conditions: all paths may be. -/
namespace Go.Proofs.YtdhgmpibjneplaaGreatDoor
open Go Go.RowKit

end Go.Proofs.YtdhgmpibjneplaaGreatDoor

/-! marref5.FS: safe, drop. Conditions: at most 9000000 ticks; short paths. -/
namespace Go.Proofs.YtdhgmpibjneplaaGreatDoor
open Go Go.RowKit
variable [Inhabited BaseW]

section
variable {ops : Array Oper} {rest : List Oper} {o : Oper} {a : Act} {Q : Exit → Act → World → Prop} {w : World}
end
end Go.Proofs.YtdhgmpibjneplaaGreatDoor

/-! marref.CopyBytes; marref5.FS: put. Conditions: at most 8000000 ticks; short paths. -/
namespace Go.Proofs.YtdhgmpibjneplaaGreatDoor
open Go Go.RowKit
variable [Inhabited BaseW]

def putRM (m : Fs) (path : B8) (mode : Int) (data : B8) (only full : Bool) (room : Int) : Fs × Int :=
  if wrongE path mode data ≠ 0 then (m, wrongE path mode data) else if only = true ∧ (look m.now path).isSome then (m, 8)
  else putsM m path mode data (!full && decide ((data.length : Int) ≤ room - usedF m.now + oldLen m.now path))

end Go.Proofs.YtdhgmpibjneplaaGreatDoor

/-! marref5.FS: Crash. Conditions: at most 8000000 ticks. -/
namespace Go.Proofs.YtdhgmpibjneplaaGreatDoor
open Go Go.RowKit
variable [Inhabited BaseW]

theorem NewOr.inn {O : Nat → Prop} {w w' : World} {v v' : Value} (h : NewOr w v v') (hi : Inn O v) (hl : ∀ k, v'.ownBlock = some k → k < w'.heap.size) : Inn (Nw O w w') v' := fun k hk => (h k hk).imp (hi k) (fun h1 => ⟨h1, hl k hk⟩)
end Go.Proofs.YtdhgmpibjneplaaGreatDoor

/-! marref5.FS: UserWrite, UserRemove. Conditions: at most 7000000 ticks; short paths. -/
namespace Go.Proofs.YtdhgmpibjneplaaGreatDoor
open Go Go.RowKit
variable [Inhabited BaseW]

section
variable {ops : Array Oper} {rest : List Oper} {o : Oper} {a : Act} {Q : Exit → Act → World → Prop} {w : World}
end

end Go.Proofs.YtdhgmpibjneplaaGreatDoor

/-! marref5.FS: begin: a call begins. Conditions: at most 6000000 ticks; a plan that is few. -/
namespace Go.Proofs.YtdhgmpibjneplaaGreatDoor
open Go Go.RowKit
variable [Inhabited BaseW]

end Go.Proofs.YtdhgmpibjneplaaGreatDoor

/-! marref5.FS: Create, Write, Remove, Sync. Conditions: what holds of a file system at all times; short paths. -/
namespace Go.Proofs.YtdhgmpibjneplaaGreatDoor
open Go Go.RowKit
variable [Inhabited BaseW]

end Go.Proofs.YtdhgmpibjneplaaGreatDoor

/-! marref5.FS: move, Move, MoveNew. Conditions: what holds of a file system at all times; short paths. -/
namespace Go.Proofs.YtdhgmpibjneplaaGreatDoor
open Go Go.RowKit
variable [Inhabited BaseW]

end Go.Proofs.YtdhgmpibjneplaaGreatDoor

/-! marref5.FS: Peek, Paths, Read, List. Conditions: what holds of a file system at all times; short paths. -/
namespace Go.Proofs.YtdhgmpibjneplaaGreatDoor
open Go Go.RowKit
variable [Inhabited BaseW]

end Go.Proofs.YtdhgmpibjneplaaGreatDoor

/-! marref5.FS: List, New, Plan, User, and what each tells of itself. Conditions: what holds of a file system at all times; short paths. -/
namespace Go.Proofs.YtdhgmpibjneplaaGreatDoor
open Go Go.RowKit
variable [Inhabited BaseW]

def inDir (dir q : B8) : Bool := dir == [] || isUnder dir q
end Go.Proofs.YtdhgmpibjneplaaGreatDoor

/-! marref5.FS: New, Plan, User, and what each tells of itself. Conditions: what holds of a file system at all times. -/
namespace Go.Proofs.YtdhgmpibjneplaaGreatDoor
open Go Go.RowKit
variable [Inhabited BaseW]

section
variable {O R : Nat → Prop} {w : World} {p : Value} {m : Fs}
end

end Go.Proofs.YtdhgmpibjneplaaGreatDoor

/-! marref5.FS: User. Conditions: at most 10000000 events. -/
namespace Go.Proofs.YtdhgmpibjneplaaGreatDoor
open Go Go.RowKit
variable [Inhabited BaseW]

section
variable {ops : Array Oper} {rest : List Oper} {o : Oper} {a : Act} {Q : Exit → Act → World → Prop} {w : World}
end

end Go.Proofs.YtdhgmpibjneplaaGreatDoor

/-! marref: Bytes, Texts, Has; marlaw5: flag, file. Conditions: at most 10000000 texts. -/
namespace Go.Proofs.YtdhgmpibjneplaaGreatDoor
open Go Go.RowKit

def FilePost (f g : Fi) (w : World) (e : Ending) (w' : World) : Prop := (∃ r : Bool, e = .returned (.bool r) ∧ (f = g → r = true)) ∧ Ext w w'
end Go.Proofs.YtdhgmpibjneplaaGreatDoor

/-! store: Put. Conditions: as each theorem states. -/
namespace Go.Proofs.YtdhgmpibjneplaaGreatDoor
open Go Go.RowKit
set_option linter.unusedVariables false
set_option linter.unusedSimpArgs false
set_option linter.unusedSectionVars false

theorem bytesEqual_any (a b : Value) (la lb : B8) (w : World) (ha : IsBytes w a la) (hb : IsBytes w b lb) :
    Calls Tryz.prog 120 #[a, b] w fun e w' => e = .returned (.bool (la == lb)) ∧ w' = w := by
  have h1 := conv_bytes ha
  have h2 := conv_bytes hb
  have t1 := tl la
  have t2 := tl lb
  obtain ⟨a1, c1, rfl, -⟩ := ha
  obtain ⟨a2, c2, rfl, -⟩ := hb
  obtain ⟨bq, hbq⟩ : ∃ bq, (la == lb) = bq := ⟨_, rfl⟩
  rw [hbq]
  go_enter Tryz.func120, Tryz.ntmps120
  go_wp2
  go_ret
  exact ⟨by first | rfl | exact ret_b (by assumption), rfl⟩
theorem old_out {O : Nat → Prop} {w0 w : World} {v : Value} {l : B8} (h : IsBytes w0 v l) (hO : ∀ k, O k → w0.heap.size ≤ k) : Out O w v := by
  obtain ⟨a, cap, rfl, h1, h2, h3, h4⟩ := h
  intro a' n c he hn
  cases he
  refine .inl fun ho => ?_
  cases hl : l with
  | nil => rw [hl] at hn; exact hn rfl
  | cons x r =>
    obtain ⟨b, o, e, hc⟩ := h4 (by rw [hl]; simp)
    cases e
    have := World.block_lt_of_cell? _ _ (hc 0 (.int .u8 x.toNat) (by rw [hl]; rfl))
    have h9 := hO _ ho
    simp only at this h9
    omega
/-- Bytes that a call is handed: old ones, or typed ones. -/
def Arg (w0 w : World) (v : Value) (b : B8) : Prop := IsBytes w0 v b ∨ IsBytes w v b ∧ TypB w v
theorem Arg.keep {w0 w w' : World} {v : Value} {b : B8} (h : Arg w0 w v b) (hk : KeepB w w') : Arg w0 w' v b := by
  rcases h with h | ⟨h1, h2⟩
  · exact .inl h
  · exact .inr ⟨Row.keepB h1 h2 hk, h2.keep hk⟩
theorem Arg.bytes {w0 w : World} {v : Value} {b : B8} (h : Arg w0 w v b) (hx : Ext w0 w) : IsBytes w v b := by
  rcases h with h | h
  · exact IsBytes.ext h hx
  · exact h.1
theorem Arg.out {O : Nat → Prop} {w0 w : World} {v : Value} {b : B8} (h : Arg w0 w v b) (hO : ∀ k, O k → w0.heap.size ≤ k) : Out O w v := by
  rcases h with h | h
  · exact old_out h hO
  · exact fun a n c he _ => .inr (h.2 a n c he)
variable [Inhabited BaseW] [KW : Inhabited KeptW]
set_option maxRecDepth 100000 in
set_option maxHeartbeats 4000000 in
theorem storePut_any {w0 w : World} {S O : Nat → Prop} {f : Value} {gs gc : Nat} {m : Fs} {n : Int} {k : Nat} (v : Value) (b : B8) (h : St w0 S O w f gs gc m n) (hE : Env w0) (hS : EnvS w0) (hg : Good k m) (hk : k ≤ 79800) (hn0 : 0 ≤ n) (hn1 : n ≤ 100000) (hv : Arg w0 w v b) (hb : b.length ≤ 140737488355328) :
    Calls Tryz.prog 72 #[.pointer (some ⟨gs, 0, none⟩), v] w fun e w' => ∃ (O' : Nat → Prop) (n' : Int), e = .returned (.tuple #[S8 (putO m b).2.1, .int .i64 (putO m b).2.2]) ∧ (n ≤ n' ∧ n' ≤ n + 1) ∧ St w0 S O' w' f gs gc (putO m b).1 n' := by
  have H : Hid (St w0 S O w f gs gc m n) := h
  have HE : Hid (Env w0) := hE
  have HS : Hid (EnvS w0) := hS
  have HG : Hid (Good k m) := hg
  have HA : Hid (Arg w0 w v b) := hv
  have hsl : (shaM b).length ≤ 100 := by rw [sha_len]; omega
  have hpl : (placeO (shaM b)).length ≤ 400 := by unfold placeO; simp; omega
  obtain ⟨g, rfl⟩ : ∃ g, f = .pointer (some ⟨g, 0, none⟩) := by
    obtain ⟨g, gm, gd, vp, vl, vu, L, c0, hpe, -⟩ := h.one.fs
    exact ⟨g, hpe⟩
  obtain ⟨s0, t0, rfl, -⟩ := id (hv.bytes h.one.ext)
  clear h hE hS hg hv
  go_enter Tryz.func72, Tryz.ntmps72
  by_cases hl : 20000 < b.length
  case pos =>
    have hl1 : decide ((20000 : Int) < (b.length : Int)) = true := decide_eq_true (by omega)
    have q : putO m b = (m, [], 3) := by unfold putO; rw [if_pos hl]
    have Q : Hid _ := q
    clear q
    go_wp2
    go_ret2
    rw [Q.out]
    exact ⟨_, _, rfl, ⟨by omega, by omega⟩, H.out⟩
  have hl1 : decide ((20000 : Int) < (b.length : Int)) = false := decide_eq_false (by omega)
  go_wp2_with fail
  go_at_call 117
  refine (newLazy_any _ b w (HA.out.bytes H.out.one.ext) (by omega)).mono ?_
  rintro e w1 ⟨⟨u1, rfl, hz1⟩, hx1⟩
  have HZ1 : Hid _ := hz1
  have HX1 : Hid _ := hx1
  have hw2 : 3 ≤ w.heap.size := by have := H.out.one.ext.size; have := HS.out.two; omega
  clear hz1 hx1
  go_wp2_with fail
  go_at_call 118
  refine (lazyID_any w w1 b u1 (EnvS.ext HS.out (H.out.one.ext.trans HX1.out)) hw2 HX1.out HZ1.out (by omega)).mono ?_
  rintro e w2 ⟨rfl, hx2⟩
  have H2 : Hid (St w0 S O w2 (.pointer (some ⟨g, 0, none⟩)) gs gc m n) := St.more H.out hx2
  have HA2 : Hid (Arg w0 w2 (.slice s0 b.length t0) b) := Arg.keep HA.out (KeepB.of_ext hx2)
  clear hx2 HZ1 HX1 H
  go_wp2_with fail
  go_at_call 119
  obtain ⟨⟨m1, fx, er⟩, hr⟩ : ∃ q, readM m (placeO (shaM b)) = q := ⟨_, rfl⟩
  have HR : Hid _ := hr
  have hrd := readO_any (shaM b) H2.out HE.out HG.out (by omega) hn0 hn1 hsl
  rw [hr] at hrd
  refine hrd.mono ?_
  rintro e w3 ⟨v3, O3, rfl, hd3, hk3, h3⟩
  have HA3 : Hid (Arg w0 w3 (.slice s0 b.length t0) b) := Arg.keep HA2.out hk3
  clear hk3
  obtain ⟨n', hn'⟩ : ∃ n', n + 1 = n' := ⟨_, rfl⟩
  have HN : Hid (n ≤ n' ∧ n' ≤ n + 1) := ⟨by omega, by omega⟩
  rw [hn'] at h3
  have H3 : Hid (St w0 S O3 w3 (.pointer (some ⟨g, 0, none⟩)) gs gc m1 n') := h3
  have HD3 : Hid (IsBytes w3 v3 fx.data) := hd3
  clear hr hrd hd3 h3 H2
  try dsimp only
  by_cases her : er = 0
  case pos =>
    subst her
    by_cases hq : fx.data = b
    case pos =>
      have hqb : (fx.data == b) = true := by simpa using hq
      have q : putO m b = (m1, shaM b, 0) := by
        unfold putO
        rw [if_neg hl, HR.out, if_pos ⟨rfl, hq⟩]
      have Q : Hid _ := q
      clear q hq
      go_wp2_with fail
      go_at_call 120
      refine (bytesEqual_any _ _ _ _ _ HD3.out (HA3.out.bytes H3.out.one.ext)).mono ?_
      rintro e w4 ⟨rfl, rfl⟩
      rw [hqb]
      go_wp2
      go_ret2
      rw [Q.out]
      exact ⟨_, _, rfl, HN.out, H3.out⟩
    have hqb : (fx.data == b) = false := by simpa using hq
    go_wp2_with fail
    go_at_call 120
    refine (bytesEqual_any _ _ _ _ _ HD3.out (HA3.out.bytes H3.out.one.ext)).mono ?_
    rintro e w4 ⟨rfl, rfl⟩
    rw [hqb]
    go_wp2_with fail
    have hdl : fx.data.length ≤ 10000000 := by have := read_len (p := placeO (shaM b)) HG.out.ok HG.out.plan; rw [HR.out] at this; simp only at this; omega
    go_at_call 117
    refine (newLazy_any _ fx.data w4 HD3.out hdl).mono ?_
    rintro e w5 ⟨⟨u5, rfl, hz5⟩, hx5⟩
    have HZ5 : Hid _ := hz5
    have HX5 : Hid _ := hx5
    have hw5 : 3 ≤ w4.heap.size := by have := H3.out.one.ext.size; have := env_ltR HE.out; have := HS.out.two; omega
    clear hz5 hx5
    go_wp2_with fail
    go_at_call 118
    refine (lazyID_any w4 w5 fx.data u5 (EnvS.ext HS.out (H3.out.one.ext.trans HX5.out)) hw5 HX5.out HZ5.out hdl).mono ?_
    rintro e w6 ⟨rfl, hx6⟩
    have H6 : Hid (St w0 S O3 w6 (.pointer (some ⟨g, 0, none⟩)) gs gc m1 n') := St.more H3.out hx6
    have HA6 : Hid (Arg w0 w6 (.slice s0 b.length t0) b) := Arg.keep HA3.out (KeepB.of_ext hx6)
    clear hx6 HZ5 HX5 H3 HD3 HA3
    have HA3 : Hid (Arg w0 w6 (.slice s0 b.length t0) b) := HA6.out
    clear HA6
    have t1 := tl (shaM b)
    have t2 := tl (shaM fx.data)
    by_cases hs5 : shaM fx.data = shaM b
    case pos =>
      have hsb : (shaM fx.data == shaM b) = true := by simpa using hs5
      have q : putO m b = (m1, [], 5) := by
        unfold putO
        rw [if_neg hl, HR.out, if_neg (fun h => hq h.2), if_pos ⟨rfl, hs5⟩]
      have Q : Hid _ := q
      clear q hs5 hq
      go_wp2
      go_ret2
      rw [Q.out]
      exact ⟨_, _, rfl, HN.out, H6.out⟩
    have hsb : (shaM fx.data == shaM b) = false := by simpa using hs5
    have HPUT : Hid (putO m b = putEnd (writeM m1 tempP 1 b) (shaM b)) := by
      unfold Hid putO
      rw [if_neg hl, HR.out, if_neg (fun h => hq h.2), if_neg (fun h => hs5 h.2), if_neg (fun h => h.1 rfl)]
    have H3 : Hid (St w0 S O3 w6 (.pointer (some ⟨g, 0, none⟩)) gs gc m1 n') := H6
    clear H6 hq hs5
    have HG1 : Hid (Good (k + 1) m1) := by have := good_read HG.out (placeO (shaM b)); rw [HR.out] at this; exact this
    clear HR
    have d1 : w6.cell? ⟨gs, 0, none⟩ = some (.pointer (some ⟨g, 0, none⟩)) := (cell_of_row _ _ 0 _ _ _ H3.out.row).trans rfl
    go_wp2_with fail
    go_at_call 121
    refine (write_any tempP 1 _ b (One.fin H3.out.one HE.out HG1.out (by omega)) (by decide) (HA3.out.bytes H3.out.one.ext) (HA3.out.out (fun k hk => (H3.out.one.lo k hk).1))).mono ?_
    rintro e w7 ⟨rfl, hp4⟩
    have h4 := St.post H3.out hp4
    obtain ⟨⟨m2, e2⟩, hq2⟩ : ∃ q, writeM m1 tempP 1 b = q := ⟨_, rfl⟩
    have hput := HPUT.out
    rw [hq2] at h4 hput ⊢
    have HG2 : Hid (Good (k + 2) m2) := by have := good_write HG1.out tempP 1 b; rw [hq2] at this; exact this
    have H4 : Hid (St w0 S _ w7 (.pointer (some ⟨g, 0, none⟩)) gs gc m2 n') := h4
    clear hp4 hq2 h4 HPUT H3
    try dsimp only
    by_cases h5 : e2 = 0
    case neg =>
      have h5n : (e2 == 0) = false := by simpa using h5
      have h5m : (e2 != 0) = true := by simpa using h5
      have q : putO m b = (m2, [], e2) := hput.trans (by unfold putEnd; rw [if_pos h5])
      have Q : Hid _ := q
      clear q hput h5
      go_wp2
      go_ret2
      rw [Q.out]
      exact ⟨_, _, rfl, HN.out, H4.out⟩
    subst h5
    have d0 : w7.cell? ⟨gs, 0, none⟩ = some (.pointer (some ⟨g, 0, none⟩)) := (cell_of_row _ _ 0 _ _ _ H4.out.row).trans rfl
    have HPUT : Hid _ := hput
    clear hput
    go_upto_region 14 with fail
    apply wp_region_mix 6 [_, _, _, .pointer (some ⟨g, 0, none⟩), _, S8 (placeO (shaM b))] [none, none, none, none, none, none] [[], [0], [1], [2], [], [4]] (by kernel_rfl) (by kernel_rfl) (by simp [mixV])
    · trivial
    · simp (maxSteps := 1000000) only [List.take_succ_cons, List.take_zero, oblFrom, stepObl, fillFrom, Act.put, List.setIfInBounds_toArray, List.set_cons_zero, List.set_cons_succ, knows, getV, mixV, List.getD_cons_zero, List.getD_cons_succ, and_true, true_and, forall_const]
      refine ⟨?_, ?_, ?_, ?_, ?_, ?_⟩
      · intro xs wq hq R hR
        have f0 := hq.cell d0
        go_simp
        exact hR _ _ (Ext.refl _) rfl
      · intro xs wq hq hk R hR
        have f0 := hq.cell d0
        go_simp
        exact hR _ _ (Ext.refl _) rfl
      · intro xs wq hq hk R hR
        have f0 := hq.cell d0
        go_simp
        exact hR _ _ (Ext.refl _) rfl
      · intro xs wq hq hk R hR
        have f0 := hq.cell d0
        go_simp
        exact hR _ _ (Ext.refl _) rfl
      · intro xs wq hq R hR
        have f0 := hq.cell d0
        go_simp
        exact hR _ _ (Ext.refl _) rfl
      · intro xs wq hq hk R hR
        go_simp
        exact (placeO_any (shaM b) _ (by omega)).mono (by rintro e' w7 ⟨rfl, rfl⟩; exact ⟨_, rfl, hR _ _ (Ext.refl _) rfl⟩)
    intro xs w8 hx5 hk
    simp only [heldV, Nat.zero_add, Nat.reduceAdd, and_true] at hk
    obtain ⟨q0, q1, q2, q3, q4, q5⟩ := hk
    simp (maxSteps := 1000000) only [List.take_succ_cons, List.take_zero, List.drop_succ_cons, List.drop_zero, fillFrom, Act.put, List.setIfInBounds_toArray, List.set_cons_zero, List.set_cons_succ, Nat.zero_add, Nat.reduceAdd, q0, q1, q2, q3, q4, q5]
    clear q0 q1 q2 q3 q4 q5
    have H5 : Hid (St w0 S _ w8 (.pointer (some ⟨g, 0, none⟩)) gs gc m2 n') := St.more H4.out hx5
    clear hx5 d0 H4
    go_wp2_with fail
    go_at_call 122
    refine (move_any tempP (placeO (shaM b)) (One.fin H5.out.one HE.out HG2.out (by omega)) (by decide) (by omega)).mono ?_
    rintro e w9 ⟨rfl, hp6⟩
    have h6 := St.post H5.out hp6
    obtain ⟨⟨m3, e3⟩, hq3⟩ : ∃ q, moveM m2 tempP (placeO (shaM b)) false = q := ⟨_, rfl⟩
    have hput := HPUT.out
    unfold putEnd at hput
    rw [if_neg (by simp)] at hput
    simp only [] at hput
    rw [hq3] at h6 hput ⊢
    have H6 : Hid (St w0 S _ w9 (.pointer (some ⟨g, 0, none⟩)) gs gc m3 n') := h6
    clear hp6 hq3 h6 HPUT H5
    try dsimp only
    by_cases h5 : e3 = 0
    case neg =>
      have h5n : (e3 == 0) = false := by simpa using h5
      have h5m : (e3 != 0) = true := by simpa using h5
      have q : putO m b = (m3, [], e3) := hput.trans (by rw [if_pos h5])
      have Q : Hid _ := q
      clear q hput h5
      go_wp2
      go_ret2
      rw [Q.out]
      exact ⟨_, _, rfl, HN.out, H6.out⟩
    subst h5
    have q : putO m b = (m3, shaM b, 0) := hput.trans (by rw [if_neg (by simp)])
    have Q : Hid _ := q
    clear q hput
    go_wp2
    go_ret2
    rw [Q.out]
    exact ⟨_, _, rfl, HN.out, H6.out⟩
  have her0 : (er == 0) = false := by simpa using her
  have her1 : (er != 0) = true := by simpa using her
  by_cases h7 : er = 7
  case neg =>
    have h71 : (er != 7) = true := by simpa using h7
    have h70 : (er == 7) = false := by simpa using h7
    have q : putO m b = (m1, [], er) := by
      unfold putO
      rw [if_neg hl, HR.out, if_neg (fun h => her h.1), if_neg (fun h => her h.1), if_pos ⟨her, h7⟩]
    have Q : Hid _ := q
    clear q
    go_wp2
    go_ret2
    rw [Q.out]
    exact ⟨_, _, rfl, HN.out, H3.out⟩
  subst h7
  have HPUT : Hid (putO m b = putEnd (writeM m1 tempP 1 b) (shaM b)) := by
    unfold Hid putO
    rw [if_neg hl, HR.out, if_neg (fun h => her h.1), if_neg (fun h => her h.1), if_neg (fun h => h.2 rfl)]
  have HG1 : Hid (Good (k + 1) m1) := by have := good_read HG.out (placeO (shaM b)); rw [HR.out] at this; exact this
  clear HR
  have d1 : w3.cell? ⟨gs, 0, none⟩ = some (.pointer (some ⟨g, 0, none⟩)) := (cell_of_row _ _ 0 _ _ _ H3.out.row).trans rfl
  go_wp2_with fail
  go_at_call 121
  refine (write_any tempP 1 _ b (One.fin H3.out.one HE.out HG1.out (by omega)) (by decide) (HA3.out.bytes H3.out.one.ext) (HA3.out.out (fun k hk => (H3.out.one.lo k hk).1))).mono ?_
  rintro e w4 ⟨rfl, hp4⟩
  have h4 := St.post H3.out hp4
  obtain ⟨⟨m2, e2⟩, hq2⟩ : ∃ q, writeM m1 tempP 1 b = q := ⟨_, rfl⟩
  have hput := HPUT.out
  rw [hq2] at h4 hput ⊢
  have HG2 : Hid (Good (k + 2) m2) := by have := good_write HG1.out tempP 1 b; rw [hq2] at this; exact this
  have H4 : Hid (St w0 S _ w4 (.pointer (some ⟨g, 0, none⟩)) gs gc m2 n') := h4
  clear hp4 hq2 h4 HPUT H3
  try dsimp only
  by_cases h5 : e2 = 0
  case neg =>
    have h5n : (e2 == 0) = false := by simpa using h5
    have h5m : (e2 != 0) = true := by simpa using h5
    have q : putO m b = (m2, [], e2) := hput.trans (by unfold putEnd; rw [if_pos h5])
    have Q : Hid _ := q
    clear q hput h5
    go_wp2
    go_ret2
    rw [Q.out]
    exact ⟨_, _, rfl, HN.out, H4.out⟩
  subst h5
  have d0 : w4.cell? ⟨gs, 0, none⟩ = some (.pointer (some ⟨g, 0, none⟩)) := (cell_of_row _ _ 0 _ _ _ H4.out.row).trans rfl
  have HPUT : Hid _ := hput
  clear hput
  go_upto_region 14 with fail
  apply wp_region_mix 6 [_, _, _, .pointer (some ⟨g, 0, none⟩), _, S8 (placeO (shaM b))] [none, none, none, none, none, none] [[], [0], [1], [2], [], [4]] (by kernel_rfl) (by kernel_rfl) (by simp [mixV])
  · trivial
  · simp (maxSteps := 1000000) only [List.take_succ_cons, List.take_zero, oblFrom, stepObl, fillFrom, Act.put, List.setIfInBounds_toArray, List.set_cons_zero, List.set_cons_succ, knows, getV, mixV, List.getD_cons_zero, List.getD_cons_succ, and_true, true_and, forall_const]
    refine ⟨?_, ?_, ?_, ?_, ?_, ?_⟩
    · intro xs wq hq R hR
      have f0 := hq.cell d0
      go_simp
      exact hR _ _ (Ext.refl _) rfl
    · intro xs wq hq hk R hR
      have f0 := hq.cell d0
      go_simp
      exact hR _ _ (Ext.refl _) rfl
    · intro xs wq hq hk R hR
      have f0 := hq.cell d0
      go_simp
      exact hR _ _ (Ext.refl _) rfl
    · intro xs wq hq hk R hR
      have f0 := hq.cell d0
      go_simp
      exact hR _ _ (Ext.refl _) rfl
    · intro xs wq hq R hR
      have f0 := hq.cell d0
      go_simp
      exact hR _ _ (Ext.refl _) rfl
    · intro xs wq hq hk R hR
      go_simp
      exact (placeO_any (shaM b) _ (by omega)).mono (by rintro e' w4 ⟨rfl, rfl⟩; exact ⟨_, rfl, hR _ _ (Ext.refl _) rfl⟩)
  intro xs w5 hx5 hk
  simp only [heldV, Nat.zero_add, Nat.reduceAdd, and_true] at hk
  obtain ⟨q0, q1, q2, q3, q4, q5⟩ := hk
  simp (maxSteps := 1000000) only [List.take_succ_cons, List.take_zero, List.drop_succ_cons, List.drop_zero, fillFrom, Act.put, List.setIfInBounds_toArray, List.set_cons_zero, List.set_cons_succ, Nat.zero_add, Nat.reduceAdd, q0, q1, q2, q3, q4, q5]
  clear q0 q1 q2 q3 q4 q5
  have H5 : Hid (St w0 S _ w5 (.pointer (some ⟨g, 0, none⟩)) gs gc m2 n') := St.more H4.out hx5
  clear hx5 d0 H4
  go_wp2_with fail
  go_at_call 122
  refine (move_any tempP (placeO (shaM b)) (One.fin H5.out.one HE.out HG2.out (by omega)) (by decide) (by omega)).mono ?_
  rintro e w6 ⟨rfl, hp6⟩
  have h6 := St.post H5.out hp6
  obtain ⟨⟨m3, e3⟩, hq3⟩ : ∃ q, moveM m2 tempP (placeO (shaM b)) false = q := ⟨_, rfl⟩
  have hput := HPUT.out
  unfold putEnd at hput
  rw [if_neg (by simp)] at hput
  simp only [] at hput
  rw [hq3] at h6 hput ⊢
  have H6 : Hid (St w0 S _ w6 (.pointer (some ⟨g, 0, none⟩)) gs gc m3 n') := h6
  clear hp6 hq3 h6 HPUT H5
  try dsimp only
  by_cases h5 : e3 = 0
  case neg =>
    have h5n : (e3 == 0) = false := by simpa using h5
    have h5m : (e3 != 0) = true := by simpa using h5
    have q : putO m b = (m3, [], e3) := hput.trans (by rw [if_pos h5])
    have Q : Hid _ := q
    clear q hput h5
    go_wp2
    go_ret2
    rw [Q.out]
    exact ⟨_, _, rfl, HN.out, H6.out⟩
  subst h5
  have q : putO m b = (m3, shaM b, 0) := hput.trans (by rw [if_neg (by simp)])
  have Q : Hid _ := q
  clear q hput
  go_wp2
  go_ret2
  rw [Q.out]
  exact ⟨_, _, rfl, HN.out, H6.out⟩

end Go.Proofs.YtdhgmpibjneplaaGreatDoor

/-! store: List. Conditions: as each theorem states. -/
namespace Go.Proofs.YtdhgmpibjneplaaGreatDoor
open Go Go.RowKit
set_option linter.unusedVariables false
set_option linter.unusedSimpArgs false
set_option linter.unusedSectionVars false

def dirO : B8 := [115, 47, 111]
def dirS : B8 := [115, 47, 111, 47]
def idsL (l : List B8) : List B8 := (l.map fun p => Lib.trimPrefix p dirS).filter validB
def storeListM (m : Fs) : Fs × List B8 × Int := if (listM m dirO).2.2 ≠ 0 then ((listM m dirO).1, [], (listM m dirO).2.2) else ((listM m dirO).1, idsL (listM m dirO).2.1, 0)
variable [Inhabited BaseW] [KW : Inhabited KeptW]
end Go.Proofs.YtdhgmpibjneplaaGreatDoor

/-! store: what the chapter's examples fix. Conditions: as each theorem states. -/
namespace Go.Proofs.YtdhgmpibjneplaaGreatDoor
open Go Go.RowKit
set_option linter.unusedVariables false
set_option linter.unusedSimpArgs false
set_option linter.unusedSectionVars false

def xB : B8 := shaM [120]
def sm0 : Fs := newM 1000
def sm1 : Fs := (putO sm0 [120]).1
def sm2 : Fs := (putO sm1 [120]).1
theorem good_putEnd {n : Nat} {x : Fs × Int} {id : B8} (h : Good n x.1) : Good (n + 1) (putEnd x id).1 := by
  unfold putEnd
  split
  · exact h.mono (by omega)
  · split
    · exact good_move h _ _ _
    · exact good_move h _ _ _
theorem good_putO {n : Nat} {m : Fs} (h : Good n m) (b : B8) : Good (n + 3) (putO m b).1 := by
  unfold putO
  split
  · exact h.mono (by omega)
  · split
    · exact (good_read h _).mono (by omega)
    · split
      · exact (good_read h _).mono (by omega)
      · split
        · exact (good_read h _).mono (by omega)
        · exact good_putEnd (good_write (good_read h _) _ _ _)
section
variable [Inhabited BaseW] [KW : Inhabited KeptW]
end
end Go.Proofs.YtdhgmpibjneplaaGreatDoor

/-! A scan: how much a file system has done behind it. Conditions: as each theorem states. -/
namespace Go.Proofs.YtdhgmpibjneplaaGreatDoor
open Go Go.RowKit

theorem good_getO {n : Nat} {m : Fs} (h : Good n m) (id : B8) : Good (n + 1) (getO m id).1 := by
  unfold getO
  split
  · exact h.mono (by omega)
  · split
    · exact good_read h _
    · split
      · exact good_read h _
      · exact good_read h _
theorem good_putObjM {n : Nat} {m : Fs} (h : Good n m) (o : Ob) : Good (n + 3) (putObjM m o).1 := by
  unfold putObjM
  split
  · exact h.mono (by omega)
  · exact good_putO h _
theorem good_hash1 {n : Nat} {m : Fs} (h : Good n m) (d : B8) : Good (n + 3) (hashX1 m d).1 := by
  unfold hashX1
  split
  · exact h.mono (by omega)
  · exact good_putObjM h _
theorem good_hash {n : Nat} {m : Fs} (h : Good n m) (ix : Files) (wr : Int) (p : B8) (f : Fi) : Good (n + 4) (hashX m ix wr p f).1 := by
  unfold hashX
  split
  · split
    · exact (good_getO h _).mono (by omega)
    · exact good_hash1 (good_getO h _) _
  · exact (good_hash1 h _).mono (by omega)
theorem good_step {n : Nat} {x : Sc} (h : Good n x.m) (ix : Files) (wr : Int) (pats : List B8) (p : B8) : Good (n + 5) (scanStep ix wr pats x p).1.m := by
  unfold scanStep
  split
  · exact h.mono (by omega)
  · split
    · exact h.mono (by omega)
    · have hr := good_read h p
      split
      · exact hr.mono (by omega)
      · split
        · exact hr.mono (by omega)
        · unfold hashStep
          split
          · exact good_hash hr _ _ _ _
          · exact good_hash hr _ _ _ _
theorem hash1_n (m : Fs) (d : B8) : (hashX1 m d).2.1 ≤ 1 := by
  unfold hashX1
  split
  · exact Nat.zero_le _
  · exact Nat.le_refl _
theorem hash_n (m : Fs) (ix : Files) (wr : Int) (p : B8) (f : Fi) : (hashX m ix wr p f).2.1 ≤ 1 := by
  unfold hashX
  split
  · split
    · exact Nat.zero_le _
    · exact hash1_n _ _
  · exact hash1_n _ _
/-- A row more each time that the store is asked. -/
structure ScN (N : Nat) (x : Sc) : Prop where
  rows : x.rows.length ≤ N
  rows2 : x.rows.length ≤ 256
  ix : x.ix.length ≤ N
  n : x.n ≤ N
theorem step_n {N : Nat} {x : Sc} (h : ScN N x) (ix : Files) (wr : Int) (pats : List B8) (p : B8) : ScN (N + 1) (scanStep ix wr pats x p).1 := by
  have up : ∀ m, ScN (N + 1) { x with m := m } := fun m => ⟨by have := h.rows; show x.rows.length ≤ _; omega, h.rows2, by have := h.ix; show x.ix.length ≤ _; omega, by have := h.n; show x.n ≤ _; omega⟩
  unfold scanStep
  split
  · exact up x.m
  · split
    · exact up x.m
    · rename_i h256
      split
      · exact up _
      · split
        · exact up _
        · unfold hashStep
          split
          · exact up _
          · have h1 := h.rows
            have h2 := h.ix
            have h3 := h.n
            refine ⟨?_, ?_, ?_, ?_⟩
            · show (x.rows ++ [_]).length ≤ _
              rw [List.length_append, List.length_singleton]; omega
            · show (x.rows ++ [_]).length ≤ _
              rw [List.length_append, List.length_singleton]; omega
            · show (putF x.ix _ _).length ≤ _
              exact Nat.le_trans (putF_length _ _ _) (by omega)
            · show x.n + _ ≤ _
              have : (hashX ((readM x.m p).1, (readM x.m p).2.1).1 ix wr (cutW p) ((readM x.m p).1, (readM x.m p).2.1).2).2.1 ≤ 1 := hash_n _ _ _ _ _
              omega
theorem step_plan (ix : Files) (wr : Int) (pats : List B8) (x : Sc) (p : B8) (h : (scanStep ix wr pats x p).2 ≠ 0) (l : List B8) : scanL ix wr pats (p :: l) x = scanStep ix wr pats x p := by
  rw [scanL, if_pos h]
theorem step_next (ix : Files) (wr : Int) (pats : List B8) (x : Sc) (p : B8) (h : (scanStep ix wr pats x p).2 = 0) (l : List B8) : scanL ix wr pats (p :: l) x = scanL ix wr pats l (scanStep ix wr pats x p).1 := by
  rw [scanL, if_neg (by simpa using h)]

theorem good_scanL (ix : Files) (wr : Int) (pats : List B8) : ∀ (l : List B8) {n : Nat} {x : Sc}, Good n x.m → Good (n + 5 * l.length) (scanL ix wr pats l x).1.m
  | [], n, x, h => h
  | p :: l, n, x, h => by
    have hs := good_step h ix wr pats p
    rw [List.length_cons]
    by_cases he : (scanStep ix wr pats x p).2 = 0
    · rw [step_next _ _ _ _ _ he]
      exact (good_scanL ix wr pats l hs).mono (by omega)
    · rw [step_plan _ _ _ _ _ he]
      exact hs.mono (by omega)
theorem good_scan {n : Nat} {m : Fs} (h : Good n m) (ix : Files) (wr : Int) (pats : List B8) : Good (n + 1 + 5 * (listM m wP).2.1.length) (scanGo m ix wr pats).1.m := by
  unfold scanGo
  split
  · exact (good_list h _).mono (by omega)
  · exact good_scanL ix wr pats _ (good_list h _)
theorem good_userW {n : Nat} {m : Fs} (h : Good n m) (path : B8) (mode : Int) (data : B8) : Good (n + 1) (userWrite m path mode data).1 := by
  have k8 := left_hap h.ok ⟨0, 4, mode, 0, 0, path, data⟩
  exact h.left (k8.1.mono (by omega)) (by have := k8.2; show (hapM m ⟨0, 4, mode, 0, 0, path, data⟩).calls ≤ _; omega)
/-! ### What the chapter's examples fix -/
def qs0 : Fs := newM 10000
def qs1 : Fs := (putObjM qs0 (blobO [113])).1
def qs2 : Fs := (userWrite qs1 [119, 47, 97] 1 [113]).1
def qa : Sc × Int := scanGo qs2 [] 0 []
def qb : Sc × Int := scanGo qa.1.m qa.1.ix qa.1.m.time []
def qs5 : Fs := (userWrite qb.1.m [118] 1 []).1
def qc : Sc × Int := scanGo qs5 qb.1.ix qb.1.m.time []
def qd : Sc × Int := scanGo qc.1.m qc.1.ix qc.1.m.time []
theorem q_first : qa.2 = 0 ∧ qb.2 = 0 ∧ qc.2 = 0 ∧ qd.2 = 0 ∧ qa.1.n = 1 ∧ qb.1.n = 1 ∧ qc.1.n = 1 ∧ qd.1.n = 0 := by decide +kernel
theorem q_lens : (listM qs2 wP).2.1.length = 1 ∧ (listM qa.1.m wP).2.1.length = 1 ∧ (listM qs5 wP).2.1.length = 1 ∧ (listM qc.1.m wP).2.1.length = 1 := by decide +kernel

/-! ### How many files of users there are -/
def WN (k : Nat) (m : Fs) : Prop := ((pathsL m.now).filter (isUnder wP)).length ≤ k
theorem WN.goes {k : Nat} {m m' : Fs} (h : WN k m) (hg : Goes m m') : WN k m' := by
  unfold WN at h ⊢
  rw [hg.same.2]
  exact h
theorem WN.mono {k n : Nat} {m : Fs} (h : WN k m) (hn : k ≤ n) : WN n m := Nat.le_trans h hn
end Go.Proofs.YtdhgmpibjneplaaGreatDoor

/-! obj: may rows of a tree be; may an object be. Conditions: as each theorem states. -/
namespace Go.Proofs.YtdhgmpibjneplaaGreatDoor
open Go Go.RowKit Go.Sort
set_option linter.unusedVariables false
set_option linter.unusedSimpArgs false
set_option linter.unusedSectionVars false

/-- What was read so far is fine: rows whose names rise. -/
def itT (l : List Itm) (k : Nat) : Bool := (l.take k).all itemOk && risesB ((l.take k).map (·.name))
theorem itT_bad {l : List Itm} {k : Nat} (h : itT l k = false) : itemsOk l = false := by
  unfold itT at h
  unfold itemsOk
  rw [Bool.and_eq_false_iff] at h ⊢
  rcases h with h | h
  · left
    rw [List.all_eq_false] at h ⊢
    obtain ⟨x, hx, hv⟩ := h
    exact ⟨x, List.mem_of_mem_take hx, hv⟩
  · right
    rw [Bool.and_eq_false_iff]
    left
    cases hq : risesB (l.map (·.name)) with
    | false => rfl
    | true =>
      have h9 := rises_cut (l.map (·.name)) k hq
      rw [← List.map_take, h] at h9
      cases h9
def itm0 : Itm := ⟨0, [], []⟩
theorem itT_step {l : List Itm} {k : Nat} {x : Itm} (hx : l[k]? = some x) : itT l (k + 1) = (itT l k && (itemOk x && (decide (k = 0) || ltB (l.getD (k - 1) itm0).name x.name))) := by
  unfold itT
  have h1 : l.take (k + 1) = l.take k ++ [x] := by rw [List.take_add_one, hx]; rfl
  cases k with
  | zero =>
    rw [h1]
    simp [risesB]
  | succ j =>
    have hj : j < l.length := by have := (List.getElem?_eq_some_iff.1 hx).1; omega
    have hy : l[j]? = some (l.getD j itm0) := by rw [List.getD_eq_getElem?_getD, List.getElem?_eq_getElem hj]; rfl
    have ha : (l.map (·.name))[j]? = some (l.getD j itm0).name := by rw [List.getElem?_map, hy]; rfl
    have hb : (l.map (·.name))[j + 1]? = some x.name := by rw [List.getElem?_map, hx]; rfl
    have h2 := rises_take ha hb
    rw [← List.map_take, ← List.map_take] at h2
    rw [h2, h1, List.all_append]
    simp only [List.all_cons, List.all_nil, Bool.and_true, Nat.add_one_sub_one, Nat.add_eq_zero_iff, Nat.one_ne_zero, and_false, decide_false, Bool.false_or]
    cases (l.take (j + 1)).all itemOk <;> cases itemOk x <;> cases risesB ((l.take (j + 1)).map (·.name)) <;> cases ltB (l.getD j itm0).name x.name <;> rfl
theorem it_no {t r : Bool} {x : Itm} {b : Bool} (h : t = !r) (hs : t = (itemOk x && b)) (hx : itemOk x = false) : r = true := by
  rw [hx, Bool.false_and] at hs
  rw [hs] at h
  cases r
  · cases h
  · rfl
theorem it_no2 {t r : Bool} {x : Itm} {b : Bool} (h : t = !r) (hs : t = (itemOk x && b)) (hx : b = false) : r = true := by
  rw [hx, Bool.and_false] at hs
  rw [hs] at h
  cases r
  · cases h
  · rfl
theorem it_yes {t r : Bool} {x : Itm} {b : Bool} (h : t = !r) (hs : t = (itemOk x && b)) (hx : itemOk x = true) (hb : b = true) : r = false := by
  rw [hx, hb] at hs
  rw [hs] at h
  cases r
  · rfl
  · cases h
/-- Rows whose texts are short. -/
def ItSmall (l : List Itm) : Prop := ∀ x ∈ l, x.name.length ≤ 10000000 ∧ x.id.length ≤ 10000000

set_option maxRecDepth 100000 in
set_option maxHeartbeats 8000000 in
theorem mayItems_any (v : Value) (l : List Itm) (w : World) (hv : IsItms w v l) (hs : ItSmall l) :
    Calls Tryz.prog 152 #[v] w fun e w' => e = .returned (.bool (itemsOk l)) ∧ Ext w w' := by
  obtain ⟨a, c, rfl, l1, l2, l3, hg⟩ := hv.get
  have HG : Hid _ := hg
  have HS : Hid _ := hs
  clear hv hg hs
  go_enter Tryz.func152, Tryz.ntmps152
  go_wp2
  go_loopw [7] (fun i wr => ∃ k : Nat, k ≤ l.length ∧ i = .int .i64 k ∧ Hid (itT l k = true) ∧ Hid (Ext w wr)) (fun i _ => l.length - (intOf i).toNat)
  case atStart => exact ⟨0, Nat.zero_le _, rfl, rfl, Ext.refl _⟩
  case round =>
    obtain ⟨k, hk, rfl, HT, HX⟩ := hrel
    by_cases hlt : k < l.length
    · obtain ⟨x, hx⟩ : ∃ x, l[k]? = some x := ⟨_, List.getElem?_eq_getElem hlt⟩
      obtain ⟨bb, oo, rfl, hc0, hc1, hc2⟩ := HG.out k x hx
      obtain ⟨hxn, hxi⟩ := HS.out x (List.mem_of_getElem? hx)
      have hst := itT_step hx
      rw [HT.out, Bool.true_and] at hst
      have HST : Hid _ := hst
      have HPREV : Hid (∀ j, k = j + 1 → wr.cell? ⟨bb, oo + j * 3 + 1, none⟩ = some (S8 (l.getD j itm0).name)) := fun j hj => by
        subst hj
        have hjl : j < l.length := by omega
        obtain ⟨b2, o2, he, -, h9, -⟩ := HG.out j (l.getD j itm0) (by rw [List.getD_eq_getElem?_getD, List.getElem?_eq_getElem hjl]; rfl)
        cases he
        exact HX.out.cell h9
      have y0 := HX.out.cell hc0
      have y1 := HX.out.cell hc1
      have y2 := HX.out.cell hc2
      obtain ⟨mode, name, id⟩ := x
      dsimp only at y0 y1 y2 hxn hxi
      clear hst hx hc0 hc1 hc2
      go_upto_region 4 with fail
      obtain ⟨w4, hw4⟩ : ∃ w4, w4 = wr.alloc (.cells #[.int .i64 mode, S8 name, S8 id] 155) := ⟨_, rfl⟩
      have hx4 : Ext wr w4 := by rw [hw4]; exact (Ext.refl _).alloc _
      have hb4 : w4.heap[wr.heap.size]? = some (.cells #[.int .i64 mode, S8 name, S8 id] 155 (0, 0)) := by rw [hw4]; exact alloc_at _ _
      rw [← hw4]
      obtain ⟨gi, hgi⟩ : ∃ gi, wr.heap.size = gi := ⟨_, rfl⟩
      rw [hgi] at hb4 ⊢
      obtain ⟨z0, z1, z2⟩ := cellsAt3 hb4
      have HX4 : Hid (Ext w w4) := HX.out.trans hx4
      have HP4 : Hid (∀ j, k = j + 1 → w4.cell? ⟨bb, oo + j * 3 + 1, none⟩ = some (S8 (l.getD j itm0).name)) := fun j hj => hx4.cell (HPREV.out j hj)
      have v0 := fun d os => cell_regrown z0 d os
      have v1 := fun d os => cell_regrown z1 d os
      have v2 := fun d os => cell_regrown z2 d os
      obtain ⟨nb, hnb⟩ : ∃ nb, nameB name = nb := ⟨_, rfl⟩
      obtain ⟨vb, hvb⟩ : ∃ vb, validB id = vb := ⟨_, rfl⟩
      have HNB : Hid _ := hnb
      have HVB : Hid _ := hvb
      have HNA : Hid (∀ d os, Calls Tryz.prog 107 #[S8 name] (grow (redrawn w4 d) os) fun e w' => e = .returned (.bool nb) ∧ ∃ q : Regrown, w' = grow (redrawn w4 q.d) q.os) := fun d os =>
        (name_any name _ (by omega)).mono (fun _ _ ⟨he, hw⟩ => ⟨by rw [he, hnb], ⟨d, os⟩, hw⟩)
      have HVA : Hid (∀ d os, Calls Tryz.prog 65 #[S8 id] (grow (redrawn w4 d) os) fun e w' => e = .returned (.bool vb) ∧ ∃ q : Regrown, w' = grow (redrawn w4 q.d) q.os) := fun d os => Calls.regrown_of (by
        have h9 := valid_any id (grow (redrawn w4 d) os) (by omega)
        rwa [hvb] at h9)
      obtain ⟨okk, hokk⟩ : ∃ c, itT l (k + 1) = !c := ⟨!itT l (k + 1), by simp⟩
      have HOK : Hid _ := hokk
      clear hw4 hx4 hb4 hgi z0 z1 z2 y0 y1 y2 hnb hvb hokk HPREV HX
      go_cut [46] (fun c wx => c = .bool okk ∧ Ext w4 wx)
      case first =>
        by_cases h1 : mode < 1
        · have HR : Hid (okk = true) := it_no HOK.out HST.out (by unfold itemOk; rw [decide_eq_false (by omega : ¬ 1 ≤ mode)]; rfl)
          refine qw_below (by kernel_rfl) (by kernel_rfl) ?_
          repeat (refine qw_step (fun K hK => ?_); go_simp; first | (refine hK _ ?_; clear hK K) | (apply Exists.intro; refine ⟨fun _ => ?_, hK _ ?_⟩; (first | exact HNA.out _ _ | exact HVA.out _ _); clear hK K))
          refine qw_nil ?_
          intro _ hw'
          obtain ⟨⟨dq, osq⟩, hw''⟩ := hw'
          subst hw''
          go_wp2_with fail
          go_meet
          case rel => exact ⟨by rw [HR.out], Ext.regrown _ _ _⟩
        by_cases h2 : 4 < mode
        · have HR : Hid (okk = true) := it_no HOK.out HST.out (by unfold itemOk; rw [decide_eq_false (by omega : ¬ mode ≤ 4)]; simp)
          refine qw_below (by kernel_rfl) (by kernel_rfl) ?_
          repeat (refine qw_step (fun K hK => ?_); go_simp; first | (refine hK _ ?_; clear hK K) | (apply Exists.intro; refine ⟨fun _ => ?_, hK _ ?_⟩; (first | exact HNA.out _ _ | exact HVA.out _ _); clear hK K))
          refine qw_nil ?_
          intro _ hw'
          obtain ⟨⟨dq, osq⟩, hw''⟩ := hw'
          subst hw''
          go_wp2_with fail
          go_meet
          case rel => exact ⟨by rw [HR.out], Ext.regrown _ _ _⟩
        cases nb with
        | false =>
          have HR : Hid (okk = true) := it_no HOK.out HST.out (by unfold itemOk; rw [HNB.out]; simp)
          refine qw_below (by kernel_rfl) (by kernel_rfl) ?_
          repeat (refine qw_step (fun K hK => ?_); go_simp; first | (refine hK _ ?_; clear hK K) | (apply Exists.intro; refine ⟨fun _ => ?_, hK _ ?_⟩; (first | exact HNA.out _ _ | exact HVA.out _ _); clear hK K))
          refine qw_nil ?_
          intro _ hw'
          obtain ⟨⟨dq, osq⟩, hw''⟩ := hw'
          subst hw''
          go_wp2_with fail
          go_meet
          case rel => exact ⟨by rw [HR.out], Ext.regrown _ _ _⟩
        | true =>
        cases vb with
        | false =>
          have HR : Hid (okk = true) := it_no HOK.out HST.out (by unfold itemOk; rw [HVB.out]; simp)
          refine qw_below (by kernel_rfl) (by kernel_rfl) ?_
          repeat (refine qw_step (fun K hK => ?_); go_simp; first | (refine hK _ ?_; clear hK K) | (apply Exists.intro; refine ⟨fun _ => ?_, hK _ ?_⟩; (first | exact HNA.out _ _ | exact HVA.out _ _); clear hK K))
          refine qw_nil ?_
          intro _ hw'
          obtain ⟨⟨dq, osq⟩, hw''⟩ := hw'
          subst hw''
          go_wp2_with fail
          go_meet
          case rel => exact ⟨by rw [HR.out], Ext.regrown _ _ _⟩
        | true =>
        have HIO : Hid (itemOk ⟨mode, name, id⟩ = true) := by unfold Hid itemOk; rw [decide_eq_true (by omega : 1 ≤ mode), decide_eq_true (by omega : mode ≤ 4), HNB.out, HVB.out]; rfl
        by_cases hk0 : k = 0
        · have HR : Hid (okk = false) := it_yes HOK.out HST.out HIO.out (by rw [hk0]; rfl)
          subst hk0
          refine qw_below (by kernel_rfl) (by kernel_rfl) ?_
          repeat (refine qw_step (fun K hK => ?_); go_simp; first | (refine hK _ ?_; clear hK K) | (apply Exists.intro; refine ⟨fun _ => ?_, hK _ ?_⟩; (first | exact HNA.out _ _ | exact HVA.out _ _); clear hK K))
          refine qw_nil ?_
          intro _ hw'
          obtain ⟨⟨dq, osq⟩, hw''⟩ := hw'
          subst hw''
          go_wp2_with fail
          go_meet
          case rel => exact ⟨by rw [HR.out], Ext.regrown _ _ _⟩
        · obtain ⟨j, rfl⟩ : ∃ j, k = j + 1 := ⟨k - 1, by omega⟩
          have hwj : IntKind.i64.wrap (((j + 1 : Nat) : Int) - 1) = (j : Int) := by rw [IntWalk.i64_in _ (by omega)]; omega
          have y3 := HP4.out j rfl
          obtain ⟨z, hz⟩ : ∃ z, (l.getD j itm0).name = z := ⟨_, rfl⟩
          rw [hz] at y3
          have v3 := fun d os => cell_regrown y3 d os
          have hk1 : (0 : Int) < ((j + 1 : Nat) : Int) := by omega
          have hwj2 : IntKind.i64.wrap (j : Int) = (j : Int) := IntWalk.i64_in _ (by omega)
          have hk2 : (0 : Int) < (j : Int) + 1 := by omega
          have hjl : j < l.length := by omega
          have HZ : Hid _ := hz
          clear hz y3
          rcases leT_cases name z with ⟨hlt9, hb, he⟩ | ⟨hlt9, hb⟩ | ⟨hlt9, hb, he⟩
          · have HR : Hid (okk = false) := it_yes HOK.out HST.out HIO.out (by rw [show j + 1 - 1 = j from rfl, HZ.out, hlt9]; simp)
            clear hlt9
            refine qw_below (by kernel_rfl) (by kernel_rfl) ?_
            repeat (refine qw_step (fun K hK => ?_); go_simp; first | (refine hK _ ?_; clear hK K) | (apply Exists.intro; refine ⟨fun _ => ?_, hK _ ?_⟩; (first | exact HNA.out _ _ | exact HVA.out _ _); clear hK K))
            refine qw_nil ?_
            intro _ hw'
            obtain ⟨⟨dq, osq⟩, hw''⟩ := hw'
            subst hw''
            go_wp2_with fail
            go_meet
            case rel => exact ⟨by rw [HR.out], Ext.regrown _ _ _⟩
          · have HR : Hid (okk = true) := it_no2 HOK.out HST.out (by rw [show j + 1 - 1 = j from rfl, HZ.out, hlt9]; simp)
            clear hlt9
            refine qw_below (by kernel_rfl) (by kernel_rfl) ?_
            repeat (refine qw_step (fun K hK => ?_); go_simp; first | (refine hK _ ?_; clear hK K) | (apply Exists.intro; refine ⟨fun _ => ?_, hK _ ?_⟩; (first | exact HNA.out _ _ | exact HVA.out _ _); clear hK K))
            refine qw_nil ?_
            intro _ hw'
            obtain ⟨⟨dq, osq⟩, hw''⟩ := hw'
            subst hw''
            go_wp2_with fail
            go_meet
            case rel => exact ⟨by rw [HR.out], Ext.regrown _ _ _⟩
          · have HR : Hid (okk = true) := it_no2 HOK.out HST.out (by rw [show j + 1 - 1 = j from rfl, HZ.out, hlt9]; simp)
            clear hlt9
            refine qw_below (by kernel_rfl) (by kernel_rfl) ?_
            repeat (refine qw_step (fun K hK => ?_); go_simp; first | (refine hK _ ?_; clear hK K) | (apply Exists.intro; refine ⟨fun _ => ?_, hK _ ?_⟩; (first | exact HNA.out _ _ | exact HVA.out _ _); clear hK K))
            refine qw_nil ?_
            intro _ hw'
            obtain ⟨⟨dq, osq⟩, hw''⟩ := hw'
            subst hw''
            go_wp2_with fail
            go_meet
            case rel => exact ⟨by rw [HR.out], Ext.regrown _ _ _⟩
      case rest =>
        obtain ⟨rfl, hxc⟩ := hcut
        have HXC : Hid (Ext w wc) := HX4.out.trans hxc
        clear hxc
        cases okk with
        | true =>
          have HF : Hid (itemsOk l = false) := itT_bad (k := k + 1) (by rw [HOK.out]; rfl)
          go_wp2
          go_ret
          exact ⟨ret_b HF.out.symm, HXC.out⟩
        | false =>
          have HP : Hid (itT l (k + 1) = true) := by unfold Hid; rw [HOK.out]; rfl
          go_wp2
          go_roundw
          case rel => exact ⟨k + 1, by omega, by go_num, HP, HXC⟩
          case measure => simp [intOf]; omega
    · have hkl : k = l.length := by omega
      have HF : Hid (itemsOk l = decide (l.length ≤ 256)) := by
        have h9 := HT.out
        unfold itT at h9
        rw [hkl, List.take_length, Bool.and_eq_true] at h9
        unfold Hid itemsOk
        rw [h9.1, h9.2, Bool.true_and, Bool.true_and]
      clear hk
      go_wp2
      go_ret
      refine ⟨ret_b ?_, HX.out⟩
      rw [HF.out]
      exact decide_eq_decide.2 (by omega)

end Go.Proofs.YtdhgmpibjneplaaGreatDoor

/-! obj: may an object be. Conditions: as each theorem states. -/
namespace Go.Proofs.YtdhgmpibjneplaaGreatDoor
open Go Go.RowKit
set_option linter.unusedVariables false
set_option linter.unusedSimpArgs false
set_option linter.unusedSectionVars false

/-- An object whose texts are short. -/
structure ObSmall (o : Ob) : Prop where
  items : ItSmall o.items
  pars : ∀ s ∈ o.parents, s.length ≤ 10000000
  tree : o.tree.length ≤ 10000000
  msg : o.msg.length ≤ 10000000
theorem cellsAt8 {w : World} {g : Nat} {v0 v1 v2 v3 v4 v5 v6 v7 : Value} {t : TypeId} {fr : Nat × Nat} (h : w.heap[g]? = some (.cells #[v0, v1, v2, v3, v4, v5, v6, v7] t fr)) :
    w.cell? ⟨g, 0, none⟩ = some v0 ∧ w.cell? ⟨g, 1, none⟩ = some v1 ∧ w.cell? ⟨g, 2, none⟩ = some v2 ∧ w.cell? ⟨g, 3, none⟩ = some v3 ∧ w.cell? ⟨g, 4, none⟩ = some v4 ∧ w.cell? ⟨g, 5, none⟩ = some v5 ∧ w.cell? ⟨g, 6, none⟩ = some v6 ∧ w.cell? ⟨g, 7, none⟩ = some v7 := by
  simp [World.cell?, h]

set_option maxRecDepth 100000 in
set_option maxHeartbeats 8000000 in
theorem oMay_any (v : Value) (o : Ob) (w : World) (hv : IsOb w v o) (hs : ObSmall o) :
    Calls Tryz.prog 114 #[v] w fun e w' => e = .returned (.bool (mayO o)) ∧ Ext w w' := by
  obtain ⟨vd, vi, vp, rfl, hd, hi, hp⟩ := hv
  obtain ⟨wa, hwa⟩ : ∃ wa, wa = w.alloc (.cells #[.int .i64 o.kind, vd, vi, S8 o.tree, vp, .int .i64 o.stamp, .int .i64 o.author, S8 o.msg] 72) := ⟨_, rfl⟩
  have hxa : Ext w wa := by rw [hwa]; exact (Ext.refl _).alloc _
  have hba : wa.heap[w.heap.size]? = some (.cells #[.int .i64 o.kind, vd, vi, S8 o.tree, vp, .int .i64 o.stamp, .int .i64 o.author, S8 o.msg] 72 (0, 0)) := by rw [hwa]; exact alloc_at _ _
  obtain ⟨gb, hgb⟩ : ∃ gb, w.heap.size = gb := ⟨_, rfl⟩
  have HNC : Hid (∀ w', Ext w w' → Calls Tryz.prog 151 #[obV o vd vi vp] w' fun e w'' => e = .returned (.bool (noCom o)) ∧ Ext w' w'') := fun w' hx => noCommit_any o vd vi vp w' (hp.ext hx)
  have HIT : Hid (∀ w', Ext w w' → Calls Tryz.prog 152 #[vi] w' fun e w'' => e = .returned (.bool (itemsOk o.items)) ∧ Ext w' w'') := fun w' hx => mayItems_any vi o.items w' (hi.ext hx) hs.items
  have HPA : Hid (∀ w', Ext w w' → Calls Tryz.prog 153 #[vp] w' fun e w'' => e = .returned (.bool (parsOk o.parents)) ∧ Ext w' w'') := fun w' hx => mayParents_any vp o.parents w' (hp.ext hx) hs.pars
  obtain ⟨da, dc, rfl, -, -, -, -⟩ := hd.get
  obtain ⟨ia, ic, rfl, -, -, -, -⟩ := hi.get
  obtain ⟨htr, hms⟩ : o.tree.length ≤ 10000000 ∧ o.msg.length ≤ 10000000 := ⟨hs.tree, hs.msg⟩
  obtain ⟨kind, data, items, tree, parents, stamp, author, msg⟩ := o
  obtain ⟨r, hr⟩ : ∃ r, mayO ⟨kind, data, items, tree, parents, stamp, author, msg⟩ = r := ⟨_, rfl⟩
  rw [hr]
  have HR : Hid _ := hr
  obtain ⟨nc, hnc⟩ : ∃ c, noCom ⟨kind, data, items, tree, parents, stamp, author, msg⟩ = c := ⟨_, rfl⟩
  rw [hnc] at HNC
  have HNB : Hid _ := hnc
  unfold obV at HNC ⊢
  dsimp only at HNC HIT HPA hba hwa htr hms ⊢
  obtain ⟨io, hio⟩ : ∃ c, itemsOk items = c := ⟨_, rfl⟩
  rw [hio] at HIT
  have HIO : Hid _ := hio
  obtain ⟨po, hpo⟩ : ∃ c, parsOk parents = c := ⟨_, rfl⟩
  rw [hpo] at HPA
  have HPO : Hid _ := hpo
  rw [hgb] at hba
  obtain ⟨c0, c1, c2, c3, c4, c5, c6, c7⟩ := cellsAt8 hba
  have HXA : Hid (Ext w wa) := hxa
  have HWA : Hid _ := hwa
  have HBA : Hid _ := hba
  clear hd hi hp hs hr hnc hio hpo hxa hwa hba
  go_enter Tryz.func114, Tryz.ntmps114
  go_upto_region 1 with fail
  rw [← HWA.out]
  by_cases k1 : kind = 1
  · have b1 : (kind == 1) = true := by simpa using k1
    have HRE : Hid (r = (decide (data.length ≤ 20000) && ((items.length == 0) && nc))) := by rw [← HR.out, ← HNB.out]; unfold Hid mayO; rw [if_pos k1]
    clear k1
    by_cases h2 : (data.length : Int) ≤ 20000
    · by_cases h3 : items.length = 0
      · have b3 : ((items.length : Int) == 0) = true := by rw [beq_iff_eq]; omega
        have HF : Hid (r = nc) := by unfold Hid; rw [HRE.out, h3, decide_eq_true (by omega : data.length ≤ 20000)]; rfl
        clear h3
        go_wp2_with fail
        go_at_call 151
        refine (HNC.out wa HXA.out).mono ?_
        rintro e w1 ⟨rfl, hx1⟩
        have HX1 : Hid (Ext w w1) := HXA.out.trans hx1
        clear hx1
        go_wp2
        go_ret
        exact ⟨ret_b HF.out.symm, HX1.out⟩
      · have b3 : ((items.length : Int) == 0) = false := by rw [beq_eq_false_iff_ne]; omega
        have HF : Hid (r = false) := by unfold Hid; rw [HRE.out, show (items.length == 0) = false by simpa using h3]; simp
        clear h3
        go_wp2
        go_ret
        exact ⟨ret_b HF.out.symm, HXA.out⟩
    · have HF : Hid (r = false) := by unfold Hid; rw [HRE.out, decide_eq_false (by omega : ¬ data.length ≤ 20000)]; rfl
      go_wp2
      go_ret
      exact ⟨ret_b HF.out.symm, HXA.out⟩
  have b1 : (kind == 1) = false := by simpa using k1
  by_cases k2 : kind = 2
  · have b2 : (kind == 2) = true := by simpa using k2
    have HRE : Hid (r = ((data.length == 0) && (io && nc))) := by rw [← HR.out, ← HNB.out, ← HIO.out]; unfold Hid mayO; rw [if_neg k1, if_pos k2]
    clear k1 k2
    by_cases h2 : data.length = 0
    · have b3 : ((data.length : Int) == 0) = true := by rw [beq_iff_eq]; omega
      have HRE2 : Hid (r = (io && nc)) := by unfold Hid; rw [HRE.out, h2]; rfl
      clear h2
      go_wp2_with fail
      go_at_call 152
      refine (HIT.out wa HXA.out).mono ?_
      rintro e w1 ⟨rfl, hx1⟩
      have HX1 : Hid (Ext w w1) := HXA.out.trans hx1
      have HB1 : Hid _ := Ext.row hx1 HBA.out
      obtain ⟨d0, d1, d2, d3, d4, d5, d6, d7⟩ := cellsAt8 HB1.out
      clear hx1
      cases io with
      | true =>
        have HF : Hid (r = nc) := by unfold Hid; rw [HRE2.out]; rfl
        go_wp2_with fail
        go_at_call 151
        refine (HNC.out w1 HX1.out).mono ?_
        rintro e w2 ⟨rfl, hx2⟩
        have HX2 : Hid (Ext w w2) := HX1.out.trans hx2
        clear hx2
        go_wp2
        go_ret
        exact ⟨ret_b HF.out.symm, HX2.out⟩
      | false =>
        have HF : Hid (r = false) := by unfold Hid; rw [HRE2.out]; rfl
        go_wp2
        go_ret
        exact ⟨ret_b HF.out.symm, HX1.out⟩
    · have b3 : ((data.length : Int) == 0) = false := by rw [beq_eq_false_iff_ne]; omega
      have HF : Hid (r = false) := by unfold Hid; rw [HRE.out, show (data.length == 0) = false by simpa using h2]; rfl
      clear h2
      go_wp2
      go_ret
      exact ⟨ret_b HF.out.symm, HXA.out⟩
  have b2 : (kind == 2) = false := by simpa using k2
  by_cases k3 : kind = 3
  · have b3 : (kind == 3) = true := by simpa using k3
    have HRE : Hid (r = ((data.length == 0) && ((items.length == 0) && (validB tree && (po && ((decide (0 ≤ stamp) && decide (stamp ≤ 1099511627776)) && ((decide (0 ≤ author) && decide (author ≤ 255)) && msgOk msg))))))) := by rw [← HR.out, ← HPO.out]; unfold Hid mayO; rw [if_neg k1, if_neg k2, if_pos k3]
    clear k1 k2 k3
    by_cases h2 : data.length = 0
    case neg =>
      have b4 : ((data.length : Int) == 0) = false := by rw [beq_eq_false_iff_ne]; omega
      have HF : Hid (r = false) := by unfold Hid; rw [HRE.out, show (data.length == 0) = false by simpa using h2]; rfl
      clear h2
      go_wp2
      go_ret
      exact ⟨ret_b HF.out.symm, HXA.out⟩
    have b4 : ((data.length : Int) == 0) = true := by rw [beq_iff_eq]; omega
    by_cases h3 : items.length = 0
    case neg =>
      have b5 : ((items.length : Int) == 0) = false := by rw [beq_eq_false_iff_ne]; omega
      have HF : Hid (r = false) := by unfold Hid; rw [HRE.out, show (items.length == 0) = false by simpa using h3]; simp
      clear h2 h3
      go_wp2
      go_ret
      exact ⟨ret_b HF.out.symm, HXA.out⟩
    have b5 : ((items.length : Int) == 0) = true := by rw [beq_iff_eq]; omega
    obtain ⟨vt, hvt⟩ : ∃ vt, validB tree = vt := ⟨_, rfl⟩
    have HVT : Hid _ := hvt
    have HRE2 : Hid (r = (vt && (po && ((decide (0 ≤ stamp) && decide (stamp ≤ 1099511627776)) && ((decide (0 ≤ author) && decide (author ≤ 255)) && msgOk msg))))) := by unfold Hid; rw [HRE.out, h2, h3, hvt]; rfl
    clear h2 h3 hvt
    go_wp2_with fail
    go_at_call 65
    refine (valid_any tree wa (by omega)).mono ?_
    rw [HVT.out]
    rintro e w1 ⟨rfl, hx1⟩
    have HX1 : Hid (Ext w w1) := HXA.out.trans hx1
    have HB1 : Hid _ := Ext.row hx1 HBA.out
    obtain ⟨d0, d1, d2, d3, d4, d5, d6, d7⟩ := cellsAt8 HB1.out
    clear hx1
    cases vt with
    | false =>
      have HF : Hid (r = false) := by unfold Hid; rw [HRE2.out]; rfl
      go_wp2
      go_ret
      exact ⟨ret_b HF.out.symm, HX1.out⟩
    | true =>
    go_wp2_with fail
    go_at_call 153
    refine (HPA.out w1 HX1.out).mono ?_
    rintro e w2 ⟨rfl, hx2⟩
    have HX2 : Hid (Ext w w2) := HX1.out.trans hx2
    obtain ⟨e0, e1, e2, e3, e4, e5, e6, e7⟩ := cellsAt8 (Ext.row hx2 HB1.out)
    clear hx2
    cases po with
    | false =>
      have HF : Hid (r = false) := by unfold Hid; rw [HRE2.out]; rfl
      go_wp2
      go_ret
      exact ⟨ret_b HF.out.symm, HX2.out⟩
    | true =>
    by_cases h6 : (0 : Int) ≤ stamp
    case neg =>
      have HF : Hid (r = false) := by unfold Hid; rw [HRE2.out, decide_eq_false h6]; rfl
      go_wp2
      go_ret
      exact ⟨ret_b HF.out.symm, HX2.out⟩
    by_cases h7 : stamp ≤ 1099511627776
    case neg =>
      have HF : Hid (r = false) := by unfold Hid; rw [HRE2.out, decide_eq_false h7]; simp
      go_wp2
      go_ret
      exact ⟨ret_b HF.out.symm, HX2.out⟩
    by_cases h8 : (0 : Int) ≤ author
    case neg =>
      have HF : Hid (r = false) := by unfold Hid; rw [HRE2.out, decide_eq_false h8]; simp
      go_wp2
      go_ret
      exact ⟨ret_b HF.out.symm, HX2.out⟩
    by_cases h9 : author ≤ 255
    case neg =>
      have HF : Hid (r = false) := by unfold Hid; rw [HRE2.out, decide_eq_false h9]; simp
      go_wp2
      go_ret
      exact ⟨ret_b HF.out.symm, HX2.out⟩
    have HF : Hid (r = msgOk msg) := by unfold Hid; rw [HRE2.out, decide_eq_true h6, decide_eq_true h7, decide_eq_true h8, decide_eq_true h9]; rfl
    go_wp2_with fail
    go_at_call 154
    refine (mayMsg_any msg w2 (by omega)).mono ?_
    rintro e w3 ⟨rfl, rfl⟩
    go_wp2
    go_ret
    exact ⟨ret_b HF.out.symm, HX2.out⟩
  · have b3 : (kind == 3) = false := by simpa using k3
    have HF : Hid (r = false) := by rw [← HR.out]; unfold Hid mayO; rw [if_neg k1, if_neg k2, if_neg k3]
    clear k1 k2 k3
    go_wp2
    go_ret
    exact ⟨ret_b HF.out.symm, HXA.out⟩

end Go.Proofs.YtdhgmpibjneplaaGreatDoor

/-! obj: a number, a hash behind bytes. Conditions: as each theorem states. -/
namespace Go.Proofs.YtdhgmpibjneplaaGreatDoor
open Go Go.RowKit
set_option linter.unusedVariables false
set_option linter.unusedSimpArgs false
set_option linter.unusedSectionVars false

abbrev U8s (l : B8) : List Value := l.map fun x => .int .u8 x.toNat
theorem u8s_app (l r : B8) : U8s (l ++ r) = U8s l ++ U8s r := List.map_append
theorem grown_far {w w1 w2 : World} {g : Option Nat} (h : Ext w w1) (k : w1.grownBy w2 g) : w.grownBy w2 g := (h.grown.but g).trans k
/-- Where a slice that grew lies: where it lay, or in a new block. -/
def Near (w : World) (v v' : Value) : Prop := ∀ k, v'.ownBlock = some k → v.ownBlock = some k ∨ w.heap.size ≤ k
theorem Near.of {w : World} {v v' : Value} (h : v'.ownBlock = v.ownBlock ∨ v'.ownBlock = some w.heap.size) : Near w v v' := fun k hk => by
  rcases h with h | h
  · exact .inl (h.symm.trans hk)
  · rw [h] at hk; cases hk; exact .inr (Nat.le_refl _)
abbrev Ow (base : Nat) (w : World) (v : Value) (l : B8) : Prop := w.ownsRow base 5 1 v l.length (U8s l)
theorem appB_run {w : World} (base : Nat) (ty : TypeId) (v : Value) (l : B8) (hown : Ow base w v l) (xv : Value) (r : B8) (hrow : IsBytes w xv r) (hl : l.length + r.length ≤ 1000000000) (hbase : base ≤ w.heap.size) :
    ∃ v' w', (Builtin.append_ #[35, 35] 35 #[v, xv]).run Tryz.prog w = .ok v' w' ∧ Ow base w' v' (l ++ r) ∧ w.grownBy w' v.ownBlock ∧ Near w v v' := by
  obtain ⟨v', w', hr, h2, h3, h4⟩ := appS_run 35 5 (.int .u8 0) 1 1 Tryz.underlying35 info_u8 rfl (by omega) base v l.length _ hown xv r.length (U8s r) hrow (by simp) (fun u hu => by obtain ⟨_, _, rfl⟩ := List.mem_map.1 hu; rfl) (by omega) (by omega) hbase
  exact ⟨v', w', hr, by unfold Ow; rw [List.length_append, u8s_app]; exact h2, h3, Near.of h4⟩
theorem appT_run {w : World} (base : Nat) (v : Value) (l : B8) (hown : Ow base w v l) (r : B8) (hl : l.length + r.length ≤ 1000000000) (hbase : base ≤ w.heap.size) :
    ∃ v' w', (Builtin.append_ #[35, 9] 35 #[v, S8 r]).run Tryz.prog w = .ok v' w' ∧ Ow base w' v' (l ++ r) ∧ w.grownBy w' v.ownBlock ∧ Near w v v' := by
  obtain ⟨i0, hi, hz0, hz1, hz2⟩ := info_parts info_u8
  have hsz : (⟨r.toArray⟩ : ByteArray).size = r.length := by simp [ByteArray.size]
  have key : ∀ b, w.ownsRow b 5 1 v l.length (U8s l) → b ≤ w.heap.size → ∃ v' w', (Builtin.append_ #[35, 9] 35 #[v, S8 r]).run Tryz.prog w = .ok v' w' ∧ w'.ownsRow b 5 1 v' (l ++ r).length (U8s (l ++ r)) ∧ w.grownBy w' v.ownBlock := fun b hb hbs => by
    obtain ⟨v', w', hr, h1, h2, -⟩ := Lib.run_append_own_string (P := Tryz.prog) w b 35 9 35 5 i0 Tryz.underlying35 Tryz.underlying9 hi hz0 hz1 hz2 v l.length _ hb ⟨r.toArray⟩ (by rw [hsz]; unfold maxLen; omega) (by rw [hsz]; omega) hbs
    rw [hsz] at h1
    exact ⟨v', w', hr, by rw [List.length_append, u8s_app]; exact h1, h2⟩
  obtain ⟨v', w', hr, h1, h2⟩ := key base hown hbase
  refine ⟨v', w', hr, h1, h2, ?_⟩
  have h0 := hown
  rcases hown.2 with ⟨rfl, hn⟩ | ⟨g, cap, cur, rfl, hbg, hg, hnc, hcm, hcs, htake⟩
  · have hle : l.length = 0 := hn
    have hl0 : l = [] := List.eq_nil_of_length_eq_zero hle
    subst hl0
    obtain ⟨v2, w2, hr2, h3, -⟩ := key w.heap.size (World.ownsRow_nil _ _ _ _) (Nat.le_refl _)
    rw [hr] at hr2
    cases hr2
    exact fun k hk => .inr (h3.lt k hk).1
  · by_cases hroom : l.length + r.length ≤ cap
    · have hcs' : cur.size = cap := by simpa using hcs
      have hr2 := Lib.run_append_room_string (P := Tryz.prog) w 35 9 35 5 i0 Tryz.underlying35 Tryz.underlying9 hi hz1 g l.length cap cur hg ⟨r.toArray⟩ (by rw [hsz]; exact hroom) (by omega)
      rw [hr] at hr2
      cases hr2
      exact fun k hk => .inl hk
    · have holds : ∀ j u, (U8s l)[j]? = some u → w.cell? ((⟨g, 0, none⟩ : Addr).add j) = some u := h0.cells (g := g) rfl
      have hr2 := Lib.run_append_grow_string (P := Tryz.prog) w 35 9 35 5 i0 (.int .u8 0) Tryz.underlying35 Tryz.underlying9 hi hz0 ⟨g, 0, none⟩ l.length cap (U8s l) (by rw [hz1]; simp) holds ⟨r.toArray⟩ (by rw [hsz]; unfold maxLen at hcm; omega) (by rw [hsz]; omega) (by rw [hz2, hsz]; exact growslice_fits (by omega) (by omega))
      rw [hr] at hr2
      cases hr2
      exact fun k hk => by cases hk; exact .inr (Nat.le_refl _)
section
variable {ops : Array Oper} {rest : List Oper} {o : Oper} {a : Act} {Q : Exit → Act → World → Prop} {w : World}
/-- append of bytes, of whatever slice. -/
theorem app_bs (hgd : o.guard = none) (s x : Operand) (ho : o.op = .call { callee := .builtin .append, args := #[s, x], argTypes := #[35, 35] }) (hty : o.type = 35)
    (base : Nat) (v : Value) (l : B8) (hs : a.eval s = v) (hown : Ow base w v l)
    (xv : Value) (r : B8) (hx : a.eval x = xv) (hrow : IsBytes w xv r) (hl : l.length + r.length ≤ 1000000000) (hbase : base ≤ w.heap.size)
    (h : ∀ v' w', Ow base w' v' (l ++ r) → w.grownBy w' v.ownBlock → Near w v v' → wpList Tryz.prog ops Q rest (a.put o.dst v') w') : wpList Tryz.prog ops Q (o :: rest) a w := by
  refine wpList_plain hgd fun K hK => ?_
  obtain ⟨v', w', hr, h2, h3, h4⟩ := appB_run base 35 v l hown xv r hrow hl hbase
  unfold Oper.wp execOp
  simp only [ho, hty, resolve, invoke, builtin, Sem.run_bind, Sem.run_pure, Result.andThen_ok, List.map_toArray, List.map_cons, List.map_nil, hs, hx, hr]
  exact hK _ _ (h v' w' h2 h3 h4)
/-- append of a text. -/
theorem app_tx (hgd : o.guard = none) (s x : Operand) (ho : o.op = .call { callee := .builtin .append, args := #[s, x], argTypes := #[35, 9] }) (hty : o.type = 35)
    (base : Nat) (v : Value) (l : B8) (hs : a.eval s = v) (hown : Ow base w v l)
    (r : B8) (hx : a.eval x = S8 r) (hl : l.length + r.length ≤ 1000000000) (hbase : base ≤ w.heap.size)
    (h : ∀ v' w', Ow base w' v' (l ++ r) → w.grownBy w' v.ownBlock → Near w v v' → wpList Tryz.prog ops Q rest (a.put o.dst v') w') : wpList Tryz.prog ops Q (o :: rest) a w := by
  refine wpList_plain hgd fun K hK => ?_
  obtain ⟨v', w', hr, h2, h3, h4⟩ := appT_run base v l hown r hl hbase
  unfold Oper.wp execOp
  simp only [ho, hty, resolve, invoke, builtin, Sem.run_bind, Sem.run_pure, Result.andThen_ok, List.map_toArray, List.map_cons, List.map_nil, hs, hx, hr]
  exact hK _ _ (h v' w' h2 h3 h4)
end
theorem Near.far {w w1 : World} {v v' : Value} (h : Near w1 v v') (hx : w.heap.size ≤ w1.heap.size) : Near w v v' := fun k hk => by
  rcases h k hk with h | h
  · exact .inl h
  · exact .inr (Nat.le_trans hx h)

set_option maxRecDepth 100000 in
set_option maxHeartbeats 1000000 in
theorem number_any (v : Value) (l : B8) (n : Int) (base : Nat) (w : World) (hown : Ow base w v l) (hb : base ≤ w.heap.size) (hl : l.length ≤ 100000000) :
    Calls Tryz.prog 115 #[v, .int .i64 n] w fun e w' => ∃ v', e = .returned v' ∧ Ow base w' v' (l ++ (putW n).1) ∧ w.grownBy w' v.ownBlock ∧ Near w v v' := by
  have HO : Hid _ := hown
  have hpl : (putW n).1.length ≤ 9 := by
    unfold putW
    split
    · simp
    · exact putN_len9 (by omega)
  have hva : v = .slice none 0 0 ∨ ∃ g c, v = .slice (some ⟨g, 0, none⟩) l.length c := by
    rcases hown.2 with ⟨h, -⟩ | ⟨g, c, cur, h, -⟩
    · exact .inl h
    · exact .inr ⟨g, c, h⟩
  clear hown
  obtain ⟨vb, vn, vc, rfl⟩ : ∃ b n c, v = .slice b n c := by
    rcases hva with h | ⟨g, c, h⟩
    · exact ⟨_, _, _, h⟩
    · exact ⟨_, _, _, h⟩
  clear hva
  have HC : Hid _ := wPut_any n w
  obtain ⟨⟨p, e⟩, hq⟩ : ∃ q, putW n = q := ⟨_, rfl⟩
  rw [hq] at hpl HC ⊢
  clear hq
  go_enter Tryz.func115, Tryz.ntmps115
  go_wp2_with fail
  go_at_call 155
  refine Calls.mono HC.out ?_
  rintro e9 w1 ⟨⟨x, rfl, hx⟩, hx1⟩
  have HXB : Hid (IsBytes w1 x p) := by unfold Hid IsBytes; exact Row.of_owns hx (by omega)
  have HX1 : Hid (Ext w w1) := hx1
  have hsz1 := hx1.size
  clear hx hx1 HC
  try dsimp only at hpl ⊢
  go_wp2_with (at_builtin; go_must (refine app_bs rfl _ _ rfl rfl base _ l rfl (owns_ext HO.out HX1.out) _ p rfl HXB.out (by omega) (by omega) ?_; intro v' w2 hown2 hg2 hn2))
  go_ret
  exact ⟨_, rfl, hown2, grown_far HX1.out hg2, hn2.far hsz1⟩

set_option maxRecDepth 100000 in
set_option maxHeartbeats 1000000 in
theorem hashO_any (v : Value) (l id : B8) (base : Nat) (w : World) (hown : Ow base w v l) (hb : base ≤ w.heap.size) (hl : l.length ≤ 100000000) (hv : validB id = true) :
    Calls Tryz.prog 116 #[v, S8 id] w fun e w' => ∃ v', e = .returned v' ∧ Ow base w' v' (l ++ rawH id) ∧ w.grownBy w' v.ownBlock ∧ Near w v v' := by
  have HO : Hid _ := hown
  obtain ⟨h32, -⟩ := raw_of hv
  obtain ⟨vb, vn, vc, rfl⟩ : ∃ b n c, v = .slice b n c := by
    rcases hown.2 with ⟨h, -⟩ | ⟨g, c, cur, h, -⟩
    · exact ⟨_, _, _, h⟩
    · exact ⟨_, _, _, h⟩
  clear hown
  have hil : id.length ≤ 30000000 := by
    unfold validB at hv
    cases hu : unhexM id with
    | none => rw [hu] at hv; cases hv
    | some b =>
      rw [hu] at hv
      have h9 := (unhex_len id hu).1
      have : b.length = 32 := by simpa using hv
      omega
  have hun : unhexM id = some (rawH id) := by
    unfold validB at hv
    unfold rawH
    cases hu : unhexM id with
    | none => rw [hu] at hv; cases hv
    | some b => rfl
  have hc := unhex_any id w hil
  unfold UnhexPost at hc
  rw [hun] at hc
  dsimp only at hc
  have HC : Hid _ := hc
  obtain ⟨p, hp⟩ : ∃ p, rawH id = p := ⟨_, rfl⟩
  rw [hp] at h32 HC ⊢
  clear hc hp hun hv
  go_enter Tryz.func116, Tryz.ntmps116
  go_wp2_with fail
  go_at_call 105
  refine Calls.mono HC.out ?_
  rintro e9 w1 ⟨⟨x, rfl, hx⟩, hx1⟩
  have HXB : Hid (IsBytes w1 x p) := hx
  have HX1 : Hid (Ext w w1) := hx1
  have hsz1 := hx1.size
  clear hx hx1 HC
  go_wp2_with (at_builtin; go_must (refine app_bs rfl _ _ rfl rfl base _ l rfl (owns_ext HO.out HX1.out) _ p rfl HXB.out (by omega) (by omega) ?_; intro v' w2 hown2 hg2 hn2))
  go_ret
  exact ⟨_, rfl, hown2, grown_far HX1.out hg2, hn2.far hsz1⟩

end Go.Proofs.YtdhgmpibjneplaaGreatDoor

/-! A slice of bytes of the call's own that grows step by step inside a region that draws its order. Conditions: as each theorem states. -/
namespace Go.Proofs.YtdhgmpibjneplaaGreatDoor
open Go Go.RowKit
set_option linter.unusedVariables false
set_option linter.unusedSimpArgs false
set_option linter.unusedSectionVars false

/-- What the steps za, zb, zc have made of v0, and the literal zl. -/
structure ChJ (w0 : World) (base : Nat) (v0 : Value) (c : UInt8) (l0 l1 l2 l3 : B8) (zl za zb zc : Option Value) (w : World) : Prop where
  ext : w0.grownBy w v0.ownBlock
  cur : ∃ cv cl, ((za = none ∧ zb = none ∧ zc = none ∧ cv = v0 ∧ cl = l0) ∨ (za = some cv ∧ zb = none ∧ zc = none ∧ cl = l1) ∨ (za ≠ none ∧ zb = some cv ∧ zc = none ∧ cl = l2) ∨ (za ≠ none ∧ zb ≠ none ∧ zc = some cv ∧ cl = l3)) ∧
    Ow base w cv cl ∧ Near w0 v0 cv ∧ ∀ u, zl = some u → ∃ g, u = .slice (some ⟨g, 0, none⟩) 1 1 ∧ w.heap[g]? = some (.cells #[.int .u8 c.toNat] 5 (0, 0)) ∧ cv.ownBlock ≠ some g
section
variable {w0 w w' : World} {base : Nat} {v0 v' : Value} {c : UInt8} {l0 l1 l2 l3 : B8} {zl za zb zc : Option Value}
theorem ChJ.start (h : Ow base w0 v0 l0) (hx : Ext w0 w) : ChJ w0 base v0 c l0 l1 l2 l3 none none none none w :=
  ⟨hx.grown.but _, v0, l0, .inl ⟨rfl, rfl, rfl, rfl, rfl⟩, owns_ext h hx, fun k hk => .inl hk, fun u hu => by cases hu⟩
theorem ChJ.cell {a : Addr} {x : Value} (h : ChJ w0 base v0 c l0 l1 l2 l3 zl za zb zc w) (hne : v0.ownBlock ≠ some a.block) (hc : w0.cell? a = some x) : w.cell? a = some x := by
  rw [World.cell?_of_block (h.ext.block _ (World.block_lt_of_cell? _ _ hc) (fun e => hne e.symm))]
  exact hc
/-- One step on. -/
theorem chJ_step {cv : Value} {g : Nat} (hx : w0.grownBy w v0.ownBlock) (hn0 : Near w0 v0 cv) (hg : w.grownBy w' cv.ownBlock) (hn : Near w cv v') : w0.grownBy w' v0.ownBlock ∧ Near w0 v0 v' ∧ (∀ g o, w.heap[g]? = some o → cv.ownBlock ≠ some g → w'.heap[g]? = some o ∧ v'.ownBlock ≠ some g) := by
  refine ⟨hx.andThen hg (fun j hj => ?_), fun k hk => ?_, fun g o ho hne => ?_⟩
  · rcases hn0 j hj with h | h
    · exact .inr h
    · exact .inl h
  · rcases hn k hk with h | h
    · exact hn0 k h
    · exact .inr (Nat.le_trans hx.size h)
  · have hlt := (Array.getElem?_eq_some_iff.1 ho).1
    refine ⟨(hg.block g hlt (fun e => hne e.symm)).trans ho, fun e => ?_⟩
    rcases hn g e with h | h
    · exact hne h
    · omega
theorem ChJ.ownZ (h : ChJ w0 base v0 c l0 l1 l2 l3 zl none zb zc w) : Ow base w v0 l0 := by
  obtain ⟨cv, cl, hs, ho, -⟩ := h.cur
  rcases hs with ⟨-, -, -, rfl, rfl⟩ | ⟨h, -⟩ | ⟨h, -⟩ | ⟨h, -⟩
  · exact ho
  · cases h
  · exact absurd rfl h
  · exact absurd rfl h
theorem ChJ.setA (h : ChJ w0 base v0 c l0 l1 l2 l3 zl none zb zc w) (ho : Ow base w' v' l1) (hg : w.grownBy w' v0.ownBlock) (hn : Near w v0 v') : ChJ w0 base v0 c l0 l1 l2 l3 zl (some v') zb zc w' := by
  obtain ⟨cv, cl, hs, -, hn0, hl⟩ := h.cur
  rcases hs with ⟨-, h2, h3, rfl, rfl⟩ | ⟨h, -⟩ | ⟨h, -⟩ | ⟨h, -⟩
  · obtain ⟨s1, s2, s3⟩ := chJ_step (g := 0) h.ext hn0 hg hn
    refine ⟨s1, v', l1, .inr (.inl ⟨rfl, h2, h3, rfl⟩), ho, s2, fun u hu => ?_⟩
    obtain ⟨g, e, hr, hne⟩ := hl u hu
    exact ⟨g, e, (s3 g _ hr hne).1, (s3 g _ hr hne).2⟩
  · cases h
  · exact absurd rfl h
  · exact absurd rfl h
theorem ChJ.ownA {u : Value} (h : ChJ w0 base v0 c l0 l1 l2 l3 zl za none zc w) (hk : za = some u) : Ow base w u l1 := by
  obtain ⟨cv, cl, hs, ho, -⟩ := h.cur
  rcases hs with ⟨h1, -⟩ | ⟨h1, -, -, rfl⟩ | ⟨-, h1, -⟩ | ⟨-, h1, -⟩
  · rw [hk] at h1; cases h1
  · rw [hk] at h1; cases h1; exact ho
  · cases h1
  · exact absurd rfl h1
theorem ChJ.setB {u : Value} (h : ChJ w0 base v0 c l0 l1 l2 l3 zl za none zc w) (hk : za = some u) (ho : Ow base w' v' l2) (hg : w.grownBy w' u.ownBlock) (hn : Near w u v') : ChJ w0 base v0 c l0 l1 l2 l3 zl za (some v') zc w' := by
  obtain ⟨cv, cl, hs, -, hn0, hl⟩ := h.cur
  rcases hs with ⟨h1, -⟩ | ⟨h1, -, h3, rfl⟩ | ⟨-, h1, -⟩ | ⟨-, h1, -⟩
  · rw [hk] at h1; cases h1
  · rw [hk] at h1
    cases h1
    obtain ⟨s1, s2, s3⟩ := chJ_step (g := 0) h.ext hn0 hg hn
    refine ⟨s1, v', l2, .inr (.inr (.inl ⟨by rw [hk]; simp, rfl, h3, rfl⟩)), ho, s2, fun u hu => ?_⟩
    obtain ⟨g, e, hr, hne⟩ := hl u hu
    exact ⟨g, e, (s3 g _ hr hne).1, (s3 g _ hr hne).2⟩
  · cases h1
  · exact absurd rfl h1
theorem ChJ.ownB {u : Value} (h : ChJ w0 base v0 c l0 l1 l2 l3 zl za zb none w) (hk : zb = some u) : Ow base w u l2 := by
  obtain ⟨cv, cl, hs, ho, -⟩ := h.cur
  rcases hs with ⟨-, h1, -⟩ | ⟨-, h1, -⟩ | ⟨-, h1, -, rfl⟩ | ⟨-, -, h1, -⟩
  · rw [hk] at h1; cases h1
  · rw [hk] at h1; cases h1
  · rw [hk] at h1; cases h1; exact ho
  · cases h1
theorem ChJ.nearB {u : Value} (h : ChJ w0 base v0 c l0 l1 l2 l3 zl za zb none w) (hk : zb = some u) : Near w0 v0 u := by
  obtain ⟨cv, cl, hs, -, hn, -⟩ := h.cur
  rcases hs with ⟨-, h1, -⟩ | ⟨-, h1, -⟩ | ⟨-, h1, -, rfl⟩ | ⟨-, -, h1, -⟩
  · rw [hk] at h1; cases h1
  · rw [hk] at h1; cases h1
  · rw [hk] at h1; cases h1; exact hn
  · cases h1
theorem ChJ.setC {u : Value} (h : ChJ w0 base v0 c l0 l1 l2 l3 zl za zb none w) (hk : zb = some u) (ho : Ow base w' v' l3) (hg : w.grownBy w' u.ownBlock) (hn : Near w u v') : ChJ w0 base v0 c l0 l1 l2 l3 zl za zb (some v') w' := by
  obtain ⟨cv, cl, hs, -, hn0, hl⟩ := h.cur
  rcases hs with ⟨-, h1, -⟩ | ⟨-, h1, -⟩ | ⟨h0, h1, -, rfl⟩ | ⟨-, -, h1, -⟩
  · rw [hk] at h1; cases h1
  · rw [hk] at h1; cases h1
  · rw [hk] at h1
    cases h1
    obtain ⟨s1, s2, s3⟩ := chJ_step (g := 0) h.ext hn0 hg hn
    refine ⟨s1, v', l3, .inr (.inr (.inr ⟨h0, by rw [hk]; simp, rfl, rfl⟩)), ho, s2, fun u hu => ?_⟩
    obtain ⟨g, e, hr, hne⟩ := hl u hu
    exact ⟨g, e, (s3 g _ hr hne).1, (s3 g _ hr hne).2⟩
  · cases h1
theorem ChJ.ownC {u : Value} (h : ChJ w0 base v0 c l0 l1 l2 l3 zl za zb zc w) (hk : zc = some u) : Ow base w u l3 := by
  obtain ⟨cv, cl, hs, ho, -⟩ := h.cur
  rcases hs with ⟨-, -, h1, -⟩ | ⟨-, -, h1, -⟩ | ⟨-, -, h1, -⟩ | ⟨-, -, h1, rfl⟩
  · rw [hk] at h1; cases h1
  · rw [hk] at h1; cases h1
  · rw [hk] at h1; cases h1
  · rw [hk] at h1; cases h1; exact ho
theorem ChJ.setL (h : ChJ w0 base v0 c l0 l1 l2 l3 none za zb zc w) : ChJ w0 base v0 c l0 l1 l2 l3 (some (.slice (some ⟨w.heap.size, 0, none⟩) 1 1)) za zb zc (w.alloc (.cells #[.int .u8 c.toNat] 5)) := by
  obtain ⟨cv, cl, hs, ho, hn0, hl⟩ := h.cur
  have hx : Ext w (w.alloc (.cells #[.int .u8 c.toNat] 5)) := (Ext.refl w).alloc _
  refine ⟨h.ext.trans (hx.grown.but _), cv, cl, hs, owns_ext ho hx, hn0, fun u hu => ?_⟩
  cases hu
  exact ⟨_, rfl, alloc_at _ _, fun e => by have := (ho.lt _ e).2; omega⟩
theorem ChJ.lit {u : Value} (h : ChJ w0 base v0 c l0 l1 l2 l3 zl za zb zc w) (hk : zl = some u) : IsBytes w u [c] := by
  obtain ⟨cv, cl, -, -, -, hl⟩ := h.cur
  obtain ⟨g, rfl, hr, -⟩ := hl u hk
  exact Row.new hr (by decide) _ rfl
theorem ChJ.size (h : ChJ w0 base v0 c l0 l1 l2 l3 zl za zb zc w) : w0.heap.size ≤ w.heap.size := h.ext.size
theorem ChJ.appA {u : Value} (h : ChJ w0 base v0 c l0 (l0 ++ [c]) l2 l3 zl none zb zc w) (hk : zl = some u) (hb : base ≤ w0.heap.size) (hl : l0.length ≤ 100000000) :
    ∃ v' w', (Builtin.append_ #[35, 35] 35 #[v0, u]).run Tryz.prog w = .ok v' w' ∧ ChJ w0 base v0 c l0 (l0 ++ [c]) l2 l3 zl (some v') zb zc w' := by
  obtain ⟨v', w', hr, h1, h2, h3⟩ := appB_run base 35 v0 l0 h.ownZ u [c] (h.lit hk) (by simp; omega) (Nat.le_trans hb h.size)
  exact ⟨v', w', hr, h.setA h1 h2 h3⟩
theorem ChJ.appB {u x : Value} (h : ChJ w0 base v0 c l0 l1 (l1 ++ [c]) l3 zl za none zc w) (hk : zl = some x) (ha : za = some u) (hb : base ≤ w0.heap.size) (hl : l1.length ≤ 100000000) :
    ∃ v' w', (Builtin.append_ #[35, 35] 35 #[u, x]).run Tryz.prog w = .ok v' w' ∧ ChJ w0 base v0 c l0 l1 (l1 ++ [c]) l3 zl za (some v') zc w' := by
  obtain ⟨v', w', hr, h1, h2, h3⟩ := appB_run base 35 u l1 (h.ownA ha) x [c] (h.lit hk) (by simp; omega) (Nat.le_trans hb h.size)
  exact ⟨v', w', hr, h.setB ha h1 h2 h3⟩
theorem ChJ.appT (h : ChJ w0 base v0 c l0 (l0 ++ l1) l2 l3 zl none zb zc w) (hb : base ≤ w0.heap.size) (hl : l0.length ≤ 100000000) (hl1 : l1.length ≤ 100000000) :
    ∃ v' w', (Builtin.append_ #[35, 9] 35 #[v0, S8 l1]).run Tryz.prog w = .ok v' w' ∧ ChJ w0 base v0 c l0 (l0 ++ l1) l2 l3 zl (some v') zb zc w' := by
  obtain ⟨v', w', hr, h1, h2, h3⟩ := appT_run base v0 l0 h.ownZ l1 (by omega) (Nat.le_trans hb h.size)
  exact ⟨v', w', hr, h.setA h1 h2 h3⟩
end
theorem rel_append2 {c : Prop} [Decidable c] {ev : Operand → Value} {R : Value → World → Prop} {o : Oper} {w : World} (s x : Operand) (t u : TypeId) {v xv v' : Value} {w' : World} (hw : c) (ho : o.op = .call { callee := .builtin .append, args := #[s, x], argTypes := #[t, u] })
    (hs : ev s = v) (hx : ev x = xv) (hr : (Builtin.append_ #[t, u] o.type #[v, xv]).run Tryz.prog w = .ok v' w') (h : R v' w') :
    if c then relUpon Tryz.prog R ((execOp ev o).run Tryz.prog w) else R undef w := by
  rw [if_pos hw]
  unfold execOp
  simp only [ho, resolve, invoke, builtin, Sem.run_bind, Sem.run_pure, Result.andThen_ok, List.map_toArray, List.map_cons, List.map_nil, hs, hx, hr]
  exact h

end Go.Proofs.YtdhgmpibjneplaaGreatDoor
