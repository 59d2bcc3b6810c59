/- marlaw17: what the chapter's examples fix, in plain Lean. Conditions: as each theorem states. -/
import Derived.Test.YtalpfoomkhhgnaaGreatDoorZak
import Derived.Test.YtalpfoomkhhgnaaGreatDoorZaf
import Derived.Laws.CopyOwn
import Derived.Deep.Onto
import Derived.Test.YtalpfoomkhhgnaaGreatDoorZaa
import Derived.Test.YtalpfoomkhhgnaaGreatDoorZag
import Derived.Test.YtalpfoomkhhgnaaGreatDoorZaj
import Derived.Test.YtalpfoomkhhgnaaGreatDoorZah
import Derived.Test.YtalpfoomkhhgnaaGreatDoorZad

set_option linter.unusedVariables false
set_option linter.unusedSimpArgs false

/-! marref.CopyBytes: a row of the call's own. Conditions: as each theorem states. -/
namespace Go.Proofs.YtalpfoomkhhgnaaGreatDoor
open Go Go.RowKit
set_option linter.unusedVariables false
set_option linter.unusedSimpArgs false
set_option linter.unusedSectionVars false

set_option maxRecDepth 100000 in
set_option maxHeartbeats 1000000 in
theorem copyO_any (v : Value) (l : B8) (w : World) (hv : IsBytes w v l) :
    Calls Tryz.prog 40 #[v] w fun e w' => (∃ v', e = .returned v' ∧ w'.ownsRow w.heap.size 5 1 v' l.length (l.map fun x => .int .u8 x.toNat)) ∧ Ext w w' := by
  have hl := hv.len
  obtain ⟨a, cap, rfl, h1, h2, h3, h4⟩ := id hv
  have hx : Ext w (w.alloc (.cells #[] 5)) := (Ext.refl w).alloc _
  have hown : (w.alloc (.cells #[] 5)).ownsRow w.heap.size 5 1 (.slice (some ⟨w.heap.size, 0, none⟩) 0 0) 0 [] := ⟨rfl, .inr ⟨w.heap.size, 0, #[], rfl, Nat.le_refl _, alloc_at _ _, Nat.le_refl _, by unfold maxLen; omega, rfl, rfl⟩⟩
  cases l with
  | nil =>
    have HO : Hid ((w.alloc (.cells #[] 5)).ownsRow w.heap.size 5 1 (.slice (some ⟨w.heap.size, 0, none⟩) 0 0) 0 []) := hown
    clear hv h4 hown
    go_enter Tryz.func40, Tryz.ntmps40
    cases a with
    | none =>
      go_wp2
      go_ret
      exact ⟨⟨_, rfl, HO.out⟩, (Ext.refl _).alloc _⟩
    | some ad =>
      go_wp2
      go_ret
      exact ⟨⟨_, rfl, HO.out⟩, (Ext.refl _).alloc _⟩
  | cons x t =>
    obtain ⟨b, o, rfl, hc⟩ := h4 (by simp)
    generalize hL : x :: t = L at *
    have hnews : ∀ (j : Nat) u, (L.map fun x => Value.int .u8 x.toNat)[j]? = some u → (w.alloc (.cells #[] 5)).cell? ((⟨b, o, none⟩ : Addr).add j) = some u := by
      intro j u hu
      have hadd : (⟨b, o, none⟩ : Addr).add j = ⟨b, o + j, none⟩ := by unfold Addr.add; split <;> simp_all
      rw [hadd]
      exact hx.cell (hc j u hu)
    have HN : Hid _ := hnews
    clear hc hnews h4 hv hL
    go_enter Tryz.func40, Tryz.ntmps40
    go_wp2_with (at_builtin; (refine app_any _ _ _ 1 1 Tryz.underlying45 info_u8 rfl (by omega) rfl _ _ rfl w.heap.size _ 0 _ rfl hown ⟨b, o, none⟩ L.length cap (L.map fun x => Value.int .u8 x.toNat) rfl (by simp) HN.out (by intro u hu; obtain ⟨_, _, rfl⟩ := List.mem_map.1 hu; rfl) (by omega) (by omega) (by simp) ?_); intro v' w3 hown3 hg3 _; obtain ⟨a3, c3, rfl, -⟩ := Row.of_owns hown3 (by omega); have HB : Hid (w3.ownsRow w.heap.size 5 1 _ L.length (L.map fun x => .int .u8 x.toNat)) := (by have h9 := hown3; rw [List.nil_append, Nat.zero_add] at h9; exact h9); have hx3 : Ext w w3 := owns_ext_app hx hown hg3)
    go_ret
    exact ⟨⟨_, rfl, HB.out⟩, hx3⟩

end Go.Proofs.YtalpfoomkhhgnaaGreatDoor

/-! marref1.Sum: SHA-256 the document's way. Conditions: at most 10000000 bytes. -/
namespace Go.Proofs.YtalpfoomkhhgnaaGreatDoor
open Go Go.RowKit
set_option linter.unusedVariables false
set_option linter.unusedSimpArgs false
set_option linter.unusedSectionVars false

/-- What lies while blocks are taken: the constants, the sum, the words, the bytes. -/
structure SumW (w wr : World) (gk gh gw mb mo : Nat) (M : B8) (st c : List UInt32) : Prop where
  ext : Ext w wr
  kb : wr.heap[gk]? = some (.cells (shaK.map U32).toArray 139 (0, 0))
  hb : wr.heap[gh]? = some (.cells (st.map U32).toArray 139 (0, 0))
  wb : wr.heap[gw]? = some (.cells (c.map U32).toArray 139 (0, 0))
  mc : ∀ i, i < M.length → wr.cell? ⟨mb, mo + i, none⟩ = some (.int .u8 (M.getD i 0).toNat)
  ne : gk ≠ gh ∧ gk ≠ gw ∧ gh ≠ gw ∧ mb ≠ gh ∧ mb ≠ gw
  low : w.heap.size ≤ gh ∧ w.heap.size ≤ gw
section
variable {w wr w2 : World} {gk gh gw mb mo : Nat} {M : B8} {st c c' st' : List UInt32}
theorem words_at {l : List UInt32} {i : Nat} (h : i < l.length) : (l.map U32).toArray[i]? = some (U32 (l.getD i 0)) := by
  simp [h, List.getD_eq_getElem?_getD]
theorem words_put {l : List UInt32} {i : Nat} (x : UInt32) (h : i < l.length) : ((l.set i x).map U32).toArray = ((l.map U32).toArray.toList.take i ++ [U32 x] ++ (l.map U32).toArray.toList.drop (i + 1)).toArray := by
  apply Array.ext'
  simp only [List.toList_toArray]
  rw [List.map_set, List.set_eq_take_append_cons_drop, if_pos (by simpa using h)]
  simp
theorem SumW.more (h : SumW w wr gk gh gw mb mo M st c) (hx : Ext wr w2) : SumW w w2 gk gh gw mb mo M st c :=
  ⟨h.ext.trans hx, Ext.row hx h.kb, Ext.row hx h.hb, Ext.row hx h.wb, fun i hi => hx.cell (h.mc i hi), h.ne, h.low⟩
theorem SumW.putW (h : SumW w wr gk gh gw mb mo M st c) (hg : w2.heap[gw]? = some (.cells (c'.map U32).toArray 139 (0, 0))) (hgr : wr.grownBy w2 (some gw)) : SumW w w2 gk gh gw mb mo M st c' :=
  ⟨Below.grown h.ext hgr h.ext.size (fun j hj => by cases hj; exact h.low.2), (hgr.block _ (Array.getElem?_eq_some_iff.1 h.kb).1 (fun e => by cases e; exact h.ne.2.1 rfl)).trans h.kb,
    (hgr.block _ (Array.getElem?_eq_some_iff.1 h.hb).1 (fun e => by cases e; exact h.ne.2.2.1 rfl)).trans h.hb, hg, fun i hi => hgr.cell (h.mc i hi) (fun e => by cases e; exact h.ne.2.2.2.2 rfl), h.ne, h.low⟩
theorem SumW.putH (h : SumW w wr gk gh gw mb mo M st c) (hg : w2.heap[gh]? = some (.cells (st'.map U32).toArray 139 (0, 0))) (hgr : wr.grownBy w2 (some gh)) : SumW w w2 gk gh gw mb mo M st' c :=
  ⟨Below.grown h.ext hgr h.ext.size (fun j hj => by cases hj; exact h.low.1), (hgr.block _ (Array.getElem?_eq_some_iff.1 h.kb).1 (fun e => by cases e; exact h.ne.1 rfl)).trans h.kb,
    hg, (hgr.block _ (Array.getElem?_eq_some_iff.1 h.wb).1 (fun e => by cases e; exact h.ne.2.2.1 rfl)).trans h.wb, fun i hi => hgr.cell (h.mc i hi) (fun e => by cases e; exact h.ne.2.2.2.1 rfl), h.ne, h.low⟩
/-- The rounds' eight words lie in a block of their own. -/
structure SumV (w wr : World) (gk gh gw mb mo gv : Nat) (M : B8) (st c cur : List UInt32) : Prop where
  sw : SumW w wr gk gh gw mb mo M st c
  vb : wr.heap[gv]? = some (.cells (cur.map U32).toArray 146 (0, 0))
  far : gk ≠ gv ∧ gh ≠ gv ∧ gw ≠ gv ∧ mb ≠ gv ∧ w.heap.size ≤ gv
theorem SumV.more {gv : Nat} {cur : List UInt32} (h : SumV w wr gk gh gw mb mo gv M st c cur) (hx : Ext wr w2) : SumV w w2 gk gh gw mb mo gv M st c cur := ⟨h.sw.more hx, Ext.row hx h.vb, h.far⟩
theorem SumV.putV {gv : Nat} {cur cur' : List UInt32} (h : SumV w wr gk gh gw mb mo gv M st c cur) (hg : w2.heap[gv]? = some (.cells (cur'.map U32).toArray 146 (0, 0))) (hgr : wr.grownBy w2 (some gv)) : SumV w w2 gk gh gw mb mo gv M st c cur' :=
  ⟨⟨Below.grown h.sw.ext hgr h.sw.ext.size (fun j hj => by cases hj; exact h.far.2.2.2.2), (hgr.block _ (Array.getElem?_eq_some_iff.1 h.sw.kb).1 (fun e => by cases e; exact h.far.1 rfl)).trans h.sw.kb,
    (hgr.block _ (Array.getElem?_eq_some_iff.1 h.sw.hb).1 (fun e => by cases e; exact h.far.2.1 rfl)).trans h.sw.hb, (hgr.block _ (Array.getElem?_eq_some_iff.1 h.sw.wb).1 (fun e => by cases e; exact h.far.2.2.1 rfl)).trans h.sw.wb,
    fun i hi => hgr.cell (h.sw.mc i hi) (fun e => by cases e; exact h.far.2.2.2.1 rfl), h.sw.ne, h.sw.low⟩, hg, h.far⟩
theorem SumV.putH {gv : Nat} {cur : List UInt32} (h : SumV w wr gk gh gw mb mo gv M st c cur) (hg : w2.heap[gh]? = some (.cells (st'.map U32).toArray 139 (0, 0))) (hgr : wr.grownBy w2 (some gh)) : SumV w w2 gk gh gw mb mo gv M st' c cur :=
  ⟨h.sw.putH hg hgr, (hgr.block _ (Array.getElem?_eq_some_iff.1 h.vb).1 (fun e => by cases e; exact h.far.2.1 rfl)).trans h.vb, h.far⟩
end
theorem block_at {M : B8} {a i : Nat} (h : i < 64) (ha : a + 64 ≤ M.length) : ((M.drop a).take 64).getD i 0 = M.getD (a + i) 0 := by
  rw [List.getD_eq_getElem?_getD, List.getElem?_take, if_pos h, List.getElem?_drop, ← List.getD_eq_getElem?_getD]

theorem conv_u8 (x : UInt32) : Value.int .u8 (IntKind.u8.wrap (x.toNat : Int)) = .int .u8 ((UInt8.ofNat x.toNat).toNat : Int) := by
  rw [IntKind.wrap_u8, UInt8.toNat_ofNat']
  exact congrArg _ (Int.natCast_emod _ 256).symm
theorem madeN (n : Nat) : madeCells #[.int .u32 0] n = ((List.replicate n 0 : List UInt32).map U32).toArray := by
  refine Array.ext (by simp [madeCells]) (fun i h1 h2 => ?_)
  simp [madeCells, Nat.mod_one]
theorem made64 : madeCells #[.int .u32 0] 64 = ((List.replicate 64 0 : List UInt32).map U32).toArray := madeN 64
set_option maxRecDepth 100000 in
set_option maxHeartbeats 64000000 in
theorem rsum_any (v : Value) (b : B8) (w : World) (hv : IsBytes w v b) (hl : b.length ≤ 10000000) :
    Calls Tryz.prog 69 #[v] w fun e w' => (∃ v', e = .returned v' ∧ w'.ownsRow w.heap.size 5 1 v' 32 ((sumM b).map fun x => .int .u8 x.toNat)) ∧ Ext w w' := by
  have HV : Hid (IsBytes w v b) := hv
  obtain ⟨va, vc, rfl, -⟩ := hv.get
  clear hv
  obtain ⟨n, hn⟩ : ∃ n, b.length = n := ⟨_, rfl⟩
  have HN : Hid _ := hn
  rw [hn] at hl HV ⊢
  clear hn
  go_enter Tryz.func69, Tryz.ntmps69
  go_wp2_with fail
  go_at_call 104
  refine (constants_any w).mono ?_
  rintro e w1 ⟨gk, rfl, hk1, hgk, hx1, hs1⟩
  have HK1 : Hid _ := hk1
  have HX1 : Hid (Ext w w1) := hx1
  have HGK : Hid _ := hgk
  clear hk1 hgk hx1
  go_upto_region 3 with fail
  obtain ⟨w2, hw2⟩ : ∃ w2, w2 = w1.alloc (.cells (shaH.map U32).toArray 139) := ⟨_, rfl⟩
  have hh2 : w2.heap[w1.heap.size]? = some (.cells (shaH.map U32).toArray 139 (0, 0)) := by rw [hw2]; exact alloc_at _ _
  have hx2 : Ext w1 w2 := by rw [hw2]; exact (Ext.refl _).alloc _
  have hs2 : w2.heap.size = w1.heap.size + 1 := by rw [hw2]; exact Array.size_push ..
  rw [show (#[.int .u32 1779033703, .int .u32 3144134277, .int .u32 1013904242, .int .u32 2773480762, .int .u32 1359893119, .int .u32 2600822924, .int .u32 528734635, .int .u32 1541459225] : Array Value) = (shaH.map U32).toArray from rfl, ← hw2]
  obtain ⟨gh, hgh⟩ : ∃ g, w1.heap.size = g := ⟨_, rfl⟩
  rw [hgh] at hh2 hs2
  have hgk1 : gh = gk + 1 := by omega
  rw [← hgk1]
  have HH2 : Hid _ := hh2
  have HX2 : Hid (Ext w w2) := HX1.out.trans hx2
  have HK2 : Hid (w2.heap[gk]? = some (.cells (shaK.map U32).toArray 139 (0, 0))) := Ext.row hx2 HK1.out
  have HGH : Hid (gh = gk + 1 ∧ w2.heap.size = gh + 1 ∧ w.heap.size = gk) := ⟨hgk1, hs2, HGK.out.symm⟩
  clear hw2 hh2 hx2 hs2 hs1 hgh hgk1 HK1 HGK
  go_wp2_with fail
  go_at_call 40
  refine (copyO_any _ b w2 (HV.out.ext HX2.out)).mono ?_
  rw [HN.out]
  rintro e w3 ⟨⟨v3, rfl, hown3⟩, hx3⟩
  have HO3 : Hid (w3.ownsRow w2.heap.size 5 1 v3 n (b.map fun x => .int .u8 x.toNat)) := hown3
  have HX3 : Hid (Ext w2 w3) := hx3
  have hs3 := hx3.size
  obtain ⟨a3, c3, rfl, -⟩ := Row.of_owns hown3 (by omega)
  clear hown3 hx3
  go_upto_region 4 with (at_builtin; go_must (refine app_u8 rfl _ _ rfl w2.heap.size _ n b rfl (HO3.out.alloc _) w3.heap.size 1 1 [128] rfl rfl (alloc_at _ _) (by omega) (by simp; omega) ?_); intro v4 w4 hown4 hg4)
  have HO4 : Hid (w4.ownsRow w2.heap.size 5 1 v4 (n + (1 + 0)) ((b ++ 128 :: List.replicate 0 0 : B8).map fun x => .int .u8 x.toNat)) := hown4
  have HX4 : Hid (Ext w2 w4) := owns_ext_app (HX3.out.alloc _) (HO3.out.alloc _) hg4
  have hpz := padZ_lt n
  clear hown4 hg4 hs3
  go_loopw [5] (fun pv wr => ∃ k : Nat, k ≤ padZ n ∧ Hid (wr.ownsRow w2.heap.size 5 1 pv (n + (1 + k)) ((b ++ 128 :: List.replicate k 0 : B8).map fun x => .int .u8 x.toNat)) ∧ Hid (Ext w2 wr)) (fun pv _ => n + 65 - slLen pv)
  case atStart => exact ⟨0, Nat.zero_le _, HO4.out, HX4.out⟩
  case round =>
    obtain ⟨k, hk, HOWN, HX⟩ := hrel
    obtain ⟨pa, pc, rfl, -⟩ := Row.of_owns HOWN.out (by omega)
    have hsz := HX.out.size
    have hat := padZ_at hk
    by_cases hkk : k = padZ n
    case neg =>
      have hm : ((((n + (1 + k) : Nat) : Int)) % 64 != 56) = true := by simp; omega
      clear hat
      go_wp2_with (at_builtin; go_must (refine app_u8 rfl _ _ rfl w2.heap.size _ (n + (1 + k)) (b ++ 128 :: List.replicate k 0) rfl (HOWN.out.alloc _) wr.heap.size 1 1 [0] rfl rfl (alloc_at _ _) (by omega) (by simp; omega) ?_); intro v' w3 hown3 hg3)
      go_roundw
      case rel => exact ⟨k + 1, by omega, by have h9 : (b ++ 128 :: List.replicate k 0 ++ [0] : B8) = b ++ 128 :: List.replicate (k + 1) 0 := (by rw [List.replicate_succ', List.append_assoc, List.cons_append]); rw [h9] at hown3; exact hown3, owns_ext_app (HX.out.alloc _) (HOWN.out.alloc _) hg3⟩
      case measure =>
        obtain ⟨pa3, pc3, rfl, -⟩ := Row.of_owns hown3 (by omega)
        simp [slLen]; omega
    have hm : ((((n + (1 + k) : Nat) : Int)) % 64 != 56) = false := by simp; omega
    clear hat
    subst hkk
    go_upto_region 7 with fail
    clear hm
    generalize (((n : Int) + (1 + (padZ n : Int))) % 64 != 56) = z34
    generalize ((n : Int) + (1 + (padZ n : Int))) % 64 = z33
    generalize (n : Int) + (1 + (padZ n : Int)) = z32
    go_wp2_with fail
    go_loopw [5, 7] (fun pv i wr => ∃ k : Nat, k ≤ 8 ∧ i = .int .i64 (7 - (k : Int)) ∧ Hid (wr.ownsRow w2.heap.size 5 1 pv (n + (1 + padZ n + k)) ((b ++ padL n k).map fun x => .int .u8 x.toNat)) ∧ Hid (Ext w2 wr)) (fun _ i _ => (intOf i + 1).toNat)
    case atStart => exact ⟨0, by omega, rfl, by unfold padL; rw [List.take_zero, List.append_nil]; exact HOWN.out, HX.out⟩
    case round =>
    obtain ⟨q, hq, rfl, HOWQ, HXQ⟩ := hrel
    obtain ⟨pq, cq, rfl, -⟩ := Row.of_owns HOWQ.out (by omega)
    have hszq := HXQ.out.size
    by_cases hlt : q < 8
    case pos =>
      have hval : ((n : Int) * 8 / 2 ^ (56 - 8 * q) % 256) = ((UInt8.ofNat (8 * n / 2 ^ (56 - 8 * q))).toNat : Int) := by
        rw [UInt8.toNat_ofNat', Nat.mul_comm 8 n]
        push_cast
        rfl
      have HPL : Hid _ := padL_snoc n hlt
      have hge : ((7 : Int) - (q : Int)) ≥ 0 := by omega
      have hw1 : IntKind.i64.wrap (8 * (7 - (q : Int))) = ((56 - 8 * q : Nat) : Int) := by rw [IntWalk.i64_in _ (by omega)]; omega
      have hw2 : (0 : Int) ≤ ((56 - 8 * q : Nat) : Int) := by omega
      have hw3 : ((56 - 8 * q : Nat) : Int) ≤ 64 := by omega
      have hw4 : ((56 - 8 * q : Nat) : Int) < 64 := by omega
      have hw5 : IntKind.i64.wrap (7 - (q : Int) - 1) = 7 - ((q + 1 : Nat) : Int) := by rw [IntWalk.i64_in _ (by omega)]; omega
      generalize hz : UInt8.ofNat (8 * n / 2 ^ (56 - 8 * q)) = z at hval
      have HZ : Hid _ := hz
      have HV2 : Hid _ := hval
      clear hval hz
      go_wp2_with (at_builtin; go_must (refine app_u8 rfl _ _ rfl w2.heap.size _ (n + (1 + padZ n + q)) (b ++ padL n q) rfl (HOWQ.out.alloc _) wr.heap.size 1 1 [z] rfl rfl (fr := (0, 0)) (by show _ = some (Obj.cells #[Value.int .u8 (z.toNat : Int)] _ _); rw [← HV2.out]; exact alloc_at _ _) (by omega) (by simp; omega) ?_); intro v' w3 hown3 hg3)
      go_roundw
      case rel => exact ⟨q + 1, by omega, by go_num, by rw [HPL.out, HZ.out, ← List.append_assoc]; exact hown3, owns_ext_app (HXQ.out.alloc _) (HOWQ.out.alloc _) hg3⟩
      case measure => simp [intOf]; omega
    have hq8 : q = 8 := by omega
    subst hq8
    go_upto_region 11 with fail
    have hmk : (Instr.makeSlice 143 (.int .i64 64) (.int .i64 64)).run Tryz.prog wr = .ok (.slice (some ⟨wr.heap.size, 0, none⟩) 64 64) (wr.alloc (.cells ((List.replicate 64 0 : List UInt32).map U32).toArray 139)) := by
      have h9 := run_make_row' (P := Tryz.prog) 143 139 (.int .u32 0) 4 Tryz.underlying143 (by kernel_rfl) rfl .i64 .i64 64 (by omega) (by omega) wr
      rw [made64] at h9
      exact h9
    obtain ⟨wm, hwm⟩ : ∃ wm, wm = wr.alloc (.cells ((List.replicate 64 0 : List UInt32).map U32).toArray 139) := ⟨_, rfl⟩
    rw [← hwm] at hmk
    have hxm : Ext wr wm := by rw [hwm]; exact (Ext.refl _).alloc _
    have hwb : wm.heap[wr.heap.size]? = some (.cells ((List.replicate 64 0 : List UInt32).map U32).toArray 139 (0, 0)) := by rw [hwm]; exact alloc_at _ _
    obtain ⟨M, hM⟩ : ∃ M, b ++ padM n = M := ⟨_, rfl⟩
    have hML : M.length = n + (1 + padZ n + 8) := by rw [← hM, List.length_append, HN.out, ← padL_full, padL_len n (Nat.le_refl 8)]
    have hM64 : M.length % 64 = 0 := by
      have h9 := pad_len n
      rw [← hM, List.length_append, HN.out]
      exact h9
    have hom : wr.ownsRow w2.heap.size 5 1 (.slice pq (n + (1 + padZ n + 8)) cq) (n + (1 + padZ n + 8)) (M.map fun x => .int .u8 x.toNat) := by
      have h9 := HOWQ.out
      rw [padL_full, hM] at h9
      exact h9
    have hmr : IsBytes wr (.slice pq M.length cq) M := by
      unfold IsBytes
      rw [hML]
      exact Row.of_owns hom (by omega)
    obtain ⟨mb, mo, hpq, hmc⟩ : ∃ mb mo, pq = some ⟨mb, mo, none⟩ ∧ ∀ i, i < M.length → wr.cell? ⟨mb, mo + i, none⟩ = some (.int .u8 (M.getD i 0).toNat) := by
      obtain ⟨a9, c9, e9, -, -, -, hg9⟩ := hmr.get
      obtain ⟨bb, oo, rfl, hc⟩ := hg9 0 (by omega)
      cases e9
      exact ⟨bb, oo, rfl, hc⟩
    subst hpq
    have hmb := hom.lt mb rfl
    have HSW0 : Hid (SumW w wm gk gh wr.heap.size mb mo M shaH (List.replicate 64 0)) := by
      obtain ⟨g1, g2, g3⟩ := HGH.out
      have hs9 := HXQ.out.size
      have hx9 : Ext w2 wm := HXQ.out.trans hxm
      exact ⟨HX2.out.trans hx9, Ext.row hx9 HK2.out, Ext.row hx9 HH2.out, hwb, fun i hi => hxm.cell (hmc i hi), ⟨by omega, by omega, by omega, by omega, by omega⟩, ⟨by omega, by omega⟩⟩
    obtain ⟨gw, hgw⟩ : ∃ g, wr.heap.size = g := ⟨_, rfl⟩
    rw [hgw] at HSW0 hmk
    have HRES : Hid (sumM b = (absorb shaH M).1.flatMap outM) := by unfold Hid; rw [sum_one, HN.out, hM]
    obtain ⟨FIN, hFIN⟩ : ∃ F, (absorb shaH M).1 = F := ⟨_, rfl⟩
    rw [hFIN] at HRES
    have HF0 : Hid ((absorb shaH (M.drop 0)).1 = FIN) := hFIN
    rw [← hML]
    have HML : Hid _ := hML
    have hMb : M.length ≤ 10000200 := by omega
    have HXM : Hid (Ext w2 wm) := HXQ.out.trans hxm
    clear hwm hxm hwb hM hML hom hmr hmc hmb hgw hFIN HOWQ HOWN HO4 HO3 hszq
    go_upto_region 12 with fail
    generalize ((7 : Int) - ((8 : Nat) : Int)) = z07
    go_wp2_with fail
    go_loopw [9] (fun i wr => ∃ (a : Nat) (st c : List UInt32), i = .int .i64 a ∧ a ≤ M.length ∧ a % 64 = 0 ∧ st.length = 8 ∧ c.length = 64 ∧ Hid ((absorb st (M.drop a)).1 = FIN) ∧ Hid (SumW w wr gk gh gw mb mo M st c)) (fun i _ => M.length - (intOf i).toNat)
    case atStart => exact ⟨0, shaH, List.replicate 64 0, rfl, Nat.zero_le _, rfl, rfl, rfl, HF0.out, HSW0.out⟩
    case round =>
    obtain ⟨a, st, c, rfl, haN, ha64, hst, hc64, HF, HS⟩ := hrel
    by_cases hend : a < M.length
    case pos =>
      have hfit : a + 64 ≤ M.length := by omega
      obtain ⟨W, hW⟩ : ∃ W, wSched ((M.drop a).take 64) 64 = W := ⟨_, rfl⟩
      have hWl : W.length = 64 := by rw [← hW]; exact sched_len _ _
      have HLO : Hid (∀ j, j < 16 → W.getD j 0 = (((M.getD (a + 4 * j) 0).toUInt32 <<< 24 ||| (M.getD (a + 4 * j + 1) 0).toUInt32 <<< 16) ||| (M.getD (a + 4 * j + 2) 0).toUInt32 <<< 8) ||| (M.getD (a + 4 * j + 3) 0).toUInt32) := fun j hj => by
        rw [← hW, sched_lo _ hj]
        unfold be4
        rw [block_at (by omega) hfit, block_at (by omega) hfit, block_at (by omega) hfit, block_at (by omega) hfit]
        rfl
      have HHI : Hid (∀ j, 16 ≤ j → j < 64 → W.getD j 0 = wNext W j) := fun j h1 h2 => by rw [← hW]; exact sched_hi _ h1 h2
      have HMX : Hid (mixM st ((M.drop a).take 64) = List.zipWith (· + ·) st (rnds st W 64)) := by unfold Hid mixM; rw [hW]
      have HWL : Hid _ := hWl
      have HST : Hid _ := hst
      have HAM : Hid _ := ha64
      have HC64 : Hid _ := hc64
      clear hW hWl hst ha64 hc64
      go_wp2_with fail
      go_loopw [10] (fun i wr => ∃ (k : Nat) (c : List UInt32), i = .int .i64 k ∧ k ≤ 16 ∧ Hid (PreW W c k) ∧ Hid (SumW w wr gk gh gw mb mo M st c)) (fun i _ => 16 - (intOf i).toNat)
      case atStart => exact ⟨0, c, rfl, Nat.zero_le _, ⟨HC64.out, fun j hj => by omega⟩, HS.out⟩
      case round =>
      obtain ⟨k, c, rfl, hk, HP, HSK⟩ := hrel
      by_cases hlt : k < 16
      case pos =>
        have hv := HLO.out k hlt
        have d0 := HSK.out.mc (a + 4 * k) (by omega)
        have d1 := HSK.out.mc (a + 4 * k + 1) (by omega)
        have d2 := HSK.out.mc (a + 4 * k + 2) (by omega)
        have d3 := HSK.out.mc (a + 4 * k + 3) (by omega)
        obtain ⟨y0, hy0⟩ : ∃ y, M.getD (a + 4 * k) 0 = y := ⟨_, rfl⟩
        obtain ⟨y1, hy1⟩ : ∃ y, M.getD (a + 4 * k + 1) 0 = y := ⟨_, rfl⟩
        obtain ⟨y2, hy2⟩ : ∃ y, M.getD (a + 4 * k + 2) 0 = y := ⟨_, rfl⟩
        obtain ⟨y3, hy3⟩ : ∃ y, M.getD (a + 4 * k + 3) 0 = y := ⟨_, rfl⟩
        rw [hy0] at d0
        rw [hy1] at d1
        rw [hy2] at d2
        rw [hy3] at d3
        rw [hy0, hy1, hy2, hy3] at hv
        obtain ⟨x0, hx0⟩ : ∃ x, y0.toUInt32 = x := ⟨_, rfl⟩
        obtain ⟨x1, hx1⟩ : ∃ x, y1.toUInt32 = x := ⟨_, rfl⟩
        obtain ⟨x2, hx2⟩ : ∃ x, y2.toUInt32 = x := ⟨_, rfl⟩
        obtain ⟨x3, hx3⟩ : ∃ x, y3.toUInt32 = x := ⟨_, rfl⟩
        rw [hx0, hx1, hx2, hx3] at hv
        have HVV : Hid _ := hv
        have HX0 : Hid _ := hx0
        have HX1' : Hid _ := hx1
        have HX2' : Hid _ := hx2
        have HX3' : Hid _ := hx3
        have D0 : Hid _ := d0
        have D1 : Hid _ := d1
        have D2 : Hid _ := d2
        have D3 : Hid _ := d3
        obtain ⟨p, hp⟩ : ∃ p, a + 4 * k = p := ⟨_, rfl⟩
        have hwp : IntKind.i64.wrap (4 * (k : Int)) = 4 * (k : Int) := IntWalk.i64_in _ (by omega)
        have hwq : IntKind.i64.wrap ((a : Int) + 4 * (k : Int)) = (p : Int) := by rw [IntWalk.i64_in _ (by omega)]; omega
        have hpN : p + 3 < M.length := by omega
        rw [hp] at D0 D1 D2 D3
        have W1 : Hid (IntKind.i64.wrap ((p : Int) + 1) = (p : Int) + 1 ∧ ((p : Int) + 1).toNat = p + 1) := ⟨IntWalk.i64_in _ (by omega), by omega⟩
        have W2 : Hid (IntKind.i64.wrap ((p : Int) + 2) = (p : Int) + 2 ∧ ((p : Int) + 2).toNat = p + 2) := ⟨IntWalk.i64_in _ (by omega), by omega⟩
        have W3 : Hid (IntKind.i64.wrap ((p : Int) + 3) = (p : Int) + 3 ∧ ((p : Int) + 3).toNat = p + 3) := ⟨IntWalk.i64_in _ (by omega), by omega⟩
        clear hv d0 d1 d2 d3 hy0 hy1 hy2 hy3 hx0 hx1 hx2 hx3 hp
        as_aux_lemma =>
        go_upto_region 19 with fail
        apply wp_region_mix 32 [_, _, _, _, .pointer (some ⟨mb, mo + p, none⟩), .int .u8 y0.toNat, U32 x0, U32 (x0 <<< 24), _, _, _, .pointer (some ⟨mb, mo + (p + 1), none⟩), .int .u8 y1.toNat, U32 x1, U32 (x1 <<< 16), U32 ((x0 <<< 24) ||| (x1 <<< 16)), _, _, _, .pointer (some ⟨mb, mo + (p + 2), none⟩), .int .u8 y2.toNat, U32 x2, U32 (x2 <<< 8), U32 (((x0 <<< 24) ||| (x1 <<< 16)) ||| (x2 <<< 8)), _, _, _, .pointer (some ⟨mb, mo + (p + 3), none⟩), .int .u8 y3.toNat, U32 x3, U32 ((((x0 <<< 24) ||| (x1 <<< 16)) ||| (x2 <<< 8)) ||| x3), .pointer (some ⟨gw, k, none⟩)] [none, none, none, none, none, none, none, none, none, none, none, none, none, none, none, none, none, none, none, none, none, none, none, none, none, none, none, none, none, none, none, none] [[], [], [], [], [2, 3], [4], [5], [6], [], [], [9], [8, 10], [11], [12], [13], [7, 14], [], [], [17], [16, 18], [19], [20], [21], [15, 22], [], [], [25], [24, 26], [27], [28], [23, 29], [0, 1]] (by kernel_rfl) (by kernel_rfl) (by simp [mixV])
        · trivial
        · simp (maxSteps := 1000000) only [List.take_succ_cons, List.take_zero, oblFrom, stepObl, fillFrom, Act.put, List.setIfInBounds_toArray, List.set_cons_zero, List.set_cons_succ, knows, getV, mixV, List.getD_cons_zero, List.getD_cons_succ, and_true, true_and, forall_const]
          refine ⟨?_, ?_, ?_, ?_, ?_, ?_, ?_, ?_, ?_, ?_, ?_, ?_, ?_, ?_, ?_, ?_, ?_, ?_, ?_, ?_, ?_, ?_, ?_, ?_, ?_, ?_, ?_, ?_, ?_, ?_, ?_, ?_⟩
          · intro xs wq hq R hR
            go_simp
            exact hR _ _ (Ext.refl _) rfl
          · intro xs wq hq R hR
            go_simp
            exact hR _ _ (Ext.refl _) rfl
          · intro xs wq hq R hR
            go_simp
            exact hR _ _ (Ext.refl _) rfl
          · intro xs wq hq R hR
            go_simp
            exact hR _ _ (Ext.refl _) rfl
          · intro xs wq hq hk R hR
            obtain ⟨hk0, hk1⟩ := hk
            go_simp
            rw [if_pos (by omega)]
            exact hR _ _ (Ext.refl _) rfl
          · intro xs wq hq hk R hR
            have f0 := hq.cell D0.out
            go_simp
            exact hR _ _ (Ext.refl _) rfl
          · intro xs wq hq hk R hR
            go_simp
            exact hR _ _ (Ext.refl _) (by rw [← HX0.out]; exact conv_u32 y0)
          · intro xs wq hq hk R hR
            go_simp
            exact hR _ _ (Ext.refl _) (shl24 x0)
          · intro xs wq hq R hR
            go_simp
            exact hR _ _ (Ext.refl _) rfl
          · intro xs wq hq R hR
            go_simp
            exact hR _ _ (Ext.refl _) rfl
          · intro xs wq hq hk R hR
            go_simp
            exact hR _ _ (Ext.refl _) rfl
          · intro xs wq hq hk R hR
            obtain ⟨hk0, hk1⟩ := hk
            go_simp
            simp only [W1.out.1]
            rw [if_pos ⟨by omega, by omega⟩, W1.out.2]
            exact hR _ _ (Ext.refl _) rfl
          · intro xs wq hq hk R hR
            have f1 := hq.cell D1.out
            go_simp
            exact hR _ _ (Ext.refl _) rfl
          · intro xs wq hq hk R hR
            go_simp
            exact hR _ _ (Ext.refl _) (by rw [← HX1'.out]; exact conv_u32 y1)
          · intro xs wq hq hk R hR
            go_simp
            exact hR _ _ (Ext.refl _) (shl16 x1)
          · intro xs wq hq hk R hR
            obtain ⟨hk0, hk1⟩ := hk
            go_simp
            exact hR _ _ (Ext.refl _) (or_u32 (x0 <<< 24) (x1 <<< 16))
          · intro xs wq hq R hR
            go_simp
            exact hR _ _ (Ext.refl _) rfl
          · intro xs wq hq R hR
            go_simp
            exact hR _ _ (Ext.refl _) rfl
          · intro xs wq hq hk R hR
            go_simp
            exact hR _ _ (Ext.refl _) rfl
          · intro xs wq hq hk R hR
            obtain ⟨hk0, hk1⟩ := hk
            go_simp
            simp only [W2.out.1]
            rw [if_pos ⟨by omega, by omega⟩, W2.out.2]
            exact hR _ _ (Ext.refl _) rfl
          · intro xs wq hq hk R hR
            have f2 := hq.cell D2.out
            go_simp
            exact hR _ _ (Ext.refl _) rfl
          · intro xs wq hq hk R hR
            go_simp
            exact hR _ _ (Ext.refl _) (by rw [← HX2'.out]; exact conv_u32 y2)
          · intro xs wq hq hk R hR
            go_simp
            exact hR _ _ (Ext.refl _) (shl8 x2)
          · intro xs wq hq hk R hR
            obtain ⟨hk0, hk1⟩ := hk
            go_simp
            exact hR _ _ (Ext.refl _) (or_u32 ((x0 <<< 24) ||| (x1 <<< 16)) (x2 <<< 8))
          · intro xs wq hq R hR
            go_simp
            exact hR _ _ (Ext.refl _) rfl
          · intro xs wq hq R hR
            go_simp
            exact hR _ _ (Ext.refl _) rfl
          · intro xs wq hq hk R hR
            go_simp
            exact hR _ _ (Ext.refl _) rfl
          · intro xs wq hq hk R hR
            obtain ⟨hk0, hk1⟩ := hk
            go_simp
            simp only [W3.out.1]
            rw [if_pos ⟨by omega, by omega⟩, W3.out.2]
            exact hR _ _ (Ext.refl _) rfl
          · intro xs wq hq hk R hR
            have f3 := hq.cell D3.out
            go_simp
            exact hR _ _ (Ext.refl _) rfl
          · intro xs wq hq hk R hR
            go_simp
            exact hR _ _ (Ext.refl _) (by rw [← HX3'.out]; exact conv_u32 y3)
          · intro xs wq hq hk R hR
            obtain ⟨hk0, hk1⟩ := hk
            go_simp
            exact hR _ _ (Ext.refl _) (or_u32 (((x0 <<< 24) ||| (x1 <<< 16)) ||| (x2 <<< 8)) x3)
          · intro xs wq hq hk R hR
            obtain ⟨hk0, hk1⟩ := hk
            go_simp
            rw [if_pos (by omega)]
            exact hR _ _ (Ext.refl _) rfl
        intro xs wz hxz hk
        simp only [heldV, Nat.zero_add, Nat.reduceAdd, and_true] at hk
        have q0 := hk.1
        replace hk := hk.2
        have q1 := hk.1
        replace hk := hk.2
        have q2 := hk.1
        replace hk := hk.2
        have q3 := hk.1
        replace hk := hk.2
        have q4 := hk.1
        replace hk := hk.2
        have q5 := hk.1
        replace hk := hk.2
        have q6 := hk.1
        replace hk := hk.2
        have q7 := hk.1
        replace hk := hk.2
        have q8 := hk.1
        replace hk := hk.2
        have q9 := hk.1
        replace hk := hk.2
        have q10 := hk.1
        replace hk := hk.2
        have q11 := hk.1
        replace hk := hk.2
        have q12 := hk.1
        replace hk := hk.2
        have q13 := hk.1
        replace hk := hk.2
        have q14 := hk.1
        replace hk := hk.2
        have q15 := hk.1
        replace hk := hk.2
        have q16 := hk.1
        replace hk := hk.2
        have q17 := hk.1
        replace hk := hk.2
        have q18 := hk.1
        replace hk := hk.2
        have q19 := hk.1
        replace hk := hk.2
        have q20 := hk.1
        replace hk := hk.2
        have q21 := hk.1
        replace hk := hk.2
        have q22 := hk.1
        replace hk := hk.2
        have q23 := hk.1
        replace hk := hk.2
        have q24 := hk.1
        replace hk := hk.2
        have q25 := hk.1
        replace hk := hk.2
        have q26 := hk.1
        replace hk := hk.2
        have q27 := hk.1
        replace hk := hk.2
        have q28 := hk.1
        replace hk := hk.2
        have q29 := hk.1
        replace hk := hk.2
        have q30 := hk.1
        replace hk := hk.2
        have q31 := hk
        clear hk
        simp (maxSteps := 1000000) only [List.take_succ_cons, List.take_zero, List.drop_succ_cons, List.drop_zero, fillFrom, Act.put, List.setIfInBounds_toArray, List.set_cons_zero, List.set_cons_succ, Nat.zero_add, Nat.reduceAdd, q0, q1, q2, q3, q4, q5, q6, q7, q8, q9, q10, q11, q12, q13, q14, q15, q16, q17, q18, q19, q20, q21, q22, q23, q24, q25, q26, q27, q28, q29, q30, q31]
        clear q0 q1 q2 q3 q4 q5 q6 q7 q8 q9 q10 q11 q12 q13 q14 q15 q16 q17 q18 q19 q20 q21 q22 q23 q24 q25 q26 q27 q28 q29 q30 q31
        have HSZ : Hid _ := SumW.more HSK.out hxz
        have hwb := HSZ.out.wb
        have hsz : (c.map U32).toArray.size = 64 := by simp [HP.out.1]
        have hput := words_put (l := c) (i := k) (W.getD k 0) (by rw [HP.out.1]; omega)
        have hps := PreW.set HP.out (show k < 64 by omega)
        rw [HVV.out] at hput hps
        have HPS : Hid (PreW W (c.set k ((((x0 <<< 24) ||| (x1 <<< 16)) ||| (x2 <<< 8)) ||| x3)) (k + 1)) := hps
        go_wp2_with (refine store_field rfl 139 (.tmp 100) (.tmp 99) rfl gw k rfl (U32 ((((x0 <<< 24) ||| (x1 <<< 16)) ||| (x2 <<< 8)) ||| x3)) rfl rfl _ (c.map U32).toArray hwb (by omega) info_u32 _ hput ?_; intro wn hgn hgrn)
        have HSN : Hid _ := SumW.putW HSZ.out hgn hgrn
        clear hgn hgrn hwb hsz hput hps hxz
        go_roundw
        case rel => exact ⟨k + 1, _, by go_num, by omega, HPS.out, HSN.out⟩
        case measure => simp [intOf]; omega
      have hk16 : k = 16 := by omega
      subst hk16
      go_wp2_with fail
      generalize ((16 : Nat) : Int) = z16
      go_loopw [12] (fun i wr => ∃ (k : Nat) (c : List UInt32), i = .int .i64 k ∧ 16 ≤ k ∧ k ≤ 64 ∧ Hid (PreW W c k) ∧ Hid (SumW w wr gk gh gw mb mo M st c)) (fun i _ => 64 - (intOf i).toNat)
      case atStart => exact ⟨16, c, rfl, Nat.le_refl _, by omega, HP.out, HSK.out⟩
      case round =>
      obtain ⟨k, c, rfl, hk1, hk, HP, HSK⟩ := hrel
      by_cases hlt : k < 64
      case pos =>
        have hn := HHI.out k hk1 hlt
        have hcl := HP.out.1
        obtain ⟨X, hX⟩ : ∃ x, W.getD (k - 15) 0 = x := ⟨_, rfl⟩
        obtain ⟨Y, hY⟩ : ∃ x, W.getD (k - 2) 0 = x := ⟨_, rfl⟩
        obtain ⟨A0, hA⟩ : ∃ x, W.getD (k - 16) 0 = x := ⟨_, rfl⟩
        obtain ⟨B0, hB⟩ : ∃ x, W.getD (k - 7) 0 = x := ⟨_, rfl⟩
        have cell : ∀ j, j < k → wr.cell? ⟨gw, j, none⟩ = some (U32 (W.getD j 0)) := fun j hj => by
          rw [cell_of_row _ _ j _ _ _ HSK.out.wb, words_at (by omega), HP.out.2 j hj]
        have e15 := cell (k - 15) (by omega)
        have e2 := cell (k - 2) (by omega)
        have e16 := cell (k - 16) (by omega)
        have e7 := cell (k - 7) (by omega)
        rw [hX] at e15
        rw [hY] at e2
        rw [hA] at e16
        rw [hB] at e7
        obtain ⟨p1, hp1⟩ : ∃ x, rotl X 25 = x := ⟨_, rfl⟩
        obtain ⟨q1, hq1⟩ : ∃ x, rotl X 14 = x := ⟨_, rfl⟩
        obtain ⟨p2, hp2⟩ : ∃ x, p1 ^^^ q1 = x := ⟨_, rfl⟩
        obtain ⟨r1, hr1⟩ : ∃ x, X >>> 3 = x := ⟨_, rfl⟩
        obtain ⟨s1, hs1⟩ : ∃ x, p2 ^^^ r1 = x := ⟨_, rfl⟩
        obtain ⟨p3, hp3⟩ : ∃ x, rotl Y 15 = x := ⟨_, rfl⟩
        obtain ⟨q3, hq3⟩ : ∃ x, rotl Y 13 = x := ⟨_, rfl⟩
        obtain ⟨p4, hp4⟩ : ∃ x, p3 ^^^ q3 = x := ⟨_, rfl⟩
        obtain ⟨r2, hr2⟩ : ∃ x, Y >>> 10 = x := ⟨_, rfl⟩
        obtain ⟨s2, hs2⟩ : ∃ x, p4 ^^^ r2 = x := ⟨_, rfl⟩
        obtain ⟨z1, hz1⟩ : ∃ x, A0 + s1 = x := ⟨_, rfl⟩
        obtain ⟨z2, hz2⟩ : ∃ x, z1 + B0 = x := ⟨_, rfl⟩
        obtain ⟨z3, hz3⟩ : ∃ x, z2 + s2 = x := ⟨_, rfl⟩
        have HZ1 : Hid _ := hz1
        have HZ2 : Hid _ := hz2
        have HZ3 : Hid _ := hz3
        have HVV : Hid (W.getD k 0 = z3) := by
          unfold Hid
          rw [hn]
          unfold wNext
          rw [hX, hY, hA, hB, hp1, hq1, hp2, hr1, hs1, hp3, hq3, hp4, hr2, hs2, hz1, hz2, hz3]
        have f1 : bits BinOp.xor IntKind.u32 (p1.toNat : Int) (q1.toNat : Int) = (p2.toNat : Int) := by rw [← hp2]; exact bits_xor32 _ _
        have f2 : (X.toNat : Int) / 8 = (r1.toNat : Int) := by rw [← hr1]; exact shr32 X 3 (by decide)
        have f3 : bits BinOp.xor IntKind.u32 (p2.toNat : Int) (r1.toNat : Int) = (s1.toNat : Int) := by rw [← hs1]; exact bits_xor32 _ _
        have f4 : bits BinOp.xor IntKind.u32 (p3.toNat : Int) (q3.toNat : Int) = (p4.toNat : Int) := by rw [← hp4]; exact bits_xor32 _ _
        have f5 : (Y.toNat : Int) / 1024 = (r2.toNat : Int) := by rw [← hr2]; exact shr32 Y 10 (by decide)
        have f6 : bits BinOp.xor IntKind.u32 (p4.toNat : Int) (r2.toNat : Int) = (s2.toNat : Int) := by rw [← hs2]; exact bits_xor32 _ _
        have HP1 : Hid _ := hp1
        have HQ1 : Hid _ := hq1
        have HP3 : Hid _ := hp3
        have HQ3 : Hid _ := hq3
        have w15 : IntKind.i64.wrap ((k : Int) - 15) = ((k - 15 : Nat) : Int) := by rw [IntWalk.i64_in _ (by omega)]; omega
        have w2' : IntKind.i64.wrap ((k : Int) - 2) = ((k - 2 : Nat) : Int) := by rw [IntWalk.i64_in _ (by omega)]; omega
        have W16 : Hid (IntKind.i64.wrap ((k : Int) - 16) = ((k - 16 : Nat) : Int)) := by unfold Hid; rw [IntWalk.i64_in _ (by omega)]; omega
        have W7 : Hid (IntKind.i64.wrap ((k : Int) - 7) = ((k - 7 : Nat) : Int)) := by unfold Hid; rw [IntWalk.i64_in _ (by omega)]; omega
        have n15 : ((k - 15 : Nat) : Int) < 64 := by omega
        have n2 : ((k - 2 : Nat) : Int) < 64 := by omega
        clear hX hY hA hB hp1 hq1 hp2 hr1 hs1 hp3 hq3 hp4 hr2 hs2 hz1 hz2 hz3 hn cell hcl
        have T7 : Hid (∀ w, Calls Tryz.prog 105 #[U32 X, .int .i64 7] w fun e w' => e = .returned (U32 p1) ∧ ∃ q, w' = w.drewN q) := fun w => by rw [← HP1.out]; exact turn7 X w
        have T18 : Hid (∀ w, Calls Tryz.prog 105 #[U32 X, .int .i64 18] w fun e w' => e = .returned (U32 q1) ∧ ∃ q, w' = w.drewN q) := fun w => by rw [← HQ1.out]; exact turn18 X w
        have T17 : Hid (∀ w, Calls Tryz.prog 105 #[U32 Y, .int .i64 17] w fun e w' => e = .returned (U32 p3) ∧ ∃ q, w' = w.drewN q) := fun w => by rw [← HP3.out]; exact turn17 Y w
        have T19 : Hid (∀ w, Calls Tryz.prog 105 #[U32 Y, .int .i64 19] w fun e w' => e = .returned (U32 q3) ∧ ∃ q, w' = w.drewN q) := fun w => by rw [← HQ3.out]; exact turn19 Y w
        as_aux_lemma =>
        go_upto_region 23 with fail
        go_quiet (first | (go_at_call 105; first | with_reducible exact Calls.quiet_of (T7.out _) | with_reducible exact Calls.quiet_of (T18.out _)))
        obtain ⟨wq, hwq⟩ : ∃ wq, wq = wr.drewN nq := ⟨_, rfl⟩
        have hxq : Ext wr wq := by rw [hwq]; exact Ext.drawn _ _
        rw [← hwq]
        clear hwq
        have d2 := hxq.cell e2
        go_upto_region 24 with fail
        go_quiet (first | (go_at_call 105; first | with_reducible exact Calls.quiet_of (T17.out _) | with_reducible exact Calls.quiet_of (T19.out _)))
        obtain ⟨wu, hwu⟩ : ∃ wu, wu = wq.drewN nq := ⟨_, rfl⟩
        have hxu : Ext wr wu := hxq.trans (by rw [hwu]; exact Ext.drawn _ _)
        rw [← hwu]
        clear hwu
        have HSU : Hid _ := SumW.more HSK.out hxu
        have g16 := hxu.cell e16
        have g7 := hxu.cell e7
        clear e15 e2 e16 e7 d2 hxq hxu w15 w2' n15 n2
        go_upto_region 25 with fail
        apply wp_region_mix 18 [_, _, _, _, _, .pointer (some ⟨gw, k - 16, none⟩), U32 A0, _, U32 z1, _, _, _, .pointer (some ⟨gw, k - 7, none⟩), U32 B0, U32 z2, _, U32 z3, .pointer (some ⟨gw, k, none⟩)] [none, none, none, none, none, none, none, none, none, none, none, none, none, none, none, none, none, none] [[], [], [], [], [3], [2, 4], [5], [], [6, 7], [], [], [10], [9, 11], [12], [8, 13], [], [14, 15], [0, 1]] (by kernel_rfl) (by kernel_rfl) (by simp [mixV])
        · trivial
        · simp (maxSteps := 1000000) only [List.take_succ_cons, List.take_zero, oblFrom, stepObl, fillFrom, Act.put, List.setIfInBounds_toArray, List.set_cons_zero, List.set_cons_succ, knows, getV, mixV, List.getD_cons_zero, List.getD_cons_succ, and_true, true_and, forall_const]
          refine ⟨?_, ?_, ?_, ?_, ?_, ?_, ?_, ?_, ?_, ?_, ?_, ?_, ?_, ?_, ?_, ?_, ?_, ?_⟩
          · intro xs wq hq R hR
            go_simp
            exact hR _ _ (Ext.refl _) rfl
          · intro xs wq hq R hR
            go_simp
            exact hR _ _ (Ext.refl _) rfl
          · intro xs wq hq R hR
            go_simp
            exact hR _ _ (Ext.refl _) rfl
          · intro xs wq hq R hR
            go_simp
            exact hR _ _ (Ext.refl _) rfl
          · intro xs wq hq hk R hR
            go_simp
            exact hR _ _ (Ext.refl _) rfl
          · intro xs wq hq hk R hR
            obtain ⟨hk0, hk1⟩ := hk
            go_simp
            simp only [W16.out]
            rw [if_pos ⟨by omega, by omega⟩]
            exact hR _ _ (Ext.refl _) rfl
          · intro xs wq hq hk R hR
            have f0 := hq.cell g16
            go_simp
            exact hR _ _ (Ext.refl _) rfl
          · intro xs wq hq R hR
            go_simp
            exact hR _ _ (Ext.refl _) rfl
          · intro xs wq hq hk R hR
            obtain ⟨hk0, hk1⟩ := hk
            go_simp
            exact hR _ _ (Ext.refl _) (by rw [← HZ1.out]; exact addw_u32 A0 s1)
          · intro xs wq hq R hR
            go_simp
            exact hR _ _ (Ext.refl _) rfl
          · intro xs wq hq R hR
            go_simp
            exact hR _ _ (Ext.refl _) rfl
          · intro xs wq hq hk R hR
            go_simp
            exact hR _ _ (Ext.refl _) rfl
          · intro xs wq hq hk R hR
            obtain ⟨hk0, hk1⟩ := hk
            go_simp
            simp only [W7.out]
            rw [if_pos ⟨by omega, by omega⟩]
            exact hR _ _ (Ext.refl _) rfl
          · intro xs wq hq hk R hR
            have f0 := hq.cell g7
            go_simp
            exact hR _ _ (Ext.refl _) rfl
          · intro xs wq hq hk R hR
            obtain ⟨hk0, hk1⟩ := hk
            go_simp
            exact hR _ _ (Ext.refl _) (by rw [← HZ2.out]; exact addw_u32 z1 B0)
          · intro xs wq hq R hR
            go_simp
            exact hR _ _ (Ext.refl _) rfl
          · intro xs wq hq hk R hR
            obtain ⟨hk0, hk1⟩ := hk
            go_simp
            exact hR _ _ (Ext.refl _) (by rw [← HZ3.out]; exact addw_u32 z2 s2)
          · intro xs wq hq hk R hR
            obtain ⟨hk0, hk1⟩ := hk
            go_simp
            exact hR _ _ (Ext.refl _) rfl
        intro xs wz hxz hk
        simp only [heldV, Nat.zero_add, Nat.reduceAdd, and_true] at hk
        have q0 := hk.1
        replace hk := hk.2
        have q1 := hk.1
        replace hk := hk.2
        have q2 := hk.1
        replace hk := hk.2
        have q3 := hk.1
        replace hk := hk.2
        have q4 := hk.1
        replace hk := hk.2
        have q5 := hk.1
        replace hk := hk.2
        have q6 := hk.1
        replace hk := hk.2
        have q7 := hk.1
        replace hk := hk.2
        have q8 := hk.1
        replace hk := hk.2
        have q9 := hk.1
        replace hk := hk.2
        have q10 := hk.1
        replace hk := hk.2
        have q11 := hk.1
        replace hk := hk.2
        have q12 := hk.1
        replace hk := hk.2
        have q13 := hk.1
        replace hk := hk.2
        have q14 := hk.1
        replace hk := hk.2
        have q15 := hk.1
        replace hk := hk.2
        have q16 := hk.1
        replace hk := hk.2
        have q17 := hk
        clear hk
        simp (maxSteps := 1000000) only [List.take_succ_cons, List.take_zero, List.drop_succ_cons, List.drop_zero, fillFrom, Act.put, List.setIfInBounds_toArray, List.set_cons_zero, List.set_cons_succ, Nat.zero_add, Nat.reduceAdd, q0, q1, q2, q3, q4, q5, q6, q7, q8, q9, q10, q11, q12, q13, q14, q15, q16, q17]
        clear q0 q1 q2 q3 q4 q5 q6 q7 q8 q9 q10 q11 q12 q13 q14 q15 q16 q17
        have HSZ : Hid _ := SumW.more HSU.out hxz
        have hwb := HSZ.out.wb
        have hsz : (c.map U32).toArray.size = 64 := by simp [HP.out.1]
        have hput := words_put (l := c) (i := k) (W.getD k 0) (by rw [HP.out.1]; omega)
        have hps := PreW.set HP.out (show k < 64 by omega)
        rw [HVV.out] at hput hps
        have HPS : Hid (PreW W (c.set k z3) (k + 1)) := hps
        clear f1 f2 f3 f4 f5 f6 g16 g7 hxz
        go_wp2_with (refine store_field rfl 139 (.tmp 162) (.tmp 161) rfl gw k rfl (U32 z3) rfl rfl _ (c.map U32).toArray hwb (by omega) info_u32 _ hput ?_; intro wn hgn hgrn)
        have HSN : Hid _ := SumW.putW HSZ.out hgn hgrn
        clear hgn hgrn hwb hsz hput hps
        go_roundw
        case rel => exact ⟨k + 1, c.set k z3, by go_num, by omega, by omega, HPS, HSN⟩
        case measure => simp [intOf]; omega
      have hk64 : k = 64 := by omega
      subst hk64
      obtain rfl : c = W := PreW.all HP.out HWL.out
      go_upto_region 27 with fail
      obtain ⟨wv, hwv⟩ : ∃ wv, wv = wr.alloc (.cells #[.int .u32 0, .int .u32 0, .int .u32 0, .int .u32 0, .int .u32 0, .int .u32 0, .int .u32 0, .int .u32 0] 146) := ⟨_, rfl⟩
      have hvb : wv.heap[wr.heap.size]? = some (.cells #[.int .u32 0, .int .u32 0, .int .u32 0, .int .u32 0, .int .u32 0, .int .u32 0, .int .u32 0, .int .u32 0] 146 (0, 0)) := by rw [hwv]; exact alloc_at _ _
      have hxv : Ext wr wv := by rw [hwv]; exact (Ext.refl _).alloc _
      have hsv := HSK.out.ext.size
      have HVZ : Hid (SumV w wv gk gh gw mb mo wr.heap.size M st c (List.replicate 8 0)) := by
        have h1 := (Array.getElem?_eq_some_iff.1 HSK.out.kb).1
        have h2 := (Array.getElem?_eq_some_iff.1 HSK.out.hb).1
        have h3 := (Array.getElem?_eq_some_iff.1 HSK.out.wb).1
        have h4 : mb < wr.heap.size := World.block_lt_of_cell? _ _ (HSK.out.mc 0 (by omega))
        exact ⟨HSK.out.more hxv, hvb, ⟨by omega, by omega, by omega, by omega, by omega⟩⟩
      rw [← hwv]
      obtain ⟨gv, hgv⟩ : ∃ g, wr.heap.size = g := ⟨_, rfl⟩
      rw [hgv] at HVZ hvb ⊢
      clear hwv hxv hgv hsv
      have hcl : (st.map U32).length = 8 := by rw [List.length_map]; exact HST.out
      have hcp : (((#[.int .u32 0, .int .u32 0, .int .u32 0, .int .u32 0, .int .u32 0, .int .u32 0, .int .u32 0, .int .u32 0] : Array Value).toList.take 0 ++ (st.map U32 ++ (#[.int .u32 0, .int .u32 0, .int .u32 0, .int .u32 0, .int .u32 0, .int .u32 0, .int .u32 0, .int .u32 0] : Array Value).toList.drop (0 + (st.map U32).length))).toArray) = (st.map U32).toArray := by
        rw [hcl]; simp
      go_upto_region 28 with (refine wpList_copy_own rfl _ _ _ _ rfl 139 Tryz.underlying143 (by kernel_rfl) gv 0 8 8 ⟨gh, 0, none⟩ 8 8 rfl rfl _ 146 hvb (st.map U32) (by rw [hcl]; rfl) (fun j v h => news_of_block HVZ.out.sw.hb j v (by simpa using h)) (by rw [hcl]; decide) (fun v hv => by obtain ⟨x, -, rfl⟩ := List.mem_map.1 hv; rfl) ?_; rw [hcp])
      obtain ⟨wc, hwc⟩ : ∃ wc, wc = wv.setRow gv (st.map U32).toArray := ⟨_, rfl⟩
      have HV0 : Hid (SumV w wc gk gh gw mb mo gv M st c st) := by
        unfold Hid
        rw [hwc]
        exact HVZ.out.putV (setRow_heap _ _ _ _ _ _ hvb) (setRow_grown _ _ _)
      rw [← hwc]
      clear hwc hvb hcp hcl
      obtain ⟨i0, i1, i2, i3, i4, i5, i6, i7, hse⟩ := list8 HST.out
      have HR0 : Hid (rnds st c 0 = [i0, i1, i2, i3, i4, i5, i6, i7]) := hse
      rw [show SumV w wc gk gh gw mb mo gv M st c st = SumV w wc gk gh gw mb mo gv M st c [i0, i1, i2, i3, i4, i5, i6, i7] by rw [← hse]] at HV0
      clear hse
      go_wp2_with fail
      go_loopw [16] (fun i wr => ∃ (k : Nat) (a0 a1 a2 a3 a4 a5 a6 a7 : UInt32), k ≤ 64 ∧ i = .int .i64 k ∧ Hid (SumV w wr gk gh gw mb mo gv M st c [a0, a1, a2, a3, a4, a5, a6, a7]) ∧ Hid (rnds st c k = [a0, a1, a2, a3, a4, a5, a6, a7])) (fun i _ => 64 - (intOf i).toNat)
      case atStart => exact ⟨0, i0, i1, i2, i3, i4, i5, i6, i7, by omega, rfl, HV0.out, HR0.out⟩
      case round =>
      obtain ⟨k, a0, a1, a2, a3, a4, a5, a6, a7, hk, rfl, HV8, HRK⟩ := hrel
      by_cases hlt : k < 64
      case pos =>
        obtain ⟨kk, hkk⟩ : ∃ x, shaK.getD k 0 = x := ⟨_, rfl⟩
        obtain ⟨ww, hww⟩ : ∃ x, c.getD k 0 = x := ⟨_, rfl⟩
        obtain ⟨x1, hx1⟩ : ∃ x, rotl a4 26 = x := ⟨_, rfl⟩
        obtain ⟨x2, hx2⟩ : ∃ x, rotl a4 21 = x := ⟨_, rfl⟩
        obtain ⟨x3, hx3⟩ : ∃ x, x1 ^^^ x2 = x := ⟨_, rfl⟩
        obtain ⟨x4, hx4⟩ : ∃ x, rotl a4 7 = x := ⟨_, rfl⟩
        obtain ⟨x5, hx5⟩ : ∃ x, x3 ^^^ x4 = x := ⟨_, rfl⟩
        obtain ⟨y1, hy1⟩ : ∃ x, a7 + x5 = x := ⟨_, rfl⟩
        obtain ⟨y2, hy2⟩ : ∃ x, a4 &&& a5 = x := ⟨_, rfl⟩
        obtain ⟨y3, hy3⟩ : ∃ x, ~~~a4 = x := ⟨_, rfl⟩
        obtain ⟨y4, hy4⟩ : ∃ x, y3 &&& a6 = x := ⟨_, rfl⟩
        obtain ⟨y5, hy5⟩ : ∃ x, y2 ^^^ y4 = x := ⟨_, rfl⟩
        obtain ⟨y6, hy6⟩ : ∃ x, y1 + y5 = x := ⟨_, rfl⟩
        obtain ⟨y7, hy7⟩ : ∃ x, y6 + kk = x := ⟨_, rfl⟩
        obtain ⟨tt, htt⟩ : ∃ x, y7 + ww = x := ⟨_, rfl⟩
        obtain ⟨z1, hz1⟩ : ∃ x, rotl a0 30 = x := ⟨_, rfl⟩
        obtain ⟨z2, hz2⟩ : ∃ x, rotl a0 19 = x := ⟨_, rfl⟩
        obtain ⟨z3, hz3⟩ : ∃ x, z1 ^^^ z2 = x := ⟨_, rfl⟩
        obtain ⟨z4, hz4⟩ : ∃ x, rotl a0 10 = x := ⟨_, rfl⟩
        obtain ⟨z5, hz5⟩ : ∃ x, z3 ^^^ z4 = x := ⟨_, rfl⟩
        obtain ⟨v1, hv1⟩ : ∃ x, a0 &&& a1 = x := ⟨_, rfl⟩
        obtain ⟨v2, hv2⟩ : ∃ x, a0 &&& a2 = x := ⟨_, rfl⟩
        obtain ⟨v3, hv3⟩ : ∃ x, v1 ^^^ v2 = x := ⟨_, rfl⟩
        obtain ⟨v4, hv4⟩ : ∃ x, a1 &&& a2 = x := ⟨_, rfl⟩
        obtain ⟨v5, hv5⟩ : ∃ x, v3 ^^^ v4 = x := ⟨_, rfl⟩
        obtain ⟨m1, hm1⟩ : ∃ x, tt + z5 = x := ⟨_, rfl⟩
        obtain ⟨n0, hn0⟩ : ∃ x, m1 + v5 = x := ⟨_, rfl⟩
        obtain ⟨n4, hn4⟩ : ∃ x, a3 + tt = x := ⟨_, rfl⟩
        have Gx3 : Hid (bits BinOp.xor IntKind.u32 (x1.toNat : Int) (x2.toNat : Int) = (x3.toNat : Int)) := by unfold Hid; rw [← hx3]; exact bits_xor32 _ _
        have Gx5 : Hid (bits BinOp.xor IntKind.u32 (x3.toNat : Int) (x4.toNat : Int) = (x5.toNat : Int)) := by unfold Hid; rw [← hx5]; exact bits_xor32 _ _
        have Gy2 : Hid (bits BinOp.and IntKind.u32 (a4.toNat : Int) (a5.toNat : Int) = (y2.toNat : Int)) := by unfold Hid; rw [← hy2]; exact bits_and32 _ _
        have Gy4 : Hid (bits BinOp.and IntKind.u32 (y3.toNat : Int) (a6.toNat : Int) = (y4.toNat : Int)) := by unfold Hid; rw [← hy4]; exact bits_and32 _ _
        have Gy5 : Hid (bits BinOp.xor IntKind.u32 (y2.toNat : Int) (y4.toNat : Int) = (y5.toNat : Int)) := by unfold Hid; rw [← hy5]; exact bits_xor32 _ _
        have Gz3 : Hid (bits BinOp.xor IntKind.u32 (z1.toNat : Int) (z2.toNat : Int) = (z3.toNat : Int)) := by unfold Hid; rw [← hz3]; exact bits_xor32 _ _
        have Gz5 : Hid (bits BinOp.xor IntKind.u32 (z3.toNat : Int) (z4.toNat : Int) = (z5.toNat : Int)) := by unfold Hid; rw [← hz5]; exact bits_xor32 _ _
        have Gv1 : Hid (bits BinOp.and IntKind.u32 (a0.toNat : Int) (a1.toNat : Int) = (v1.toNat : Int)) := by unfold Hid; rw [← hv1]; exact bits_and32 _ _
        have Gv2 : Hid (bits BinOp.and IntKind.u32 (a0.toNat : Int) (a2.toNat : Int) = (v2.toNat : Int)) := by unfold Hid; rw [← hv2]; exact bits_and32 _ _
        have Gv3 : Hid (bits BinOp.xor IntKind.u32 (v1.toNat : Int) (v2.toNat : Int) = (v3.toNat : Int)) := by unfold Hid; rw [← hv3]; exact bits_xor32 _ _
        have Gv4 : Hid (bits BinOp.and IntKind.u32 (a1.toNat : Int) (a2.toNat : Int) = (v4.toNat : Int)) := by unfold Hid; rw [← hv4]; exact bits_and32 _ _
        have Gv5 : Hid (bits BinOp.xor IntKind.u32 (v3.toNat : Int) (v4.toNat : Int) = (v5.toNat : Int)) := by unfold Hid; rw [← hv5]; exact bits_xor32 _ _
        have Gy3 : Hid (bits BinOp.xor IntKind.u32 4294967295 (a4.toNat : Int) = (y3.toNat : Int)) := by unfold Hid; rw [← hy3]; exact bits_not32 _
        have Gmy1 : Hid (((a7.toNat : Int) + (x5.toNat : Int)) % 4294967296 = (y1.toNat : Int)) := by unfold Hid; rw [← hy1]; exact add32 _ _
        have Gwy1 : Hid (IntKind.u32.wrap ((a7.toNat : Int) + (x5.toNat : Int)) = (y1.toNat : Int)) := by unfold Hid; rw [← hy1, IntKind.wrap_u32]; exact add32 _ _
        have Gmy6 : Hid (((y1.toNat : Int) + (y5.toNat : Int)) % 4294967296 = (y6.toNat : Int)) := by unfold Hid; rw [← hy6]; exact add32 _ _
        have Gwy6 : Hid (IntKind.u32.wrap ((y1.toNat : Int) + (y5.toNat : Int)) = (y6.toNat : Int)) := by unfold Hid; rw [← hy6, IntKind.wrap_u32]; exact add32 _ _
        have Gmy7 : Hid (((y6.toNat : Int) + (kk.toNat : Int)) % 4294967296 = (y7.toNat : Int)) := by unfold Hid; rw [← hy7]; exact add32 _ _
        have Gwy7 : Hid (IntKind.u32.wrap ((y6.toNat : Int) + (kk.toNat : Int)) = (y7.toNat : Int)) := by unfold Hid; rw [← hy7, IntKind.wrap_u32]; exact add32 _ _
        have Gmtt : Hid (((y7.toNat : Int) + (ww.toNat : Int)) % 4294967296 = (tt.toNat : Int)) := by unfold Hid; rw [← htt]; exact add32 _ _
        have Gwtt : Hid (IntKind.u32.wrap ((y7.toNat : Int) + (ww.toNat : Int)) = (tt.toNat : Int)) := by unfold Hid; rw [← htt, IntKind.wrap_u32]; exact add32 _ _
        have Gmm1 : Hid (((tt.toNat : Int) + (z5.toNat : Int)) % 4294967296 = (m1.toNat : Int)) := by unfold Hid; rw [← hm1]; exact add32 _ _
        have Gwm1 : Hid (IntKind.u32.wrap ((tt.toNat : Int) + (z5.toNat : Int)) = (m1.toNat : Int)) := by unfold Hid; rw [← hm1, IntKind.wrap_u32]; exact add32 _ _
        have Gmn0 : Hid (((m1.toNat : Int) + (v5.toNat : Int)) % 4294967296 = (n0.toNat : Int)) := by unfold Hid; rw [← hn0]; exact add32 _ _
        have Gwn0 : Hid (IntKind.u32.wrap ((m1.toNat : Int) + (v5.toNat : Int)) = (n0.toNat : Int)) := by unfold Hid; rw [← hn0, IntKind.wrap_u32]; exact add32 _ _
        have Gmn4 : Hid (((a3.toNat : Int) + (tt.toNat : Int)) % 4294967296 = (n4.toNat : Int)) := by unfold Hid; rw [← hn4]; exact add32 _ _
        have Gwn4 : Hid (IntKind.u32.wrap ((a3.toNat : Int) + (tt.toNat : Int)) = (n4.toNat : Int)) := by unfold Hid; rw [← hn4, IntKind.wrap_u32]; exact add32 _ _
        have T6 : Hid (∀ w, Calls Tryz.prog 105 #[U32 a4, .int .i64 6] w fun e w' => e = .returned (U32 x1) ∧ ∃ q, w' = w.drewN q) := fun w => by rw [← hx1]; exact turn6 a4 w
        have T11 : Hid (∀ w, Calls Tryz.prog 105 #[U32 a4, .int .i64 11] w fun e w' => e = .returned (U32 x2) ∧ ∃ q, w' = w.drewN q) := fun w => by rw [← hx2]; exact turn11 a4 w
        have T25 : Hid (∀ w, Calls Tryz.prog 105 #[U32 a4, .int .i64 25] w fun e w' => e = .returned (U32 x4) ∧ ∃ q, w' = w.drewN q) := fun w => by rw [← hx4]; exact turn25 a4 w
        have T2 : Hid (∀ w, Calls Tryz.prog 105 #[U32 a0, .int .i64 2] w fun e w' => e = .returned (U32 z1) ∧ ∃ q, w' = w.drewN q) := fun w => by rw [← hz1]; exact turn2 a0 w
        have T13 : Hid (∀ w, Calls Tryz.prog 105 #[U32 a0, .int .i64 13] w fun e w' => e = .returned (U32 z2) ∧ ∃ q, w' = w.drewN q) := fun w => by rw [← hz2]; exact turn13 a0 w
        have T22 : Hid (∀ w, Calls Tryz.prog 105 #[U32 a0, .int .i64 22] w fun e w' => e = .returned (U32 z4) ∧ ∃ q, w' = w.drewN q) := fun w => by rw [← hz4]; exact turn22 a0 w
        have HNEW : Hid (rnds st c (k + 1) = [n0, a0, a1, a2, n4, a4, a5, a6]) := by
          show rnd (rnds st c k) (shaK.getD k 0) (c.getD k 0) = _
          rw [HRK.out]
          simp only [rnd, List.getD_cons_zero, List.getD_cons_succ]
          rw [hkk, hww, hx1, hx2, hx3, hx4, hx5, hy1, hy2, hy3, hy4, hy5, hy6, hy7, htt, hz1, hz2, hz3, hz4, hz5, hv1, hv2, hv3, hv4, hv5, ← UInt32.add_assoc, hm1, hn0, hn4]
        have HKC : Hid (wr.cell? ⟨gk, k, none⟩ = some (U32 kk)) := by unfold Hid; rw [cell_of_row _ _ k _ _ _ HV8.out.sw.kb, words_at (l := shaK) (i := k) hlt, hkk]
        have HWC : Hid (wr.cell? ⟨gw, k, none⟩ = some (U32 ww)) := by unfold Hid; rw [cell_of_row _ _ k _ _ _ HV8.out.sw.wb, words_at (l := c) (i := k) (by rw [HWL.out]; exact hlt), hww]
        clear hkk hww hx1 hx2 hx3 hx4 hx5 hy1 hy2 hy3 hy4 hy5 hy6 hy7 htt hz1 hz2 hz3 hz4 hz5 hv1 hv2 hv3 hv4 hv5 hm1 hn0 hn4
        have hvb := HV8.out.vb
        have s4 : wr.cell? ⟨gv, 4, none⟩ = some (U32 a4) := (cell_of_row _ _ 4 _ _ _ hvb).trans rfl
        clear hvb
        have f3 := Gx3.out
        have f5 := Gx5.out
        go_upto_region 31 with fail
        go_quiet (first | (go_at_call 105; first | with_reducible exact Calls.quiet_of (T6.out _) | with_reducible exact Calls.quiet_of (T11.out _) | with_reducible exact Calls.quiet_of (T25.out _)))
        obtain ⟨wq, hwq⟩ : ∃ wq, wq = wr.drewN nq := ⟨_, rfl⟩
        have hxq : Ext wr wq := by rw [hwq]; exact Ext.drawn _ _
        rw [← hwq]
        have HVQ : Hid _ := SumV.more HV8.out hxq
        have HKQ : Hid _ := hxq.cell HKC.out
        have HWQ : Hid _ := hxq.cell HWC.out
        clear hwq s4 hxq f3 f5
        have hvb := HVQ.out.vb
        have s4 : wq.cell? ⟨gv, 4, none⟩ = some (U32 a4) := (cell_of_row _ _ 4 _ _ _ hvb).trans rfl
        have s5 : wq.cell? ⟨gv, 5, none⟩ = some (U32 a5) := (cell_of_row _ _ 5 _ _ _ hvb).trans rfl
        have s6 : wq.cell? ⟨gv, 6, none⟩ = some (U32 a6) := (cell_of_row _ _ 6 _ _ _ hvb).trans rfl
        have s7 : wq.cell? ⟨gv, 7, none⟩ = some (U32 a7) := (cell_of_row _ _ 7 _ _ _ hvb).trans rfl
        have sk := HKQ.out
        have sw := HWQ.out
        clear hvb
        go_upto_region 33 with fail
        rw [Gy2.out, show (if IntKind.u32.signed = true then (-1 : Int) else IntKind.u32.max) = 4294967295 from rfl, Gy3.out, Gy4.out, Gy5.out]
        clear s4 s5 s6
        have f1 := Gmy1.out
        have f2 := Gmy6.out
        have f3 := Gmy7.out
        have f4 := Gmtt.out
        have hltz : (k : Int) < 64 := by omega
        go_quiet (fail)
        try rw [Gmtt.out]
        clear s7 sk sw f1 f2 f3 f4 hltz
        obtain ⟨wp, hwp⟩ : ∃ wp, wp = wq.drewN nq := ⟨_, rfl⟩
        have hxp : Ext wq wp := by rw [hwp]; exact Ext.drawn _ _
        rw [← hwp]
        have HVP : Hid _ := SumV.more HVQ.out hxp
        clear hwp hxp
        have hvb := HVP.out.vb
        have s0 : wp.cell? ⟨gv, 0, none⟩ = some (U32 a0) := (cell_of_row _ _ 0 _ _ _ hvb).trans rfl
        clear hvb
        have f3 := Gz3.out
        have f5 := Gz5.out
        go_upto_region 34 with fail
        go_quiet (first | (go_at_call 105; first | with_reducible exact Calls.quiet_of (T2.out _) | with_reducible exact Calls.quiet_of (T13.out _) | with_reducible exact Calls.quiet_of (T22.out _)))
        clear s0 f3 f5
        obtain ⟨wo, hwo⟩ : ∃ wo, wo = wp.drewN nq := ⟨_, rfl⟩
        have hxo : Ext wp wo := by rw [hwo]; exact Ext.drawn _ _
        rw [← hwo]
        have HVO : Hid _ := SumV.more HVP.out hxo
        clear hwo hxo
        have hvb := HVO.out.vb
        have r0 : wo.cell? ⟨gv, 0, none⟩ = some (U32 a0) := (cell_of_row _ _ 0 _ _ _ hvb).trans rfl
        have r1 : wo.cell? ⟨gv, 1, none⟩ = some (U32 a1) := (cell_of_row _ _ 1 _ _ _ hvb).trans rfl
        have r2 : wo.cell? ⟨gv, 2, none⟩ = some (U32 a2) := (cell_of_row _ _ 2 _ _ _ hvb).trans rfl
        have r3 : wo.cell? ⟨gv, 3, none⟩ = some (U32 a3) := (cell_of_row _ _ 3 _ _ _ hvb).trans rfl
        have r4 : wo.cell? ⟨gv, 4, none⟩ = some (U32 a4) := (cell_of_row _ _ 4 _ _ _ hvb).trans rfl
        have r5 : wo.cell? ⟨gv, 5, none⟩ = some (U32 a5) := (cell_of_row _ _ 5 _ _ _ hvb).trans rfl
        have r6 : wo.cell? ⟨gv, 6, none⟩ = some (U32 a6) := (cell_of_row _ _ 6 _ _ _ hvb).trans rfl
        go_upto_region 36 with fail
        rw [Gv1.out, Gv2.out, Gv3.out, Gv4.out, Gv5.out]
        have HNV : Hid ((#[.int .u32 (((m1.toNat : Int) + (v5.toNat : Int)) % 4294967296), U32 a0, U32 a1, U32 a2, .int .u32 (((a3.toNat : Int) + (tt.toNat : Int)) % 4294967296), U32 a4, U32 a5, U32 a6] : Array Value) = #[U32 n0, U32 a0, U32 a1, U32 a2, U32 n4, U32 a4, U32 a5, U32 a6]) := by unfold Hid; rw [Gmn0.out, Gmn4.out]
        have fm1 := Gmm1.out
        have fm2 := Gmn0.out
        have fm3 := Gmn4.out
        go_wp2_with (refine store_all ?ha 146 (.tmp 15) (.tmp 258) ?hb gv 0 ?hc #[U32 n0, U32 a0, U32 a1, U32 a2, U32 n4, U32 a4, U32 a5, U32 a6] ?hd ?he _ _ hvb ?hf size_a8 #[U32 n0, U32 a0, U32 a1, U32 a2, U32 n4, U32 a4, U32 a5, U32 a6] ?hg ?hh; (case ha => rfl); (case hb => rfl); (case hc => rfl); (case he => intro v hv; simp at hv; rcases hv with rfl | rfl | rfl | rfl | rfl | rfl | rfl | rfl <;> rfl); (case hf => simp); (case hg => simp); (case hd => go_simp); intro wn hgn hgrn)
        have HVN : Hid _ := SumV.putV HVO.out (cur' := [n0, a0, a1, a2, n4, a4, a5, a6]) hgn hgrn
        clear r0 r1 r2 r3 r4 r5 r6 hvb hgn hgrn fm1 fm2 fm3
        go_roundw
        case rel => exact ⟨k + 1, n0, a0, a1, a2, n4, a4, a5, a6, by omega, by go_num, HVN.out, HNEW.out⟩
        case measure => simp [intOf]; omega
      have hkk : k = 64 := by omega
      subst hkk
      obtain ⟨fin, hfin⟩ : ∃ l, [a0, a1, a2, a3, a4, a5, a6, a7] = l := ⟨_, rfl⟩
      have HFL : Hid (fin.length = 8) := by rw [← hfin]; rfl
      rw [hfin] at HV8 HRK
      have H20 : Hid (SumV w wr gk gh gw mb mo gv M (partM st fin 0) c fin) := HV8.out
      have HST8 : Hid _ := HST.out
      clear hfin
      go_wp2_with fail
      go_loopw [22] (fun i wr => ∃ k : Nat, k ≤ 8 ∧ i = .int .i64 k ∧ Hid (SumV w wr gk gh gw mb mo gv M (partM st fin k) c fin)) (fun i _ => 8 - (intOf i).toNat)
      case atStart => exact ⟨0, by omega, rfl, H20.out⟩
      case round =>
      obtain ⟨k, hk, rfl, H2⟩ := hrel
      by_cases hlt : k < 8
      case pos =>
        as_aux_lemma =>
        obtain ⟨sk, hsk⟩ : ∃ x, st.getD k 0 = x := ⟨_, rfl⟩
        obtain ⟨fk, hfk⟩ : ∃ x, fin.getD k 0 = x := ⟨_, rfl⟩
        obtain ⟨xk, hxk⟩ : ∃ x, sk + fk = x := ⟨_, rfl⟩
        have hpl := partM_len HST8.out HFL.out hk
        have hps := partM_set HST8.out HFL.out hlt
        have hpg := partM_get HST8.out HFL.out hlt
        rw [hsk] at hpg
        rw [hsk, hfk, hxk] at hps
        have HADD : Hid (Value.int .u32 (IntKind.u32.wrap ((sk.toNat : Int) + (fk.toNat : Int))) = U32 xk) := by unfold Hid; rw [← hxk]; exact addw_u32 sk fk
        have HC1 : Hid (wr.cell? ⟨gh, k, none⟩ = some (U32 sk)) := by unfold Hid; rw [cell_of_row _ _ k _ _ _ H2.out.sw.hb, words_at (by omega), hpg]
        have HC2 : Hid (wr.cell? ⟨gv, k, none⟩ = some (U32 fk)) := by unfold Hid; rw [cell_of_row _ _ k _ _ _ H2.out.vb, words_at (by rw [HFL.out]; exact hlt), hfk]
        have HPS : Hid _ := hps
        have HPL : Hid _ := hpl
        clear hsk hfk hxk hpg hps hpl
        go_upto_region 40 with fail
        apply wp_region_mix 11 [_, _, _, _, .pointer (some ⟨gh, k, none⟩), U32 sk, _, .pointer (some ⟨gv, k, none⟩), U32 fk, U32 xk, .pointer (some ⟨gh, k, none⟩)] [none, none, none, none, none, none, none, none, none, none, none] [[], [], [], [], [2, 3], [4], [], [6], [7], [5, 8], [0, 1]] (by kernel_rfl) (by kernel_rfl) (by simp [mixV])
        · trivial
        · simp (maxSteps := 1000000) only [List.take_succ_cons, List.take_zero, oblFrom, stepObl, fillFrom, Act.put, List.setIfInBounds_toArray, List.set_cons_zero, List.set_cons_succ, knows, getV, mixV, List.getD_cons_zero, List.getD_cons_succ, and_true, true_and, forall_const]
          refine ⟨?_, ?_, ?_, ?_, ?_, ?_, ?_, ?_, ?_, ?_, ?_⟩
          · intro xs wq hq R hR
            go_simp
            exact hR _ _ (Ext.refl _) rfl
          · intro xs wq hq R hR
            go_simp
            exact hR _ _ (Ext.refl _) rfl
          · intro xs wq hq R hR
            go_simp
            exact hR _ _ (Ext.refl _) rfl
          · intro xs wq hq R hR
            go_simp
            exact hR _ _ (Ext.refl _) rfl
          · intro xs wq hq hk R hR
            obtain ⟨hk0, hk1⟩ := hk
            go_simp
            exact hR _ _ (Ext.refl _) rfl
          · intro xs wq hq hk R hR
            have f0 := hq.cell HC1.out
            go_simp
            exact hR _ _ (Ext.refl _) rfl
          · intro xs wq hq R hR
            go_simp
            exact hR _ _ (Ext.refl _) rfl
          · intro xs wq hq hk R hR
            go_simp
            exact hR _ _ (Ext.refl _) rfl
          · intro xs wq hq hk R hR
            have f0 := hq.cell HC2.out
            go_simp
            exact hR _ _ (Ext.refl _) rfl
          · intro xs wq hq hk R hR
            obtain ⟨hk0, hk1⟩ := hk
            go_simp
            exact hR _ _ (Ext.refl _) HADD.out
          · intro xs wq hq hk R hR
            obtain ⟨hk0, hk1⟩ := hk
            go_simp
            exact hR _ _ (Ext.refl _) rfl
        intro xs wz hxz hk
        simp only [heldV, Nat.zero_add, Nat.reduceAdd, and_true] at hk
        obtain ⟨q0, q1, q2, q3, q4, q5, q6, q7, q8, q9, q10⟩ := hk
        simp (maxSteps := 1000000) only [List.take_succ_cons, List.take_zero, List.drop_succ_cons, List.drop_zero, fillFrom, Act.put, List.setIfInBounds_toArray, List.set_cons_zero, List.set_cons_succ, Nat.zero_add, Nat.reduceAdd, q0, q1, q2, q3, q4, q5, q6, q7, q8, q9, q10]
        clear q0 q1 q2 q3 q4 q5 q6 q7 q8 q9 q10
        have HVZ2 : Hid _ := SumV.more H2.out hxz
        have hhb := HVZ2.out.sw.hb
        have hsz : ((partM st fin k).map U32).toArray.size = 8 := by simp [HPL.out]
        have hput := words_put (l := partM st fin k) (i := k) xk (by rw [HPL.out]; exact hlt)
        rw [← HPS.out] at hput
        go_wp2_with (refine store_field rfl 139 (.tmp 273) (.tmp 272) rfl gh k rfl (U32 xk) rfl rfl _ ((partM st fin k).map U32).toArray hhb (by omega) info_u32 _ hput ?_; intro wn hgn hgrn)
        have HVN : Hid _ := SumV.putH HVZ2.out hgn hgrn
        clear hgn hgrn hhb hsz hput hxz
        go_roundw
        case rel => exact ⟨k + 1, by omega, by go_num, HVN.out⟩
        case measure => simp [intOf]; omega
      have hk8 : k = 8 := by omega
      subst hk8
      have hpm : partM st fin 8 = mixM st ((M.drop a).take 64) := by
        unfold partM
        rw [HMX.out, HRK.out, List.drop_eq_nil_of_le (by rw [HST8.out]; omega), List.append_nil, List.take_of_length_le (by simp [HST8.out, HFL.out])]
      have HSW : Hid (SumW w wr gk gh gw mb mo M (mixM st ((M.drop a).take 64)) c) := by
        have h9 := H2.out.sw
        rw [hpm] at h9
        exact h9
      have HF2 : Hid ((absorb (mixM st ((M.drop a).take 64)) (M.drop (a + 64))).1 = FIN) := by
        unfold Hid
        rw [← absorb_step hfit]
        exact HF.out
      have HML8 : Hid ((mixM st ((M.drop a).take 64)).length = 8) := mix_len HST8.out
      have hw64 : IntKind.i64.wrap ((a : Int) + 64) = ((a + 64 : Nat) : Int) := by rw [IntWalk.i64_in _ (by omega)]; omega
      clear hpm
      go_wp2_with fail
      go_roundw
      case rel => exact ⟨a + 64, _, c, by go_num, by omega, by have := HAM.out; omega, HML8.out, HWL.out, HF2.out, HSW.out⟩
      case measure => simp [intOf]; omega
    obtain rfl : st = FIN := by
      have h9 := HF.out
      rw [absorb_end st (by omega)] at h9
      exact h9
    have HHB : Hid (wr.heap[gh]? = some (.cells (st.map U32).toArray 139 (0, 0))) := HS.out.hb
    have HXL : Hid (Ext w wr) := HS.out.ext
    have HSTL : Hid _ := hst
    clear HS HF
    obtain ⟨wl, hwl⟩ : ∃ x, wr = x := ⟨_, rfl⟩
    rw [hwl] at HHB HXL ⊢
    clear hwl
    go_wp2_with fail
    go_loopw [23, 24] (fun ov i wr => ∃ k : Nat, k ≤ 8 ∧ i = .int .i64 k ∧ Hid (wr.ownsRow wl.heap.size 5 1 ov (4 * k) (((st.take k).flatMap outM).map fun x => .int .u8 x.toNat)) ∧ Hid (Ext wl wr)) (fun _ i _ => 8 - (intOf i).toNat)
    case atStart => exact ⟨0, by omega, rfl, World.ownsRow_nil _ _ _ _, Ext.refl _⟩
    case round =>
    obtain ⟨j, hj, rfl, HOWJ, HXJ⟩ := hrel
    obtain ⟨ja, jc, rfl, -⟩ := Row.of_owns HOWJ.out (by omega)
    by_cases hlt : j < 8
    case pos =>
      as_aux_lemma =>
      obtain ⟨x, hxx⟩ : ∃ x, st.getD j 0 = x := ⟨_, rfl⟩
      obtain ⟨q1, hq1⟩ : ∃ q, x >>> 24 = q := ⟨_, rfl⟩
      obtain ⟨q2, hq2⟩ : ∃ q, x >>> 16 = q := ⟨_, rfl⟩
      obtain ⟨q3, hq3⟩ : ∃ q, x >>> 8 = q := ⟨_, rfl⟩
      have HQ1 : Hid (Value.int .u32 ((x.toNat : Int) / 16777216) = U32 q1) := by unfold Hid; rw [← hq1]; exact congrArg (Value.int .u32) (shr32 x 24 (by decide))
      have HQ2 : Hid (Value.int .u32 ((x.toNat : Int) / 65536) = U32 q2) := by unfold Hid; rw [← hq2]; exact congrArg (Value.int .u32) (shr32 x 16 (by decide))
      have HQ3 : Hid (Value.int .u32 ((x.toNat : Int) / 256) = U32 q3) := by unfold Hid; rw [← hq3]; exact congrArg (Value.int .u32) (shr32 x 8 (by decide))
      have HOUT : Hid (outM x = [UInt8.ofNat q1.toNat, UInt8.ofNat q2.toNat, UInt8.ofNat q3.toNat, UInt8.ofNat x.toNat]) := by unfold Hid outM; rw [hq1, hq2, hq3]
      have HC : Hid (wr.cell? ⟨gh, j, none⟩ = some (U32 x)) := by unfold Hid; exact HXJ.out.cell (by rw [cell_of_row _ _ j _ _ _ HHB.out, words_at (by rw [HSTL.out]; exact hlt), hxx])
      have HXX : Hid _ := hxx
      clear hq1 hq2 hq3 hxx
      obtain ⟨b1, hb1⟩ : ∃ b, UInt8.ofNat q1.toNat = b := ⟨_, rfl⟩
      obtain ⟨b2, hb2⟩ : ∃ b, UInt8.ofNat q2.toNat = b := ⟨_, rfl⟩
      obtain ⟨b3, hb3⟩ : ∃ b, UInt8.ofNat q3.toNat = b := ⟨_, rfl⟩
      obtain ⟨b4, hb4⟩ : ∃ b, UInt8.ofNat x.toNat = b := ⟨_, rfl⟩
      have HB1 : Hid (Value.int .u8 (IntKind.u8.wrap (q1.toNat : Int)) = .int .u8 b1.toNat) := by unfold Hid; rw [← hb1]; exact conv_u8 q1
      have HB2 : Hid (Value.int .u8 (IntKind.u8.wrap (q2.toNat : Int)) = .int .u8 b2.toNat) := by unfold Hid; rw [← hb2]; exact conv_u8 q2
      have HB3 : Hid (Value.int .u8 (IntKind.u8.wrap (q3.toNat : Int)) = .int .u8 b3.toNat) := by unfold Hid; rw [← hb3]; exact conv_u8 q3
      have HB4 : Hid (Value.int .u8 (IntKind.u8.wrap (x.toNat : Int)) = .int .u8 b4.toNat) := by unfold Hid; rw [← hb4]; exact conv_u8 x
      rw [hb1, hb2, hb3, hb4] at HOUT
      clear hb1 hb2 hb3 hb4
      have HFL : Hid (((st.take j).flatMap outM).length = 4 * j) := by
        have h9 := HOWJ.out.1
        unfold Hid
        simpa using h9
      go_upto_region 45 with fail
      apply wp_region_mix 25 [_, _, _, .pointer (some ⟨gh, j, none⟩), U32 x, U32 q1, .int .u8 b1.toNat, _, _, .pointer (some ⟨gh, j, none⟩), U32 x, U32 q2, .int .u8 b2.toNat, _, _, .pointer (some ⟨gh, j, none⟩), U32 x, U32 q3, .int .u8 b3.toNat, _, _, .pointer (some ⟨gh, j, none⟩), U32 x, .int .u8 b4.toNat, undef] [none, none, none, none, none, none, none, none, none, none, none, none, none, none, none, none, none, none, none, none, none, none, none, none, some (fun u w' => ∃ g, u = .slice (some ⟨g, 0, none⟩) 4 4 ∧ wr.heap.size ≤ g ∧ w'.heap[g]? = some (.cells #[.int .u8 b1.toNat, .int .u8 b2.toNat, .int .u8 b3.toNat, .int .u8 b4.toNat] 5 (0, 0)))] [[], [], [], [1, 2], [3], [4], [5], [], [], [7, 8], [9], [10], [11], [], [], [13, 14], [15], [16], [17], [], [], [19, 20], [21], [22], [6, 12, 18, 23]] (by kernel_rfl) (by kernel_rfl) (by simp [mixV])
      · refine ⟨?_, trivial⟩
        · exact fun u w w' he ⟨g, h1, h2, h3⟩ => ⟨g, h1, h2, (he.block g (Array.getElem?_eq_some_iff.1 h3).1).trans h3⟩
      · simp (maxSteps := 1000000) only [List.take_succ_cons, List.take_zero, oblFrom, stepObl, fillFrom, Act.put, List.setIfInBounds_toArray, List.set_cons_zero, List.set_cons_succ, knows, getV, mixV, List.getD_cons_zero, List.getD_cons_succ, and_true, true_and, forall_const]
        refine ⟨?_, ?_, ?_, ?_, ?_, ?_, ?_, ?_, ?_, ?_, ?_, ?_, ?_, ?_, ?_, ?_, ?_, ?_, ?_, ?_, ?_, ?_, ?_, ?_, ?_⟩
        · intro xs wq hq R hR
          go_simp
          exact hR _ _ (Ext.refl _) rfl
        · intro xs wq hq R hR
          go_simp
          exact hR _ _ (Ext.refl _) rfl
        · intro xs wq hq R hR
          go_simp
          exact hR _ _ (Ext.refl _) rfl
        · intro xs wq hq hk R hR
          obtain ⟨hk0, hk1⟩ := hk
          go_simp
          exact hR _ _ (Ext.refl _) rfl
        · intro xs wq hq hk R hR
          have f0 := hq.cell HC.out
          go_simp
          exact hR _ _ (Ext.refl _) rfl
        · intro xs wq hq hk R hR
          go_simp
          exact hR _ _ (Ext.refl _) HQ1.out
        · intro xs wq hq hk R hR
          go_simp
          exact hR _ _ (Ext.refl _) HB1.out
        · intro xs wq hq R hR
          go_simp
          exact hR _ _ (Ext.refl _) rfl
        · intro xs wq hq R hR
          go_simp
          exact hR _ _ (Ext.refl _) rfl
        · intro xs wq hq hk R hR
          obtain ⟨hk0, hk1⟩ := hk
          go_simp
          exact hR _ _ (Ext.refl _) rfl
        · intro xs wq hq hk R hR
          have f0 := hq.cell HC.out
          go_simp
          exact hR _ _ (Ext.refl _) rfl
        · intro xs wq hq hk R hR
          go_simp
          exact hR _ _ (Ext.refl _) HQ2.out
        · intro xs wq hq hk R hR
          go_simp
          exact hR _ _ (Ext.refl _) HB2.out
        · intro xs wq hq R hR
          go_simp
          exact hR _ _ (Ext.refl _) rfl
        · intro xs wq hq R hR
          go_simp
          exact hR _ _ (Ext.refl _) rfl
        · intro xs wq hq hk R hR
          obtain ⟨hk0, hk1⟩ := hk
          go_simp
          exact hR _ _ (Ext.refl _) rfl
        · intro xs wq hq hk R hR
          have f0 := hq.cell HC.out
          go_simp
          exact hR _ _ (Ext.refl _) rfl
        · intro xs wq hq hk R hR
          go_simp
          exact hR _ _ (Ext.refl _) HQ3.out
        · intro xs wq hq hk R hR
          go_simp
          exact hR _ _ (Ext.refl _) HB3.out
        · intro xs wq hq R hR
          go_simp
          exact hR _ _ (Ext.refl _) rfl
        · intro xs wq hq R hR
          go_simp
          exact hR _ _ (Ext.refl _) rfl
        · intro xs wq hq hk R hR
          obtain ⟨hk0, hk1⟩ := hk
          go_simp
          exact hR _ _ (Ext.refl _) rfl
        · intro xs wq hq hk R hR
          have f0 := hq.cell HC.out
          go_simp
          exact hR _ _ (Ext.refl _) rfl
        · intro xs wq hq hk R hR
          go_simp
          exact hR _ _ (Ext.refl _) HB4.out
        · intro xs wq hq hk R hR
          obtain ⟨hk0, hk1, hk2, hk3⟩ := hk
          go_simp
          exact hR _ _ ((Ext.refl _).alloc _) ⟨_, rfl, hq.size, alloc_at _ _⟩
      intro xs wz hxz hk
      simp only [heldV, Nat.zero_add, Nat.reduceAdd, and_true] at hk
      have q0 := hk.1
      replace hk := hk.2
      have q1 := hk.1
      replace hk := hk.2
      have q2 := hk.1
      replace hk := hk.2
      have q3 := hk.1
      replace hk := hk.2
      have q4 := hk.1
      replace hk := hk.2
      have q5 := hk.1
      replace hk := hk.2
      have q6 := hk.1
      replace hk := hk.2
      have q7 := hk.1
      replace hk := hk.2
      have q8 := hk.1
      replace hk := hk.2
      have q9 := hk.1
      replace hk := hk.2
      have q10 := hk.1
      replace hk := hk.2
      have q11 := hk.1
      replace hk := hk.2
      have q12 := hk.1
      replace hk := hk.2
      have q13 := hk.1
      replace hk := hk.2
      have q14 := hk.1
      replace hk := hk.2
      have q15 := hk.1
      replace hk := hk.2
      have q16 := hk.1
      replace hk := hk.2
      have q17 := hk.1
      replace hk := hk.2
      have q18 := hk.1
      replace hk := hk.2
      have q19 := hk.1
      replace hk := hk.2
      have q20 := hk.1
      replace hk := hk.2
      have q21 := hk.1
      replace hk := hk.2
      have q22 := hk.1
      replace hk := hk.2
      have q23 := hk.1
      replace hk := hk.2
      have q24 := hk
      clear hk
      simp (maxSteps := 1000000) only [List.take_succ_cons, List.take_zero, List.drop_succ_cons, List.drop_zero, fillFrom, Act.put, List.setIfInBounds_toArray, List.set_cons_zero, List.set_cons_succ, Nat.zero_add, Nat.reduceAdd, q0, q1, q2, q3, q4, q5, q6, q7, q8, q9, q10, q11, q12, q13, q14, q15, q16, q17, q18, q19, q20, q21, q22, q23]
      clear q0 q1 q2 q3 q4 q5 q6 q7 q8 q9 q10 q11 q12 q13 q14 q15 q16 q17 q18 q19 q20 q21 q22 q23
      generalize xs 24 = x24 at *
      obtain ⟨g, rfl, hg1, hg2⟩ := q24
      have hown2 := owns_ext HOWJ.out hxz
      have hxj2 := HXJ.out.trans hxz
      go_wp2_with (at_builtin; refine app_u8 rfl _ _ rfl wl.heap.size _ (4 * j) _ rfl hown2 g 4 4 [b1, b2, b3, b4] rfl rfl hg2 (by omega) hxj2.size ?_; intro v' w6 hown6 hg6)
      go_roundw
      case rel =>
        refine ⟨j + 1, by omega, by go_num, ?_, owns_ext_app hxj2 hown2 hg6⟩
        have h9 : (st.take (j + 1)).flatMap outM = (st.take j).flatMap outM ++ [b1, b2, b3, b4] := by
          rw [List.take_add_one, List.flatMap_append, List.getElem?_eq_getElem (by rw [HSTL.out]; exact hlt)]
          congr 1
          have h8 : st[j]'(by rw [HSTL.out]; exact hlt) = x := by
            rw [← HXX.out, List.getD_eq_getElem?_getD, List.getElem?_eq_getElem (by rw [HSTL.out]; exact hlt)]
            rfl
          rw [h8]
          simpa using HOUT.out
        rw [h9]
        exact hown6
      case measure => simp [intOf]; omega
    have hj8 : j = 8 := by omega
    subst hj8
    go_wp2_with fail
    go_ret
    have h9 := HOWJ.out.mono (base' := w.heap.size) HXL.out.size
    rw [List.take_of_length_le (by rw [HSTL.out]; omega), ← HRES.out] at h9
    exact ⟨⟨_, rfl, h9⟩, HXL.out.trans HXJ.out⟩
end Go.Proofs.YtalpfoomkhhgnaaGreatDoor

/-! marref1.Hex. Conditions: as each theorem states. -/
namespace Go.Proofs.YtalpfoomkhhgnaaGreatDoor
open Go Go.RowKit
set_option linter.unusedVariables false
set_option linter.unusedSimpArgs false
set_option linter.unusedSectionVars false

set_option maxRecDepth 100000 in
set_option maxHeartbeats 800000 in
theorem rhex_any (v : Value) (l : B8) (w : World) (hv : IsBytes w v l) (hl : l.length ≤ 30000000) :
    Calls Tryz.prog 68 #[v] w fun e w' => e = .returned (S8 (hexM l)) ∧ Ext w w' := by
  obtain ⟨a, cap, rfl, h1, h2, h3, h4⟩ := hv.get
  have H4 : Hid _ := h4
  clear h4 hv
  go_enter Tryz.func68, Tryz.ntmps68
  go_wp2
  go_loopw [4, 5] (fun v i wr => ∃ k : Nat, k ≤ l.length ∧ i = .int .i64 k ∧ wr.ownsRow w.heap.size 5 1 v (2 * k) ((hexM (l.take k)).map fun x => .int .u8 x.toNat) ∧ Ext w wr) (fun _ i _ => l.length - (intOf i).toNat)
  case atStart => exact ⟨0, Nat.zero_le _, rfl, World.ownsRow_nil _ _ _ _, Ext.refl _⟩
  case round =>
    obtain ⟨k, hk, rfl, hown, hx⟩ := hrel
    by_cases hlt : k < l.length
    · obtain ⟨b, o, rfl, hc⟩ := H4.out k hlt
      have hck := hx.cell (hc k hlt)
      clear hc
      generalize hy : l.getD k 0 = y at hck
      have HY : Hid _ := hy
      clear hy
      have hy256 : y.toNat < 256 := y.toNat_lt
      have ha : bits BinOp.and IntKind.u8 (y.toNat : Int) 15 = ((y.toNat % 16 : Nat) : Int) := and15 _ hy256
      have HA : Hid _ := ha
      clear ha
      go_upto_region 6 with fail
      apply wp_region_mix 16 [_, _, _, _, .pointer (some ⟨b, o + k, none⟩), .int .u8 y.toNat, _, .int .u8 (digitsB.getD (y.toNat / 16) 0).toNat, _, _, _, .pointer (some ⟨b, o + k, none⟩), .int .u8 y.toNat, _, .int .u8 (digitsB.getD (y.toNat % 16) 0).toNat, undef] [none, none, none, none, none, none, none, none, none, none, none, none, none, none, none, some (fun u w' => ∃ g, u = .slice (some ⟨g, 0, none⟩) 2 2 ∧ wr.heap.size ≤ g ∧ w'.heap[g]? = some (.cells #[.int .u8 (digitsB.getD (y.toNat / 16) 0).toNat, .int .u8 (digitsB.getD (y.toNat % 16) 0).toNat] 5 (0, 0)))] [[], [], [], [], [2, 3], [4], [5], [1, 6], [], [], [], [9, 10], [11], [12], [8, 13], [7, 14]] (by kernel_rfl) (by kernel_rfl) (by simp [mixV])
      · refine ⟨?_, trivial⟩
        · exact fun u w w' he ⟨g, h1, h2, h3⟩ => ⟨g, h1, h2, (he.block g (Array.getElem?_eq_some_iff.1 h3).1).trans h3⟩
      · simp (maxSteps := 1000000) only [List.take_succ_cons, List.take_zero, oblFrom, stepObl, fillFrom, Act.put, List.setIfInBounds_toArray, List.set_cons_zero, List.set_cons_succ, knows, getV, mixV, List.getD_cons_zero, List.getD_cons_succ, and_true, true_and, forall_const]
        refine ⟨?_, ?_, ?_, ?_, ?_, ?_, ?_, ?_, ?_, ?_, ?_, ?_, ?_, ?_, ?_, ?_⟩
        · intro xs wq hq R hR
          go_simp
          exact hR _ _ (Ext.refl _) rfl
        · intro xs wq hq R hR
          go_simp
          exact hR _ _ (Ext.refl _) rfl
        · intro xs wq hq R hR
          go_simp
          exact hR _ _ (Ext.refl _) rfl
        · intro xs wq hq R hR
          go_simp
          exact hR _ _ (Ext.refl _) rfl
        · intro xs wq hq hk R hR
          obtain ⟨hk0, hk1⟩ := hk
          go_simp
          exact hR _ _ (Ext.refl _) rfl
        · intro xs wq hq hk R hR
          have f0 := hq.cell hck
          go_simp
          exact hR _ _ (Ext.refl _) rfl
        · intro xs wq hq hk R hR
          go_simp
          exact hR _ _ (Ext.refl _) rfl
        · intro xs wq hq hk R hR
          obtain ⟨hk0, hk1⟩ := hk
          go_simp
          rw [dif_pos ⟨by omega, by omega⟩]
          exact hR _ _ (Ext.refl _) (hex_hi y (by omega))
        · intro xs wq hq R hR
          go_simp
          exact hR _ _ (Ext.refl _) rfl
        · intro xs wq hq R hR
          go_simp
          exact hR _ _ (Ext.refl _) rfl
        · intro xs wq hq R hR
          go_simp
          exact hR _ _ (Ext.refl _) rfl
        · intro xs wq hq hk R hR
          obtain ⟨hk0, hk1⟩ := hk
          go_simp
          exact hR _ _ (Ext.refl _) rfl
        · intro xs wq hq hk R hR
          have f0 := hq.cell hck
          go_simp
          exact hR _ _ (Ext.refl _) rfl
        · intro xs wq hq hk R hR
          go_simp
          exact hR _ _ (Ext.refl _) rfl
        · intro xs wq hq hk R hR
          obtain ⟨hk0, hk1⟩ := hk
          go_simp
          rw [HA.out, dif_pos ⟨by omega, by omega⟩]
          exact hR _ _ (Ext.refl _) (hex_lo y (by omega))
        · intro xs wq hq hk R hR
          obtain ⟨hk0, hk1⟩ := hk
          go_simp
          exact hR _ _ ((Ext.refl _).alloc _) ⟨_, rfl, hq.size, alloc_at _ _⟩
      intro xs w2 hx2 hk
      simp only [heldV, Nat.zero_add, Nat.reduceAdd, and_true] at hk
      obtain ⟨q0, q1, q2, q3, q4, q5, q6, q7, q8, q9, q10, q11, q12, q13, q14, q15⟩ := hk
      simp (maxSteps := 1000000) only [List.take_succ_cons, List.take_zero, List.drop_succ_cons, List.drop_zero, fillFrom, Act.put, List.setIfInBounds_toArray, List.set_cons_zero, List.set_cons_succ, Nat.zero_add, Nat.reduceAdd, q0, q1, q2, q3, q4, q5, q6, q7, q8, q9, q10, q11, q12, q13, q14]
      clear q0 q1 q2 q3 q4 q5 q6 q7 q8 q9 q10 q11 q12 q13 q14
      generalize xs 15 = x15 at *
      obtain ⟨g, rfl, hg1, hg2⟩ := q15
      have hown2 := owns_ext hown hx2
      have hlen := hex_len (l.take k)
      go_wp2_with (at_builtin; refine app_u8 rfl _ _ rfl w.heap.size _ (2 * k) _ rfl hown2 g 2 2 [digitsB.getD (y.toNat / 16) 0, digitsB.getD (y.toNat % 16) 0] rfl rfl hg2 (by omega) (by have := (hx.trans hx2).size; exact this) ?_; intro v' w3 hown3 hg3)
      go_roundw
      case rel => exact ⟨k + 1, by omega, by go_num, by rw [hex_snoc hlt HY.out]; exact hown3, owns_ext_app (hx.trans hx2) hown2 hg3⟩
      case measure => simp [intOf]; omega
    · have hkk : k = l.length := by omega
      subst hkk
      rw [List.take_length] at hown
      have hlen := hex_len l
      have hcv := conv_bytes (l := hexM l) (by unfold IsBytes; rw [hlen]; exact Row.of_owns hown (by omega))
      clear hlen
      go_wp2
      go_ret
      exact ⟨rfl, hx⟩

end Go.Proofs.YtalpfoomkhhgnaaGreatDoor

/-! marref1: Hex, ID. Conditions: at most 10000000 bytes. -/
namespace Go.Proofs.YtalpfoomkhhgnaaGreatDoor
open Go Go.RowKit
set_option linter.unusedVariables false
set_option linter.unusedSimpArgs false
set_option linter.unusedSectionVars false

set_option maxRecDepth 100000 in
theorem rid_any (v : Value) (l : B8) (w : World) (hv : IsBytes w v l) (hl : l.length ≤ 10000000) :
    Calls Tryz.prog 38 #[v] w fun e w' => e = .returned (S8 (shaM l)) ∧ Ext w w' := by
  have HV : Hid (IsBytes w v l) := hv
  clear hv
  go_enter Tryz.func38, Tryz.ntmps38
  go_wp2_with (first
    | (go_at_call 69; go_must (refine (rsum_any v l w HV.out hl).mono ?_; rintro e w1 ⟨⟨v1, rfl, hown1⟩, hx1⟩; have h32 := sum_len l; have hb1 : IsBytes w1 v1 (sumM l) := by unfold IsBytes; rw [h32]; exact Row.of_owns hown1 (by omega)))
    | (go_at_call 68; go_must (refine (rhex_any v1 (sumM l) w1 hb1 (by omega)).mono ?_; rintro e w2 ⟨rfl, hx2⟩)))
  go_ret
  exact ⟨rfl, hx1.trans hx2⟩

end Go.Proofs.YtalpfoomkhhgnaaGreatDoor

/-! A slice of slices of bytes. Conditions: as each theorem states. -/
namespace Go.Proofs.YtalpfoomkhhgnaaGreatDoor
open Go Go.RowKit

/-- A slice of slices of bytes. -/
def IsBss (w : World) (v : Value) (L : List B8) : Prop := ∃ vs : List Value, vs.length = L.length ∧ Row w v L.length vs ∧ ∀ (k : Nat) u b, vs[k]? = some u → L[k]? = some b → IsBytes w u b
theorem IsBss.get {w : World} {v : Value} {L : List B8} (h : IsBss w v L) : ∃ a cap, v = .slice a L.length cap ∧ L.length ≤ cap ∧ cap ≤ 9223372036854775807 ∧ L.length ≤ 140737488355328 ∧ ∀ (k : Nat) b, L[k]? = some b → ∃ bb oo u, a = some ⟨bb, oo, none⟩ ∧ w.cell? ⟨bb, oo + k, none⟩ = some u ∧ IsBytes w u b := by
  obtain ⟨vs, hn, ⟨a, cap, rfl, h1, h2, h3, h4⟩, hb⟩ := h
  refine ⟨a, cap, rfl, h1, h2, h3, fun k b hk => ?_⟩
  have hlt := (List.getElem?_eq_some_iff.1 hk).1
  obtain ⟨u, hu⟩ : ∃ u, vs[k]? = some u := ⟨_, List.getElem?_eq_getElem (by omega)⟩
  obtain ⟨bb, oo, rfl, hc⟩ := h4 (fun e => by rw [e] at hn; simp at hn; omega)
  exact ⟨bb, oo, u, rfl, hc k u hu, hb k u b hu hk⟩

end Go.Proofs.YtalpfoomkhhgnaaGreatDoor

/-! marlaw17: ids, blobs; marlaw10.Source. Conditions: as each theorem states. -/
namespace Go.Proofs.YtalpfoomkhhgnaaGreatDoor
open Go Go.RowKit Go.Sort
set_option linter.unusedVariables false
set_option linter.unusedSimpArgs false
set_option linter.unusedSectionVars false

def ta17 : B8 := [1, 97, 0]
def tb17 : B8 := [1, 98, 0]
def ia17 : B8 := shaM ta17
def ib17 : B8 := shaM tb17
theorem ids_lt : ltB ia17 ib17 = true := by decide +kernel
theorem three_bytes {w : World} {g : Nat} {x y z : UInt8} {fr : Nat × Nat} (h : w.heap[g]? = some (.cells #[.int .u8 (x.toNat : Int), .int .u8 (y.toNat : Int), .int .u8 (z.toNat : Int)] 5 fr)) : IsBytes w (.slice (some ⟨g, 0, none⟩) 3 3) [x, y, z] := Row.new h (by decide) _ rfl

set_option maxRecDepth 100000 in
set_option maxHeartbeats 4000000 in
theorem ids17_any (w : World) : Calls Tryz.prog 27 #[] w fun e w' => e = .returned (.tuple #[S8 ia17, S8 ib17]) ∧ Ext w w' := by
  have kc := fun (w : World) (C : Array Value) (n c : Nat) => Lib.run_convert_bytes_const (P := Tryz.prog) w 45 5 C n c Tryz.underlying45 Tryz.underlying5
  obtain ⟨A, hA⟩ : ∃ A, ia17 = A := ⟨_, rfl⟩
  obtain ⟨B, hB⟩ : ∃ B, ib17 = B := ⟨_, rfl⟩
  have hlt := ids_lt
  rw [hA, hB] at hlt ⊢
  rw [← less_ltB] at hlt
  have hta : (⟨A.toArray⟩ : ByteArray).toList = A := Lib.toList_data _
  have htb : (⟨B.toArray⟩ : ByteArray).toList = B := Lib.toList_data _
  have HIA : Hid (shaM ta17 = A) := hA
  have HIB : Hid (shaM tb17 = B) := hB
  clear hA hB
  go_enter Tryz.func27, Tryz.ntmps27
  go_wp2_with fail
  obtain ⟨wa, hwa⟩ : ∃ wa, wa = w.alloc (.cells #[.int .u8 1, .int .u8 97, .int .u8 0] 5 (3, 4)) := ⟨_, rfl⟩
  have hxa : Ext w wa := by rw [hwa]; exact (Ext.refl _).alloc _
  have hrow : wa.heap[w.heap.size]? = some (.cells #[.int .u8 1, .int .u8 97, .int .u8 0] 5 (3, 4)) := by rw [hwa]; exact alloc_at _ _
  have HA : Hid (IsBytes wa (.slice (some ⟨w.heap.size, 0, none⟩) 3 3) ta17) := three_bytes (x := 1) (y := 97) (z := 0) hrow
  have HXA : Hid (Ext w wa) := hxa
  rw [← hwa]
  clear hwa hxa hrow
  go_at_call 38
  refine (rid_any _ ta17 wa HA.out (by decide)).mono ?_
  rw [HIA.out]
  rintro e w1 ⟨rfl, hx1⟩
  have HX1 : Hid (Ext w w1) := HXA.out.trans hx1
  clear hx1 HA
  go_wp2_with fail
  obtain ⟨wb, hwb⟩ : ∃ wb, wb = w1.alloc (.cells #[.int .u8 1, .int .u8 98, .int .u8 0] 5 (3, 4)) := ⟨_, rfl⟩
  have hxb : Ext w1 wb := by rw [hwb]; exact (Ext.refl _).alloc _
  have hrow : wb.heap[w1.heap.size]? = some (.cells #[.int .u8 1, .int .u8 98, .int .u8 0] 5 (3, 4)) := by rw [hwb]; exact alloc_at _ _
  have HB : Hid (IsBytes wb (.slice (some ⟨w1.heap.size, 0, none⟩) 3 3) tb17) := three_bytes (x := 1) (y := 98) (z := 0) hrow
  have HXB : Hid (Ext w wb) := HX1.out.trans hxb
  rw [← hwb]
  clear hwb hxb hrow
  go_at_call 38
  refine (rid_any _ tb17 wb HB.out (by decide)).mono ?_
  rw [HIB.out]
  rintro e w2 ⟨rfl, hx2⟩
  have HX2 : Hid (Ext w w2) := HXB.out.trans hx2
  clear hx2 HB kc
  go_wp2_with fail
  go_ret2
  exact ⟨rfl, HX2.out⟩
set_option maxRecDepth 100000 in
set_option maxHeartbeats 4000000 in
theorem blobs17_any (w : World) : Calls Tryz.prog 28 #[] w fun e w' => (∃ v, e = .returned v ∧ IsBss w' v [ta17, tb17]) ∧ Ext w w' := by
  have kc := fun (w : World) (C : Array Value) (n c : Nat) => Lib.run_convert_bytes_const (P := Tryz.prog) w 45 5 C n c Tryz.underlying45 Tryz.underlying5
  have kd := Joins.run_convert_bytes_const_at (P := Tryz.prog) (w.alloc (.cells #[.int .u8 1, .int .u8 97, .int .u8 0] 5 (3, 4))) 45 5 #[.int .u8 1, .int .u8 98, .int .u8 0] 3 3 (w.heap.size + 1) (size_alloc1 _ _).symm Tryz.underlying45 Tryz.underlying5
  go_enter Tryz.func28, Tryz.ntmps28
  go_wp2_with fail
  go_ret
  have hx : Ext w (((w.alloc (.cells #[.int .u8 1, .int .u8 97, .int .u8 0] 5 (3, 4))).alloc (.cells #[.int .u8 1, .int .u8 98, .int .u8 0] 5 (3, 4))).alloc (.cells #[.slice (some ⟨w.heap.size, 0, none⟩) 3 3, .slice (some ⟨w.heap.size + 1, 0, none⟩) 3 3] 45)) := (((Ext.refl _).alloc _).alloc _).alloc _
  refine ⟨⟨_, rfl, [.slice (some ⟨w.heap.size, 0, none⟩) 3 3, .slice (some ⟨w.heap.size + 1, 0, none⟩) 3 3], rfl, Row.new (g := w.heap.size + 1 + 1) (t := 45) (fr := (0, 0)) (cs := #[.slice (some ⟨w.heap.size, 0, none⟩) 3 3, .slice (some ⟨w.heap.size + 1, 0, none⟩) 3 3]) ?_ (by decide) _ rfl, fun k u b hu hb => ?_⟩, hx⟩
  · rw [show w.heap.size + 1 + 1 = ((w.alloc (.cells #[.int .u8 1, .int .u8 97, .int .u8 0] 5 (3, 4))).alloc (.cells #[.int .u8 1, .int .u8 98, .int .u8 0] 5 (3, 4))).heap.size by rw [size_alloc1, size_alloc1]]
    exact alloc_at _ _
  · match k, hu, hb with
    | 0, hu, hb =>
      cases hu; cases hb
      exact Row.ext (three_bytes (x := 1) (y := 97) (z := 0) (alloc_at w _)) (((Ext.refl _).alloc _).alloc _)
    | 1, hu, hb =>
      cases hu; cases hb
      refine Row.ext (w := (w.alloc (.cells #[.int .u8 1, .int .u8 97, .int .u8 0] 5 (3, 4))).alloc (.cells #[.int .u8 1, .int .u8 98, .int .u8 0] 5 (3, 4))) (three_bytes (x := 1) (y := 98) (z := 0) (fr := (3, 4)) ?_) ((Ext.refl _).alloc _)
      rw [← size_alloc1 w (.cells #[.int .u8 1, .int .u8 97, .int .u8 0] 5 (3, 4))]
      exact alloc_at _ _
    | k + 2, hu, hb => simp at hu

/-- What Source hands back: it knows the texts l. -/
structure IsSrcF (w : World) (F : Value) (l : List B8) (lie : Bool) : Prop where
  get : ∃ (b1 b2 b3 : Nat) (v vi : Value), F = .func (.func 39) #[] #[.pointer (some ⟨b1, 0, none⟩), .pointer (some ⟨b2, 0, none⟩), .pointer (some ⟨b3, 0, none⟩)] ∧
    w.heap[b1]? = some (.cells #[v] 35 (0, 0)) ∧ w.heap[b2]? = some (.cells #[.bool lie] 4 (0, 0)) ∧ w.heap[b3]? = some (.cells #[vi] 33 (0, 0)) ∧ IsBss w v l ∧ IsStrs w vi (l.map shaM)
theorem IsBss.ext {w w' : World} {v : Value} {l : List B8} (h : IsBss w v l) (hx : Ext w w') : IsBss w' v l := by
  obtain ⟨vs, h1, h2, h3⟩ := h
  exact ⟨vs, h1, h2.ext hx, fun k u b hu hb => (h3 k u b hu hb).ext hx⟩
theorem IsSrcF.ext {w w' : World} {F : Value} {l : List B8} {lie : Bool} (h : IsSrcF w F l lie) (hx : Ext w w') : IsSrcF w' F l lie := by
  obtain ⟨b1, b2, b3, v, vi, he, h1, h2, h3, h4, h5⟩ := h
  exact ⟨b1, b2, b3, v, vi, he, hx.row h1, hx.row h2, hx.row h3, h4.ext hx, Row.ext h5 hx⟩
theorem size_strs1 : (Tryz.prog.info? 33).map (·.size) = some 1 := by kernel_rfl

set_option maxRecDepth 100000 in
set_option maxHeartbeats 8000000 in
theorem source_any (v : Value) (l : List B8) (lie : Bool) (w : World) (hv : IsBss w v l) (hl : l.length ≤ 100000) (hs : ∀ x ∈ l, x.length ≤ 10000000) :
    Calls Tryz.prog 15 #[v, .bool lie] w fun e w' => (∃ F, e = .returned F ∧ IsSrcF w' F l lie) ∧ Ext w w' := by
  have HV : Hid (IsBss w v l) := hv
  have HS : Hid _ := hs
  obtain ⟨a, cap, rfl, l1, l2, l3, -⟩ := hv.get
  have hmf : ∀ (fn : Fn) (first cap : Array Value) (w : World), (Instr.makeFunc fn first cap).run Tryz.prog w = .ok (.func fn first cap) w := fun _ _ _ _ => rfl
  clear hv hs
  go_enter Tryz.func15, Tryz.ntmps15
  go_upto_region 2 with fail
  obtain ⟨w1, hw1⟩ : ∃ w1, w1 = ((w.alloc (.cells #[.slice a l.length cap] 35)).alloc (.cells #[.bool lie] 4)).alloc (.cells #[.slice none 0 0] 33) := ⟨_, rfl⟩
  have hx1 : Ext w w1 := by rw [hw1]; exact (((Ext.refl _).alloc _).alloc _).alloc _
  have c1 : w1.heap[w.heap.size]? = some (.cells #[.slice a l.length cap] 35 (0, 0)) := by rw [hw1]; exact Ext.row (((Ext.refl _).alloc _).alloc _) (alloc_at w _)
  have c2 : w1.heap[w.heap.size + 1]? = some (.cells #[.bool lie] 4 (0, 0)) := by rw [hw1]; refine Ext.row ((Ext.refl _).alloc _) ?_; rw [← size_alloc1 w (.cells #[.slice a l.length cap] 35)]; exact alloc_at _ _
  have c3 : w1.heap[w.heap.size + 1 + 1]? = some (.cells #[.slice none 0 0] 33 (0, 0)) := by rw [hw1, ← size_alloc1 w (.cells #[.slice a l.length cap] 35), ← size_alloc1 (w.alloc _) (.cells #[.bool lie] 4)]; exact alloc_at _ _
  rw [← hw1]
  obtain ⟨b1, hb1⟩ : ∃ b, w.heap.size = b := ⟨_, rfl⟩
  have HB : Hid (w.heap.size = b1) := hb1
  rw [hb1] at c1 c2 c3 ⊢
  have HC1 : Hid (w1.heap[b1]? = some (.cells #[.slice a l.length cap] 35 (0, 0))) := c1
  have HC2 : Hid (w1.heap[b1 + 1]? = some (.cells #[.bool lie] 4 (0, 0))) := c2
  have HC3 : Hid (w1.heap[b1 + 1 + 1]? = some (.cells #[.slice none 0 0] 33 (0, 0))) := c3
  have HX1 : Hid (Ext w w1) := hx1
  clear hw1 hx1 c1 c2 c3 hb1
  go_wp2_with fail
  go_loopw [6] (fun i wr => ∃ (k : Nat) (vi : Value), k ≤ l.length ∧ i = .int .i64 k ∧ Hid (wr.heap[b1]? = some (.cells #[.slice a l.length cap] 35 (0, 0))) ∧ Hid (wr.heap[b1 + 1]? = some (.cells #[.bool lie] 4 (0, 0))) ∧ Hid (wr.heap[b1 + 1 + 1]? = some (.cells #[vi] 33 (0, 0))) ∧ Hid (wr.ownsRow b1 9 1 vi k (((l.take k).map shaM).map S8)) ∧ Hid (Ext w wr)) (fun i _ => l.length - (intOf i).toNat)
  case atStart => exact ⟨0, _, Nat.zero_le _, rfl, HC1.out, HC2.out, HC3.out, World.ownsRow_nil _ _ _ _, HX1.out⟩
  case round =>
  clear HC1 HC2 HC3 HX1
  obtain ⟨k, vi, hk, rfl, HC1, HC2, HC3, HO, HX⟩ := hrel
  have y1 : wr.cell? ⟨b1, 0, none⟩ = some (.slice a l.length cap) := (cell_of_row _ _ 0 _ _ _ HC1.out).trans rfl
  by_cases hlt : k < l.length
  case neg =>
    have hkk : k = l.length := by omega
    subst hkk
    have hst : IsStrs wr vi (l.map shaM) := by
      have h9 := HO.out
      rw [List.take_length] at h9
      unfold IsStrs
      rw [List.length_map]
      exact Row.of_owns h9 (by omega)
    have HST : Hid _ := hst
    clear hst hlt hk
    go_wp2_with fail
    go_ret
    exact ⟨⟨_, rfl, ⟨b1, b1 + 1, b1 + 1 + 1, _, vi, rfl, HC1.out, HC2.out, HC3.out, HV.out.ext HX.out, HST.out⟩⟩, HX.out⟩
  obtain ⟨x, hx⟩ : ∃ x, l[k]? = some x := ⟨_, List.getElem?_eq_getElem hlt⟩
  have HSN : Hid ((l.take (k + 1)).map shaM = (l.take k).map shaM ++ [shaM x]) := by unfold Hid; rw [take_snocR hx, List.map_append]; rfl
  have HSX : Hid (x.length ≤ 10000000) := HS.out x (List.mem_of_getElem? hx)
  obtain ⟨_, _, he, -, -, -, hgr⟩ := HV.out.get
  cases he
  obtain ⟨bb, oo, u, rfl, hc, hu⟩ := hgr k x hx
  have HU : Hid (IsBytes w u x) := hu
  have y2 := HX.out.cell hc
  have y3 : wr.cell? ⟨b1 + 1 + 1, 0, none⟩ = some vi := (cell_of_row _ _ 0 _ _ _ HC3.out).trans rfl
  clear hgr hc hu hx
  go_upto_region 5 with fail
  apply wp_region_mix 7 [vi, .slice (some ⟨bb, oo, none⟩) l.length cap, .int .i64 k, .pointer (some ⟨bb, oo + k, none⟩), u, S8 (shaM x), undef] [none, none, none, none, none, none, some (fun u w' => ∃ k, u = .slice (some ⟨k, 0, none⟩) 1 1 ∧ w'.heap[k]? = some (.cells #[S8 (shaM x)] 9 (0, 0)))] [[], [], [], [1, 2], [3], [4], [5]] (by kernel_rfl) (by kernel_rfl) (by simp [mixV])
  · refine ⟨?_, trivial⟩
    · exact fun _ _ _ he ⟨k, h1, h3⟩ => ⟨k, h1, he.row h3⟩
  · simp (maxSteps := 1000000) only [List.take_succ_cons, List.take_zero, oblFrom, stepObl, fillFrom, Act.put, List.setIfInBounds_toArray, List.set_cons_zero, List.set_cons_succ, knows, getV, mixV, List.getD_cons_zero, List.getD_cons_succ, and_true, true_and, forall_const]
    refine ⟨?_, ?_, ?_, ?_, ?_, ?_, ?_⟩
    · intro xs wq hq R hR
      have k1 := hq.cell y1; have k2 := hq.cell y2; have k3 := hq.cell y3
      go_simp
      exact hR _ _ (Ext.refl _) rfl
    · intro xs wq hq R hR
      have k1 := hq.cell y1; have k2 := hq.cell y2; have k3 := hq.cell y3
      go_simp
      exact hR _ _ (Ext.refl _) rfl
    · intro xs wq hq R hR
      have k1 := hq.cell y1; have k2 := hq.cell y2; have k3 := hq.cell y3
      go_simp
      exact hR _ _ (Ext.refl _) rfl
    · intro xs wq hq hk R hR
      obtain ⟨hk0, hk1⟩ := hk
      have k1 := hq.cell y1; have k2 := hq.cell y2; have k3 := hq.cell y3
      go_simp
      exact hR _ _ (Ext.refl _) rfl
    · intro xs wq hq hk R hR
      have k1 := hq.cell y1; have k2 := hq.cell y2; have k3 := hq.cell y3
      go_simp
      exact hR _ _ (Ext.refl _) rfl
    · intro xs wq hq hk R hR
      go_simp
      exact (rid_any u x _ (HU.out.ext (HX.out.trans hq)) HSX.out).mono (by rintro e' w9 ⟨rfl, hx9⟩; exact ⟨_, rfl, hR _ _ hx9 rfl⟩)
    · intro xs wq hq hk R hR
      go_simp
      exact hR _ _ ((Ext.refl _).alloc _) ⟨_, rfl, alloc_at _ _⟩
  intro xs w2 hx2 hk
  simp only [heldV, Nat.zero_add, Nat.reduceAdd, and_true] at hk
  obtain ⟨q0, q1, q2, q3, q4, q5, q6⟩ := hk
  simp (maxSteps := 1000000) only [List.take_succ_cons, List.take_zero, List.drop_succ_cons, List.drop_zero, fillFrom, Act.put, List.setIfInBounds_toArray, List.set_cons_zero, List.set_cons_succ, Nat.zero_add, Nat.reduceAdd, q0, q1, q2, q3, q4, q5]
  clear q0 q1 q2 q3 q4 q5
  generalize xs 6 = x6 at *
  obtain ⟨k6, rfl, hk6⟩ := q6
  have HX2 : Hid (Ext w w2) := HX.out.trans hx2
  have ho2 : w2.ownsRow b1 9 1 vi k (((l.take k).map shaM).map S8) := owns_ext HO.out hx2
  have HO2 : Hid _ := ho2
  have HD1 : Hid (w2.heap[b1]? = some (.cells #[.slice (some ⟨bb, oo, none⟩) l.length cap] 35 (0, 0))) := hx2.row HC1.out
  have HD2 : Hid (w2.heap[b1 + 1]? = some (.cells #[.bool lie] 4 (0, 0))) := hx2.row HC2.out
  have HD3 : Hid (w2.heap[b1 + 1 + 1]? = some (.cells #[vi] 33 (0, 0))) := hx2.row HC3.out
  have hbs : b1 ≤ w2.heap.size := by have := HX2.out.size; rw [HB.out] at this; exact this
  clear hx2 y1 y2 y3
  go_wp2_with (first | (at_builtin; go_must (refine app_str rfl _ _ rfl b1 _ k _ rfl ho2 k6 1 1 [shaM x] rfl rfl hk6 (by omega) hbs ?_; intro v3 w3 hown3 hgr3; obtain ⟨va, vd, rfl⟩ := owns_some hown3 (by omega); have hd3 := row_keep HD3.out hgr3 (fun q hq => (own_type HO2.out q hq).2) (by decide))) | (refine store_field rfl 33 (.tmp 5) (.tmp 20) rfl (b1 + 1 + 1) 0 rfl (.slice (some ⟨va, 0, none⟩) (k + 1) vd) rfl rfl _ _ hd3 (Nat.le_of_ble_eq_true rfl) size_strs1 #[.slice (some ⟨va, 0, none⟩) (k + 1) vd] (by simp) ?_; intro w4 hg4 hgr4))
  have ht := fun q (hq : vi.ownBlock = some q) => (own_type HO2.out q hq).2
  have hd1 := row_keep HD1.out hgr3 ht (by decide)
  have hd2 := row_keep HD2.out hgr3 ht (by decide)
  have HE1 : Hid (w4.heap[b1]? = some (.cells #[.slice (some ⟨bb, oo, none⟩) l.length cap] 35 (0, 0))) := but_row hgr4 hd1 (by omega)
  have HE2 : Hid (w4.heap[b1 + 1]? = some (.cells #[.bool lie] 4 (0, 0))) := but_row hgr4 hd2 (by omega)
  have HE3 : Hid (w4.heap[b1 + 1 + 1]? = some (.cells #[.slice (some ⟨va, 0, none⟩) (k + 1) vd] 33 (0, 0))) := hg4
  have HO4 : Hid (w4.ownsRow b1 9 1 (.slice (some ⟨va, 0, none⟩) (k + 1) vd) (k + 1) (((l.take (k + 1)).map shaM).map S8)) := by
    unfold Hid
    rw [HSN.out]
    refine own_keep hown3 hgr4 (fun q hq cur he => ?_)
    cases hq
    rw [hd3] at he
    simp at he
  have HX4 : Hid (Ext w w4) := Ext.but (Below.grown HX2.out hgr3 HX2.out.size (fun q hq => by rw [HB.out]; exact (own_type HO2.out q hq).1)) hgr4 (by rw [HB.out]; omega)
  clear ht hd1 hd2 hd3 hown3 hgr3 hgr4 hg4 ho2 hk6
  go_roundw
  case rel => exact ⟨k + 1, _, by omega, by go_num, HE1.out, HE2.out, HE3.out, HO4.out, HX4.out⟩
  case measure => simp [intOf]; omega
end Go.Proofs.YtalpfoomkhhgnaaGreatDoor

/-! marref16.Set, marref.Rows: what they answer. Conditions: as each theorem states. -/
namespace Go.Proofs.YtalpfoomkhhgnaaGreatDoor
open Go Go.RowKit Go.Sort
set_option linter.unusedVariables false
set_option linter.unusedSimpArgs false
set_option linter.unusedSectionVars false

end Go.Proofs.YtalpfoomkhhgnaaGreatDoor

/-! marref.Rows: are two lists of rows alike? Conditions: as each theorem states. -/
namespace Go.Proofs.YtalpfoomkhhgnaaGreatDoor
open Go Go.RowKit Go.Sort
set_option linter.unusedVariables false
set_option linter.unusedSimpArgs false
set_option linter.unusedSectionVars false

def RowsPost (a b : List Rw) (e : Ending) : Prop := ∃ c : Bool, e = .returned (.bool c) ∧ (c = true ↔ a = b)
theorem rows_no {a b : List Rw} {k : Nat} {x y : Rw} (hx : a[k]? = some x) (hy : b[k]? = some y) (h : x ≠ y) : a ≠ b := fun e => by
  rw [e, hy] at hx
  exact h (Option.some.inj hx).symm

end Go.Proofs.YtalpfoomkhhgnaaGreatDoor

/-! marref.Rows: it only reads. Conditions: as each theorem states. -/
namespace Go.Proofs.YtalpfoomkhhgnaaGreatDoor
open Go Go.RowKit Go.Sort
set_option linter.unusedVariables false
set_option linter.unusedSimpArgs false
set_option linter.unusedSectionVars false

theorem drawn_ext {w wr : World} (h : ∃ n, wr = w.drewN n) : Ext w wr := by obtain ⟨n, rfl⟩ := h; exact Ext.drawn _ _
theorem drawn_snoc {w wr : World} (h : ∃ n, wr = w.drewN n) (m : Nat) : ∃ n, wr.drewN m = w.drewN n := by obtain ⟨n, rfl⟩ := h; exact ⟨n + m, by rw [World.drewN_drewN]⟩

set_option maxRecDepth 100000 in
set_option maxHeartbeats 4000000 in
theorem rrowsQ_any (va vb : Value) (a b : List Rw) (w : World) (hva : IsRws w va a) (hvb : IsRws w vb b) :
    Calls Tryz.prog 29 #[va, vb] w fun e w' => RowsPost a b e ∧ ∃ m, w' = w.drewN m := by
  obtain ⟨aa, ac, rfl, l1, l2, l3, hga⟩ := hva.cells
  obtain ⟨ba, bc, rfl, m1, m2, m3, hgb⟩ := hvb.cells
  have HGA : Hid _ := hga
  have HGB : Hid _ := hgb
  clear hva hvb hga hgb
  by_cases hlen : a.length = b.length
  case neg =>
    have hln : ((a.length : Int) != (b.length : Int)) = true := by simp; omega
    have HNE : Hid (a ≠ b) := fun e => hlen (by rw [e])
    clear hlen
    go_enter Tryz.func29, Tryz.ntmps29
    go_wp2
    go_ret
    exact ⟨⟨false, rfl, ⟨fun h => (by cases h), fun h => (HNE.out h).elim⟩⟩, 0, rfl⟩
  have hln : ((a.length : Int) != (b.length : Int)) = false := by simp; omega
  have HLEN : Hid (a.length = b.length) := hlen
  clear hlen
  go_enter Tryz.func29, Tryz.ntmps29
  go_wp2_with fail
  clear hln
  go_loopw [5] (fun i wr => ∃ k : Nat, k ≤ a.length ∧ i = .int .i64 k ∧ Hid (a.take k = b.take k) ∧ Hid (∃ n, wr = w.drewN n)) (fun i _ => a.length - (intOf i).toNat)
  case atStart => exact ⟨0, Nat.zero_le _, rfl, rfl, 0, rfl⟩
  case round =>
  obtain ⟨k, hk, rfl, HT, HQ⟩ := hrel
  have HX : Hid (Ext w wr) := drawn_ext HQ.out
  by_cases hlt : k < a.length
  case neg =>
    have hkk : k = a.length := by omega
    subst hkk
    have HEQ : Hid (a = b) := by
      have h9 := HT.out
      rw [List.take_length, HLEN.out, List.take_length] at h9
      exact h9
    go_wp2
    go_ret
    exact ⟨⟨true, rfl, ⟨fun _ => HEQ.out, fun _ => rfl⟩⟩, HQ.out⟩
  obtain ⟨x, hx⟩ : ∃ x, a[k]? = some x := ⟨_, List.getElem?_eq_getElem hlt⟩
  have hltb : k < b.length := by have := HLEN.out; omega
  obtain ⟨y, hy⟩ : ∃ y, b[k]? = some y := ⟨_, List.getElem?_eq_getElem hltb⟩
  obtain ⟨ab, ao, rfl, c0, c1, c2⟩ := HGA.out k x hx
  obtain ⟨bb, bo, rfl, d0, d1, d2⟩ := HGB.out k y hy
  have x0 := HX.out.cell c0
  have x1 := HX.out.cell c1
  have x2 := HX.out.cell c2
  have y0 := HX.out.cell d0
  have y1 := HX.out.cell d1
  have y2 := HX.out.cell d2
  have HXK : Hid _ := hx
  have HYK : Hid _ := hy
  clear c0 c1 c2 d0 d1 d2 hx hy
  obtain ⟨xp, xm, xi⟩ := x
  obtain ⟨yp, ym, yi⟩ := y
  dsimp only at x0 x1 x2 y0 y1 y2
  have t1 : (⟨xp.toArray⟩ : ByteArray).toList = xp := Lib.toList_data _
  have t2 : (⟨yp.toArray⟩ : ByteArray).toList = yp := Lib.toList_data _
  have t3 : (⟨xi.toArray⟩ : ByteArray).toList = xi := Lib.toList_data _
  have t4 : (⟨yi.toArray⟩ : ByteArray).toList = yi := Lib.toList_data _
  by_cases h0 : xp = yp
  case neg =>
    have HNE : Hid (a ≠ b) := rows_no HXK.out HYK.out (fun e => h0 (by cases e; rfl))
    have q0 : (xp != yp) = true := by simpa using h0
    have r0 : (xp == yp) = false := by simpa using h0
    clear h0
    go_upto_region 6 with fail
    go_quiet (fail)
    go_wp2
    go_ret
    exact ⟨⟨false, rfl, ⟨fun h => (by cases h), fun h => (HNE.out h).elim⟩⟩, drawn_snoc HQ.out _⟩
  have q0 : (xp != yp) = false := by simpa using h0
  have r0 : (xp == yp) = true := by simpa using h0
  have H0 : Hid _ := h0
  clear h0
  by_cases h1 : xm = ym
  case neg =>
    have HNE : Hid (a ≠ b) := rows_no HXK.out HYK.out (fun e => h1 (by cases e; rfl))
    have q1 : (xm != ym) = true := by simpa using h1
    have r1 : (xm == ym) = false := by simpa using h1
    clear h1
    go_upto_region 6 with fail
    go_quiet (fail)
    go_wp2
    go_ret
    exact ⟨⟨false, rfl, ⟨fun h => (by cases h), fun h => (HNE.out h).elim⟩⟩, drawn_snoc HQ.out _⟩
  have q1 : (xm != ym) = false := by simpa using h1
  have r1 : (xm == ym) = true := by simpa using h1
  have H1 : Hid _ := h1
  clear h1
  by_cases h2 : xi = yi
  case neg =>
    have HNE : Hid (a ≠ b) := rows_no HXK.out HYK.out (fun e => h2 (by cases e; rfl))
    have q2 : (xi != yi) = true := by simpa using h2
    have r2 : (xi == yi) = false := by simpa using h2
    clear h2
    go_upto_region 6 with fail
    go_quiet (fail)
    go_wp2
    go_ret
    exact ⟨⟨false, rfl, ⟨fun h => (by cases h), fun h => (HNE.out h).elim⟩⟩, drawn_snoc HQ.out _⟩
  have q2 : (xi != yi) = false := by simpa using h2
  have r2 : (xi == yi) = true := by simpa using h2
  have HTX : Hid (a.take (k + 1) = b.take (k + 1)) := by
    unfold Hid
    rw [take_snocR HXK.out, take_snocR HYK.out, HT.out, H0.out, H1.out, h2]
  clear h2
  go_upto_region 6 with fail
  go_quiet (fail)
  have HXX := fun n => drawn_snoc HQ.out n
  clear x0 x1 x2 y0 y1 y2 HX HQ
  go_wp2_with fail
  go_roundw
  case rel => exact ⟨k + 1, by omega, by go_num, HTX, HXX _⟩
  case measure => simp [intOf]; omega

end Go.Proofs.YtalpfoomkhhgnaaGreatDoor

/-! marlaw17: what the chapter's examples fix, in plain Lean. Conditions: as each theorem states. -/
namespace Go.Proofs.YtalpfoomkhhgnaaGreatDoor
open Go Go.RowKit Go.Sort
set_option linter.unusedVariables false
set_option linter.unusedSimpArgs false
set_option linter.unusedSectionVars false

def x17 : List Rw := [⟨[102], 1, ia17⟩]
def y17 : List Rw := [⟨[102], 1, ib17⟩]
def s17 : List Rw := [⟨[102], 1, ib17⟩, ⟨102 :: 126 :: ia17.take 8, 1, ia17⟩]
theorem u17a : uniqT (pathsLs [x17, y17, []]) = [[102]] := (uniqT_of (List.pairwise_singleton _ [102]) (fun x => by simp [pathsLs, x17, y17])).symm
theorem u17b : uniqT (pathsLs [[], x17, y17]) = [[102]] := (uniqT_of (List.pairwise_singleton _ [102]) (fun x => by simp [pathsLs, x17, y17])).symm
theorem may17 : (mayTab x17 && (mayTab y17 && mayTab [])) = true := by decide +kernel
theorem may17b : (mayTab [] && (mayTab x17 && mayTab y17)) = true := by decide +kernel
theorem all17a : allE (byP x17) (byP y17) (byP []) [[102]] = some ([([102], fiE (1, ib17))], [([102], 2)]) := by kernel_rfl
theorem all17b : allE (byP []) (byP x17) (byP y17) [[102]] = some ([([102], fiE (1, ib17)), (102 :: 126 :: ia17.take 8, fiE (1, ia17))], [([102], 1)]) := by kernel_rfl
theorem m17a : mergeE x17 y17 [] = .ok (y17, [([102], 2)]) := mergeE_some (y := ([([102], fiE (1, ib17))], [([102], 2)])) may17 (by rw [u17a]; exact all17a)
theorem m17b : mergeE [] x17 y17 = .ok (s17, [([102], 1)]) := mergeE_some (y := ([([102], fiE (1, ib17)), (102 :: 126 :: ia17.take 8, fiE (1, ia17))], [([102], 1)])) may17b (by rw [u17b]; exact all17b)
theorem pick_txt {o a b : En} (h : (pickE o a b).2 = 3) : txtE o = true ∧ txtE a = true ∧ txtE b = true := by
  unfold pickE at h
  repeat' split at h
  all_goals first | (cases h; done) | skip
  rename_i h3
  simpa using h3
theorem noText_l {a b : List Rw} : NoText [] a b := fun p h => by
  have := (pick_txt h).1
  cases this
theorem noText_r {o a : List Rw} : NoText o a [] := fun p h => by
  have := (pick_txt h).2.2
  cases this
theorem fit17x : Fit3 x17 := by unfold Fit3; decide +kernel
theorem fit17y : Fit3 y17 := by unfold Fit3; decide +kernel
theorem fit17n : Fit3 [] := ⟨Nat.zero_le _, fun r hr => by cases hr⟩
theorem len17 : ia17.length = 64 := sha_len _
theorem copy17 (A : B8) : (⟨#[102, 126]⟩ : ByteArray) ++ (⟨A.toArray⟩ : ByteArray).extract 0 8 = ⟨(102 :: 126 :: A.take 8).toArray⟩ := by
  have hd : ∀ a b : ByteArray, a.data = b.data → a = b := fun a b h => by cases a; cases b; cases h; rfl
  apply hd
  rw [ByteArray.data_append, ByteArray.data_extract]
  apply Array.toList_inj.1
  simp
theorem ok_two {w : World} {v : Value} {x y : Rw} (h : IsRws w v [x, y]) : ∃ (b o c : Nat), v = .slice (some ⟨b, o, none⟩) 2 c ∧ 2 ≤ c ∧ w.cell? ⟨b, o + 1 + 1, none⟩ = some (S8 x.id) ∧ w.cell? ⟨b, o + 3, none⟩ = some (S8 y.path) ∧ w.cell? ⟨b, o + 3 + 1 + 1, none⟩ = some (S8 y.id) := by
  obtain ⟨a, c, rfl, h1, -, -, hg⟩ := h.cells
  obtain ⟨b, o, rfl, -, -, c0⟩ := hg 0 x rfl
  obtain ⟨b', o', he, c1, -, c2⟩ := hg 1 y rfl
  cases he
  exact ⟨b, o, c, rfl, h1, by simpa using c0, by simpa using c1, by simpa using c2⟩
theorem row_one {w : World} {p id : B8} {m : Int} : IsRws (w.alloc (.cells #[S8 p, .int .i64 m, S8 id] 30)) (.slice (some ⟨w.heap.size, 0, none⟩) 1 1) [⟨p, m, id⟩] := Row.new (alloc_at _ _) (by decide) _ rfl
theorem ok_of {w : World} {e : Ending} {l : List Rw} {n : B8 × Int} (h : MergeR w e (.ok (l, [n]))) : ∃ (ra : Option Addr) (rc nb no nc : Nat) (ab : Option Addr) (cb : Nat), e = .returned (.tuple #[.slice ra l.length rc, .slice ab 0 cb, .slice (some ⟨nb, no, none⟩) 1 nc, .int .i64 0]) ∧ IsRws w (.slice ra l.length rc) l ∧ w.cell? ⟨nb, no + 1, none⟩ = some (.int .i64 n.2) := by
  obtain ⟨vr, vn, ab, cb, N, rfl, hr, hp, hn⟩ := h
  obtain rfl : N = [n] := List.perm_singleton.1 hp
  obtain ⟨ra, rc, rfl, -⟩ := hr.get
  obtain ⟨na, nc, rfl, -, -, -, h4⟩ := hn
  obtain ⟨nb, no, rfl, hc⟩ := h4 (by simp [ntC])
  exact ⟨ra, rc, nb, no, nc, ab, cb, rfl, hr, hc 1 _ rfl⟩

set_option maxRecDepth 100000 in
set_option maxHeartbeats 8000000 in
theorem first17_any (w : World) (hE : Env w) :
    Calls Tryz.prog 12 #[] w fun e w' => e = .returned (.bool true) ∧ Ext w w' := by
  have HE : Hid (Env w) := hE
  have HMA : Hid _ := m17a
  have HMB : Hid _ := m17b
  have HFX : Hid (Fit3 x17) := fit17x
  have HFY : Hid (Fit3 y17) := fit17y
  unfold s17 at HMB
  have HX17 : Hid (x17 = [⟨[102], 1, ia17⟩]) := rfl
  have HY17 : Hid (y17 = [⟨[102], 1, ib17⟩]) := rfl
  obtain ⟨X, hX⟩ : ∃ X, x17 = X := ⟨_, rfl⟩
  obtain ⟨Y, hY⟩ : ∃ Y, y17 = Y := ⟨_, rfl⟩
  have hlen := len17
  have HID : Hid (∀ w, Calls Tryz.prog 27 #[] w fun e w' => e = .returned (.tuple #[S8 ia17, S8 ib17]) ∧ Ext w w') := ids17_any
  obtain ⟨A, hA⟩ : ∃ A, ia17 = A := ⟨_, rfl⟩
  obtain ⟨B, hB⟩ : ∃ B, ib17 = B := ⟨_, rfl⟩
  rw [hX, hY] at HMA HMB
  rw [hX] at HFX HX17
  rw [hY] at HFY HY17
  rw [hA] at hlen HID HX17 HMB
  rw [hB] at HID HY17 HMB
  have HAL : Hid (A.length = 64) := hlen
  clear hE hX hY hA hB hlen
  go_enter Tryz.func12, Tryz.ntmps12
  go_wp2_with fail
  go_at_call 27
  refine (HID.out _).mono ?_
  rintro e w1 ⟨rfl, hx1⟩
  have HX1 : Hid (Ext w w1) := hx1
  clear hx1
  go_upto_region 4 with fail
  obtain ⟨w2, hw2⟩ : ∃ w2, w2 = w1.alloc (.cells #[S8 [102], .int .i64 1, S8 A] 30) := ⟨_, rfl⟩
  have hx2 : Ext w1 w2 := by rw [hw2]; exact (Ext.refl _).alloc _
  have hr2 : IsRws w2 (.slice (some ⟨w1.heap.size, 0, none⟩) 1 1) X := by rw [HX17.out, hw2]; exact row_one
  obtain ⟨w3, hw3⟩ : ∃ w3, w3 = w2.alloc (.cells #[S8 [102], .int .i64 1, S8 B] 30) := ⟨_, rfl⟩
  have hx3 : Ext w2 w3 := by rw [hw3]; exact (Ext.refl _).alloc _
  have hr3 : IsRws w3 (.slice (some ⟨w1.heap.size + 1, 0, none⟩) 1 1) Y := by rw [HY17.out, hw3, ← size_alloc1 w1 (.cells #[S8 [102], .int .i64 1, S8 A] 30), ← hw2]; exact row_one
  rw [← hw2, ← hw3]
  obtain ⟨gx, hgx⟩ : ∃ g, w1.heap.size = g := ⟨_, rfl⟩
  obtain ⟨gy, hgy⟩ : ∃ g, gx + 1 = g := ⟨_, rfl⟩
  rw [hgx] at hr2 hr3 ⊢
  rw [hgy] at hr3 ⊢
  have HR3 : Hid (IsRws w3 (.slice (some ⟨gx, 0, none⟩) 1 1) X) := hr2.ext hx3
  have HS3 : Hid (IsRws w3 (.slice (some ⟨gy, 0, none⟩) 1 1) Y) := hr3
  have HX3 : Hid (Ext w w3) := HX1.out.trans (hx2.trans hx3)
  clear hw2 hw3 hx2 hx3 hr2 hr3 hgx hgy
  go_wp2_with fail
  go_at_call 28
  refine (blobs17_any _).mono ?_
  rintro e w4 ⟨⟨vb, rfl, hb⟩, hx4⟩
  have HVB : Hid (IsBss w4 vb [ta17, tb17]) := hb
  have HX34 : Hid (Ext w3 w4) := hx4
  clear hb hx4
  go_wp2_with fail
  go_at_call 15
  refine (source_any vb _ false w4 HVB.out (by decide) (by decide)).mono ?_
  rintro e w5 ⟨⟨F, rfl, hF⟩, hx5⟩
  obtain ⟨b1, b2, b3, sv, svi, rfl, -⟩ := hF.get
  have HX35 : Hid (Ext w3 w5) := HX34.out.trans hx5
  have HX5 : Hid (Ext w w5) := HX3.out.trans HX35.out
  clear hF hx5
  go_wp2_with fail
  go_at_call 14
  refine (merge3_any _ _ _ _ _ _ X Y [] w5 (HE.out.ext HX5.out) (HR3.out.ext HX35.out) (HS3.out.ext HX35.out) (IsRws.nil _) HFX.out HFY.out fit17n noText_r).mono ?_
  rw [HMA.out]
  rintro e w6 ⟨hm6, hx6⟩
  obtain ⟨ra, rc, nb, no, nc, ab, cb, rfl, hr6, hn6⟩ := ok_of hm6
  have HR6 : Hid (IsRws w6 (.slice ra Y.length rc) Y) := hr6
  have HN6 : Hid (w6.cell? ⟨nb, no + 1, none⟩ = some (.int .i64 2)) := hn6
  have HX36 : Hid (Ext w3 w6) := HX35.out.trans hx6
  have HX6 : Hid (Ext w w6) := HX3.out.trans HX36.out
  clear hm6 hx6 hr6 hn6
  go_wp2_with fail
  go_at_call 14
  refine (merge3_any _ _ _ _ _ _ [] X Y w6 (HE.out.ext HX6.out) (IsRws.nil _) (HR3.out.ext HX36.out) (HS3.out.ext HX36.out) fit17n HFX.out HFY.out noText_l).mono ?_
  rw [HMB.out]
  obtain ⟨P, hP⟩ : ∃ P, 102 :: 126 :: A.take 8 = P := ⟨_, rfl⟩
  rw [hP]
  have HP : Hid _ := hP
  rintro e w7 ⟨hm7, hx7⟩
  obtain ⟨sa, sc, mb, mo, mc, ab2, cb2, rfl, hs7, hn7⟩ := ok_of hm7
  obtain ⟨sb, so, sc2, he, hsc, d0, d1, d2⟩ := ok_two hs7
  cases he
  have HD0 : Hid (w7.cell? ⟨sb, so + 1 + 1, none⟩ = some (S8 B)) := d0
  have HD1 : Hid (w7.cell? ⟨sb, so + 3, none⟩ = some (S8 P)) := d1
  have HD2 : Hid (w7.cell? ⟨sb, so + 3 + 1 + 1, none⟩ = some (S8 A)) := d2
  have HN7 : Hid (w7.cell? ⟨mb, mo + 1, none⟩ = some (.int .i64 1)) := hn7
  have HN67 : Hid (w7.cell? ⟨nb, no + 1, none⟩ = some (.int .i64 2)) := hx7.cell HN6.out
  have HX37 : Hid (Ext w3 w7) := HX36.out.trans hx7
  have HR7 : Hid (IsRws w7 (.slice ra Y.length rc) Y) := HR6.out.ext hx7
  have HX7 : Hid (Ext w w7) := HX3.out.trans HX37.out
  clear hm7 hx7 hs7 hn7 d0 d1 d2 hP
  have HS7 : Hid (IsRws w7 (.slice (some ⟨gy, 0, none⟩) 1 1) Y) := HS3.out.ext HX37.out
  have HRQ : Hid (∀ n, Calls Tryz.prog 29 #[.slice ra Y.length rc, .slice (some ⟨gy, 0, none⟩) 1 1] (w7.drewN n) fun e w' => e = .returned (.bool true) ∧ ∃ m, w' = (w7.drewN n).drewN m) := fun n => (rrowsQ_any _ _ Y Y _ (HR7.out.ext (Ext.drawn _ _)) (HS7.out.ext (Ext.drawn _ _))).mono (by rintro e w ⟨⟨c, rfl, hc⟩, hm⟩; obtain rfl : c = true := hc.2 rfl; exact ⟨rfl, hm⟩)
  have y0 := HD0.out
  have y1 := HD1.out
  have y2 := HD2.out
  have y3 := HN7.out
  have y4 := HN67.out
  have H64 : Hid ((A.length : Int) = 64) := by have := HAL.out; unfold Hid; omega
  have hcq := copy17 A
  rw [HP.out] at hcq
  have HCP : Hid _ := hcq
  clear hcq
  go_upto_region 7 with fail
  have h64 := H64.out
  have h65 := HAL.out
  have hcp := HCP.out
  go_quiet ((go_at_call 29; exact Calls.quiet_of (HRQ.out _)))
  have HX9 := fun n => HX7.out.trans (Ext.drawn w7 n)
  clear y0 y1 y2 y3 y4
  go_wp2_with fail
  go_ret
  exact ⟨rfl, HX9 _⟩
end Go.Proofs.YtalpfoomkhhgnaaGreatDoor
