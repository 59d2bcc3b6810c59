/- A scan: how much a file system has done behind it. Conditions: as each theorem states. -/
import Derived.Test.YtalpfoomkhhgnaaGreatDoorZae
import Derived.Defers
import Derived.Laws.Pointers
import Derived.Laws.LoneSync
import Derived.RegionCalls
import Derived.ChangeAlike
import Derived.Laws.NewBlocks
import Derived.Test.YtalpfoomkhhgnaaGreatDoorZac
import Derived.Test.YtalpfoomkhhgnaaGreatDoorZab
import Derived.Lib.SlBytesConst
import Derived.Test.YtalpfoomkhhgnaaGreatDoorZaa
import Derived.Test.YtalpfoomkhhgnaaGreatDoorZad
import Derived.Deep.Upon

set_option linter.unusedVariables false
set_option linter.unusedSimpArgs false
set_option linter.unusedSectionVars false

/-! sha.Hasher.Copy. Conditions: at most 10000000 bytes. -/
namespace Go.Proofs.YtalpfoomkhhgnaaGreatDoor
open Go Go.RowKit
set_option linter.unusedVariables false
set_option linter.unusedSimpArgs false
set_option linter.unusedSectionVars false

set_option maxRecDepth 100000 in
set_option maxHeartbeats 1000000 in
theorem copy_sha (hb cb : Nat) (st : List UInt32) (rv : Value) (r : B8) (n : Nat) (w : World) (hst : st.length = 8)
    (hg : w.heap[hb]? = some (.cells (hCells cb st rv n) 164 (0, 0))) (hr : IsBytes w rv r) (hrl : r.length ≤ 10000000) :
    Calls Tryz.prog 110 #[.pointer (some ⟨hb, 0, none⟩)] w fun e w' => (∃ (g : Nat) (rv' : Value), e = .returned (.pointer (some ⟨g, 0, none⟩)) ∧ w.heap.size ≤ g ∧ w'.heap[g]? = some (.cells (hCells cb st rv' n) 164 (0, 0)) ∧ IsBytes w' rv' r ∧ TypB w' rv') ∧ Ext w w' := by
  obtain ⟨i0, i1, i2, i3, i4, i5, i6, i7, rfl⟩ := list8 hst
  obtain ⟨a, cap, rfl, h1, h2, h3, -⟩ := hr.get
  have HG : Hid _ := hg
  have HR : Hid (IsBytes w (.slice a r.length cap) r) := hr
  have d0 : w.cell? ⟨hb, 0, none⟩ = some (.pointer (some ⟨cb, 0, none⟩)) := (cell_of_row _ _ 0 _ _ _ hg).trans rfl
  have c1 : w.cell? ⟨hb, 1, none⟩ = some (U32 i0) := (cell_of_row _ _ 1 _ _ _ hg).trans rfl
  have c2 : w.cell? ⟨hb, 2, none⟩ = some (U32 i1) := (cell_of_row _ _ 2 _ _ _ hg).trans rfl
  have c3 : w.cell? ⟨hb, 3, none⟩ = some (U32 i2) := (cell_of_row _ _ 3 _ _ _ hg).trans rfl
  have c4 : w.cell? ⟨hb, 4, none⟩ = some (U32 i3) := (cell_of_row _ _ 4 _ _ _ hg).trans rfl
  have c5 : w.cell? ⟨hb, 5, none⟩ = some (U32 i4) := (cell_of_row _ _ 5 _ _ _ hg).trans rfl
  have c6 : w.cell? ⟨hb, 6, none⟩ = some (U32 i5) := (cell_of_row _ _ 6 _ _ _ hg).trans rfl
  have c7 : w.cell? ⟨hb, 7, none⟩ = some (U32 i6) := (cell_of_row _ _ 7 _ _ _ hg).trans rfl
  have c8 : w.cell? ⟨hb, 8, none⟩ = some (U32 i7) := (cell_of_row _ _ 8 _ _ _ hg).trans rfl
  have d2 : w.cell? ⟨hb, 9, none⟩ = some (.slice a r.length cap) := (cell_of_row _ _ 9 _ _ _ hg).trans rfl
  have d3 : w.cell? ⟨hb, 10, none⟩ = some (.int .i64 (n : Int)) := (cell_of_row _ _ 10 _ _ _ hg).trans rfl
  clear hr hg hst
  go_enter Tryz.func110, Tryz.ntmps110
  go_wp2_with fail
  apply wp_region_mix 17 [_, _, _, _, _, _, _, .agg #[U32 i0, U32 i1, U32 i2, U32 i3, U32 i4, U32 i5, U32 i6, U32 i7], _, _, _, _, undef, _, _, _, _] [none, none, none, none, none, none, none, none, none, none, none, none, some (fun u w' => w'.ownsRow w.heap.size 5 1 u r.length (r.map fun x => .int .u8 x.toNat)), none, none, none, none] [[], [0], [1], [2], [], [4], [5], [6], [], [8], [9], [10], [11], [], [13], [14], [15]] (by kernel_rfl) (by kernel_rfl) (by simp [mixV])
  · refine ⟨?_, trivial⟩
    · exact fun _ _ _ he h => owns_ext h he
  · simp (maxSteps := 1000000) only [List.take_succ_cons, List.take_zero, oblFrom, stepObl, fillFrom, Act.put, List.setIfInBounds_toArray, List.set_cons_zero, List.set_cons_succ, knows, getV, mixV, List.getD_cons_zero, List.getD_cons_succ, and_true, true_and, forall_const]
    refine ⟨?_, ?_, ?_, ?_, ?_, ?_, ?_, ?_, ?_, ?_, ?_, ?_, ?_, ?_, ?_, ?_, ?_⟩
    · intro xs wq hq R hR
      have f0 := hq.cell d0; have f2 := hq.cell d2; have f3 := hq.cell d3
      go_simp
      exact hR _ _ (Ext.refl _) rfl
    · intro xs wq hq hk R hR
      have f0 := hq.cell d0; have f2 := hq.cell d2; have f3 := hq.cell d3
      go_simp
      exact hR _ _ (Ext.refl _) rfl
    · intro xs wq hq hk R hR
      have f0 := hq.cell d0; have f2 := hq.cell d2; have f3 := hq.cell d3
      go_simp
      exact hR _ _ (Ext.refl _) rfl
    · intro xs wq hq hk R hR
      have f0 := hq.cell d0; have f2 := hq.cell d2; have f3 := hq.cell d3
      go_simp
      exact hR _ _ (Ext.refl _) rfl
    · intro xs wq hq R hR
      have f0 := hq.cell d0; have f2 := hq.cell d2; have f3 := hq.cell d3
      go_simp
      exact hR _ _ (Ext.refl _) rfl
    · intro xs wq hq hk R hR
      have f0 := hq.cell d0; have f2 := hq.cell d2; have f3 := hq.cell d3
      go_simp
      exact hR _ _ (Ext.refl _) rfl
    · intro xs wq hq hk R hR
      have f0 := hq.cell d0; have f2 := hq.cell d2; have f3 := hq.cell d3
      go_simp
      exact hR _ _ (Ext.refl _) rfl
    · intro xs wq hq hk R hR
      have f1 := hq.cell c1
      have f2 := hq.cell c2
      have f3 := hq.cell c3
      have f4 := hq.cell c4
      have f5 := hq.cell c5
      have f6 := hq.cell c6
      have f7 := hq.cell c7
      have f8 := hq.cell c8
      go_simp
      exact hR _ _ (Ext.refl _) rfl
    · intro xs wq hq R hR
      have f0 := hq.cell d0; have f2 := hq.cell d2; have f3 := hq.cell d3
      go_simp
      exact hR _ _ (Ext.refl _) rfl
    · intro xs wq hq hk R hR
      have f0 := hq.cell d0; have f2 := hq.cell d2; have f3 := hq.cell d3
      go_simp
      exact hR _ _ (Ext.refl _) rfl
    · intro xs wq hq hk R hR
      have f0 := hq.cell d0; have f2 := hq.cell d2; have f3 := hq.cell d3
      go_simp
      exact hR _ _ (Ext.refl _) rfl
    · intro xs wq hq hk R hR
      have f0 := hq.cell d0; have f2 := hq.cell d2; have f3 := hq.cell d3
      go_simp
      exact hR _ _ (Ext.refl _) rfl
    · intro xs wq hq hk R hR
      go_simp
      exact (clone_own _ r _ (HR.out.ext hq) (by omega)).mono (by rintro e' w4 ⟨⟨v2, rfl, h1⟩, h3⟩; exact ⟨_, rfl, hR _ _ h3 (owns_low h1 hq.size)⟩)
    · intro xs wq hq R hR
      have f0 := hq.cell d0; have f2 := hq.cell d2; have f3 := hq.cell d3
      go_simp
      exact hR _ _ (Ext.refl _) rfl
    · intro xs wq hq hk R hR
      have f0 := hq.cell d0; have f2 := hq.cell d2; have f3 := hq.cell d3
      go_simp
      exact hR _ _ (Ext.refl _) rfl
    · intro xs wq hq hk R hR
      have f0 := hq.cell d0; have f2 := hq.cell d2; have f3 := hq.cell d3
      go_simp
      exact hR _ _ (Ext.refl _) rfl
    · intro xs wq hq hk R hR
      have f0 := hq.cell d0; have f2 := hq.cell d2; have f3 := hq.cell d3
      go_simp
      exact hR _ _ (Ext.refl _) rfl
  intro xs w2 hx2 hk
  simp only [heldV, Nat.zero_add, Nat.reduceAdd, and_true] at hk
  have q0 := hk.1
  replace hk := hk.2
  have q1 := hk.1
  replace hk := hk.2
  have q2 := hk.1
  replace hk := hk.2
  have q3 := hk.1
  replace hk := hk.2
  have q4 := hk.1
  replace hk := hk.2
  have q5 := hk.1
  replace hk := hk.2
  have q6 := hk.1
  replace hk := hk.2
  have q7 := hk.1
  replace hk := hk.2
  have q8 := hk.1
  replace hk := hk.2
  have q9 := hk.1
  replace hk := hk.2
  have q10 := hk.1
  replace hk := hk.2
  have q11 := hk.1
  replace hk := hk.2
  have q12 := hk.1
  replace hk := hk.2
  have q13 := hk.1
  replace hk := hk.2
  have q14 := hk.1
  replace hk := hk.2
  have q15 := hk.1
  replace hk := hk.2
  have q16 := hk
  clear hk
  simp (maxSteps := 1000000) only [List.take_succ_cons, List.take_zero, List.drop_succ_cons, List.drop_zero, fillFrom, Act.put, List.setIfInBounds_toArray, List.set_cons_zero, List.set_cons_succ, Nat.zero_add, Nat.reduceAdd, q0, q1, q2, q3, q4, q5, q6, q7, q8, q9, q10, q11, q13, q14, q15, q16]
  clear q0 q1 q2 q3 q4 q5 q6 q7 q8 q9 q10 q11 q13 q14 q15 q16
  generalize xs 12 = x12 at *
  obtain ⟨va, vc, rfl, -⟩ := Row.of_owns q12 (by omega)
  have Q12 : Hid (w2.ownsRow w.heap.size 5 1 (.slice va r.length vc) r.length (r.map fun x => .int .u8 x.toNat)) := q12
  clear q12 d0 d2 d3 c1 c2 c3 c4 c5 c6 c7 c8
  go_wp2_with fail
  obtain ⟨w3, hw3⟩ : ∃ w3, w3 = w2.alloc (.cells (hCells cb [i0, i1, i2, i3, i4, i5, i6, i7] (.slice va r.length vc) n) 164) := ⟨_, rfl⟩
  have hx3 : Ext w2 w3 := by rw [hw3]; exact (Ext.refl _).alloc _
  have hg3 : w3.heap[w2.heap.size]? = some (.cells (hCells cb [i0, i1, i2, i3, i4, i5, i6, i7] (.slice va r.length vc) n) 164 (0, 0)) := by rw [hw3]; exact alloc_at _ _
  have hown := owns_ext Q12.out hx3
  go_ret
  refine ⟨⟨w2.heap.size, .slice va r.length vc, rfl, hx2.size, ?_, ?_, ?_⟩, ?_⟩
  · exact hw3 ▸ hg3
  · exact hw3 ▸ Row.of_owns hown (by omega)
  · exact hw3 ▸ TypB.of_owns hown
  · exact hw3 ▸ hx2.trans hx3

end Go.Proofs.YtalpfoomkhhgnaaGreatDoor

/-! sha.Hasher.Sum. Conditions: at most 10000000 bytes. -/
namespace Go.Proofs.YtalpfoomkhhgnaaGreatDoor
open Go Go.RowKit
set_option linter.unusedVariables false
set_option linter.unusedSimpArgs false
set_option linter.unusedSectionVars false

def slLen : Value → Nat
  | .slice _ n _ => n
  | _ => 0
theorem padZ_lt (n : Nat) : padZ n < 64 := by unfold padZ; omega
theorem padZ_at {n k : Nat} (hk : k ≤ padZ n) : (n + (1 + k)) % 64 = 56 ↔ k = padZ n := by
  unfold padZ at hk ⊢
  omega

/-- Sum's piece, so far. -/
def padL (n k : Nat) : B8 := 128 :: List.replicate (padZ n) 0 ++ (be8 (8 * n)).take k
theorem padL_full (n : Nat) : padL n 8 = padM n := rfl
theorem padL_snoc (n : Nat) {k : Nat} (h : k < 8) : padL n (k + 1) = padL n k ++ [UInt8.ofNat (8 * n / 2 ^ (56 - 8 * k))] := by
  unfold padL
  rw [List.append_assoc]
  congr 1
  rcases (by omega : k = 0 ∨ k = 1 ∨ k = 2 ∨ k = 3 ∨ k = 4 ∨ k = 5 ∨ k = 6 ∨ k = 7) with rfl | rfl | rfl | rfl | rfl | rfl | rfl | rfl <;> rfl
theorem padL_len (n : Nat) {k : Nat} (h : k ≤ 8) : (padL n k).length = 1 + padZ n + k := by
  unfold padL
  rw [List.length_append, List.length_cons, List.length_replicate, List.length_take, show (be8 (8 * n)).length = 8 from rfl]
  omega

theorem byte_shr (x : UInt32) (k : Nat) (hk : k < 32) : (x.toNat : Int) / (2 ^ k : Int) % 256 = ((UInt8.ofNat (x >>> UInt32.ofNat k).toNat).toNat : Int) := by
  rw [shr32 x k hk]
  generalize (x >>> UInt32.ofNat k).toNat = m
  rw [UInt8.toNat_ofNat']
  exact (Int.natCast_emod m 256).symm

set_option maxRecDepth 100000 in
set_option maxHeartbeats 2000000 in
theorem sumH_any (hb cb : Nat) (st : List UInt32) (rv : Value) (r : B8) (n : Nat) (o : List Value) (w : World) (hst : st.length = 8) (ho : o.length = 3) (hn : n ≤ 10000000)
    (hg : w.heap[hb]? = some (.cells (hCells cb st rv n) 164 (0, 0))) (hc : w.heap[cb]? = some (.cells (kCells o) 161 (0, 0))) (hr : IsBytes w rv r) (hrl : r.length ≤ 10000000) :
    Calls Tryz.prog 72 #[.pointer (some ⟨hb, 0, none⟩)] w fun e w' => (∃ v, e = .returned v ∧ w'.ownsRow w.heap.size 5 1 v 32 (((absorb st (r ++ padM n)).1.flatMap outM).map fun x => .int .u8 x.toNat)) ∧ Ext w w' := by
  have HC : Hid _ := hc
  have HR : Hid (IsBytes w rv r) := hr
  have HST : Hid _ := hst
  have HO : Hid _ := ho
  have HG : Hid _ := hg
  have hcb := (Array.getElem?_eq_some_iff.1 hc).1
  have c10 : w.cell? ⟨hb, 10, none⟩ = some (.int .i64 (n : Int)) := (cell_of_row _ _ 10 _ _ _ hg).trans (hCells_9 hst).2
  clear hc hr hst ho hg
  go_enter Tryz.func72, Tryz.ntmps72
  go_upto_region 2 with (go_at_call 110; go_must (refine (copy_sha hb cb st rv r n w HST.out HG.out HR.out hrl).mono ?_; rintro e w1 ⟨⟨g, rv1, rfl, hgs, hg1, hr1, ht1⟩, hx1⟩))
  have HG1 : Hid _ := hg1
  have HR1 : Hid (IsBytes w1 rv1 r) := hr1
  have HT1 : Hid (TypB w1 rv1) := ht1
  have HX1 : Hid (Ext w w1) := hx1
  have d10 := hx1.cell c10
  have hs1 := hx1.size
  clear hg1 hr1 ht1 hx1 c10
  go_wp2_with fail
  have hwa : Ext w1 (w1.alloc (.cells #[.int .u8 128] 5)) := (Ext.refl _).alloc _
  have howna : (w1.alloc (.cells #[.int .u8 128] 5)).ownsRow w1.heap.size 5 1 (.slice (some ⟨w1.heap.size, 0, none⟩) 1 1) (1 + 0) ((128 :: List.replicate 0 0 : B8).map fun x => .int .u8 x.toNat) := ⟨rfl, .inr ⟨w1.heap.size, 1, #[.int .u8 128], rfl, Nat.le_refl _, alloc_at _ _, Nat.le_refl _, by unfold maxLen; omega, rfl, rfl⟩⟩
  have hpz := padZ_lt n
  have HWA : Hid _ := hwa
  have HOWNA : Hid ((w1.alloc (.cells #[.int .u8 128] 5)).ownsRow w1.heap.size 5 1 (.slice (some ⟨w1.heap.size, 0, none⟩) 1 1) (1 + 0) ((128 :: List.replicate 0 0 : B8).map fun x => .int .u8 x.toNat)) := howna
  clear hwa howna
  go_loopw [5] (fun pv wr => ∃ k : Nat, k ≤ padZ n ∧ wr.ownsRow w1.heap.size 5 1 pv (1 + k) ((128 :: List.replicate k 0 : B8).map fun x => .int .u8 x.toNat) ∧ Ext w1 wr) (fun pv _ => 65 - slLen pv)
  case atStart => exact ⟨0, Nat.zero_le _, HOWNA.out, HWA.out⟩
  case round =>
    obtain ⟨k, hk, hown, hx⟩ := hrel
    have HOWN : Hid (wr.ownsRow w1.heap.size 5 1 u5 (1 + k) ((128 :: List.replicate k 0 : B8).map fun x => .int .u8 x.toNat)) := hown
    obtain ⟨pa, pc, rfl, -⟩ := Row.of_owns hown (by omega)
    have HX : Hid (Ext w1 wr) := hx
    have hsz := hx.size
    have e10 := hx.cell d10
    clear hown hx
    have hat := padZ_at hk
    by_cases hkk : k = padZ n
    · have hm : (((n : Int) + (1 + k : Nat)) % 64 != 56) = false := by simp; omega
      clear hat
      go_wp2_with fail
      have HKK : Hid _ := hkk
      clear hkk hm
      generalize (((n : Int) + (1 + (padZ n : Int))) % 64 != 56) = z27
      generalize ((n : Int) + (1 + (padZ n : Int))) % 64 = z26
      generalize (n : Int) + (1 + (padZ n : Int)) = z25
      generalize (1 + (padZ n : Int)) = z24
      go_loopw [5, 31] (fun pv i wr => ∃ k : Nat, k ≤ 8 ∧ i = .int .i64 k ∧ wr.ownsRow w1.heap.size 5 1 pv (1 + padZ n + k) ((padL n k).map fun x => .int .u8 x.toNat) ∧ Ext w1 wr) (fun _ i _ => 8 - (intOf i).toNat)
      case atStart => exact ⟨0, by omega, rfl, by unfold padL; rw [List.take_zero, List.append_nil, ← HKK.out]; exact HOWN.out, HX.out⟩
      case round =>
        obtain ⟨q, hq, rfl, hown, hx⟩ := hrel
        have HOWQ : Hid (wr.ownsRow w1.heap.size 5 1 u5 (1 + padZ n + q) ((padL n q).map fun x => .int .u8 x.toNat)) := hown
        obtain ⟨pa, pc, rfl, -⟩ := Row.of_owns hown (by omega)
        have HXQ : Hid (Ext w1 wr) := hx
        have hsz := hx.size
        clear hown hx
        by_cases hlt : q < 8
        · have hval : ((n : Int) * 8 / 2 ^ (56 - 8 * q) % 256) = ((UInt8.ofNat (8 * n / 2 ^ (56 - 8 * q))).toNat : Int) := by
            rw [UInt8.toNat_ofNat', Nat.mul_comm 8 n]
            push_cast
            rfl
          have HVAL : Hid _ := hval
          have HPL : Hid _ := padL_snoc n hlt
          generalize hz : UInt8.ofNat (8 * n / 2 ^ (56 - 8 * q)) = z at hval
          have HZ : Hid _ := hz
          have HV2 : Hid _ := hval
          clear hval hz
          go_wp2_with (at_builtin; go_must (refine app_u8 rfl _ _ rfl w1.heap.size _ (1 + padZ n + q) (padL n q) rfl (HOWQ.out.alloc _) wr.heap.size 1 1 [z] rfl rfl (fr := (0, 0)) (by show _ = some (Obj.cells #[Value.int .u8 (z.toNat : Int)] _ _); rw [← HV2.out]; exact alloc_at _ _) (by omega) (by simp; omega) ?_; intro v' w3 hown3 hg3))
          go_roundw
          case rel => exact ⟨q + 1, by omega, by go_num, by rw [HPL.out, HZ.out]; exact hown3, owns_ext_app (HXQ.out.alloc _) (HOWQ.out.alloc _) hg3⟩
          case measure => simp [intOf]; omega
        · have hq8 : q = 8 := by omega
          subst hq8
          have hwr := hsz
          have HG9 : Hid (wr.heap[g]? = some (.cells (hCells cb st rv1 n) 164 (0, 0))) := Ext.row HXQ.out HG1.out
          have HC9 : Hid (wr.heap[cb]? = some (.cells (kCells o) 161 (0, 0))) := Ext.row HXQ.out (Ext.row HX1.out HC.out)
          have HV9 : Hid (IsBytes wr (.slice pa (1 + padZ n + 8) pc) (padM n)) := by
            have h9 := Row.of_owns HOWQ.out (by omega)
            unfold Hid IsBytes
            rw [← padL_full, padL_len n (Nat.le_refl 8)]
            exact h9
          have HT9 : Hid (TypB wr (.slice pa (1 + padZ n + 8) pc)) := TypB.of_owns HOWQ.out
          have hpl : (padM n).length = 1 + padZ n + 8 := padL_len n (Nat.le_refl 8)
          go_upto_region 12 with (go_at_call 71; go_must (refine (write_sha g cb st rv1 _ r (padM n) n o wr HST.out HO.out (by omega) (by omega) HG9.out HC9.out (HR1.out.ext HXQ.out) (TypB.keep HT1.out (KeepB.of_ext HXQ.out)) HV9.out (fun a n c he _ => .inr (HT9.out a n c he)) (by omega) (by omega)).mono ?_; rintro e w5 ⟨rfl, st5, rv5, r5, hw5, hab⟩))
          have hres : (absorb st (r ++ padM n)).1 = st5 := by rw [← hab]
          have HRES : Hid _ := hres
          have hx5 : Ext w w5 := Ext.of_fr (HX1.out.trans HXQ.out) hw5.fr (fun k hk => by cases hk; exact hgs)
          obtain ⟨i0, i1, i2, i3, i4, i5, i6, i7, rfl⟩ := list8 hw5.hst
          have hc5 := hw5.cells
          have c1 : w5.cell? ⟨g, 1, none⟩ = some (U32 i0) := (cell_of_row _ _ 1 _ _ _ hc5).trans rfl
          have c2 : w5.cell? ⟨g, 2, none⟩ = some (U32 i1) := (cell_of_row _ _ 2 _ _ _ hc5).trans rfl
          have c3 : w5.cell? ⟨g, 3, none⟩ = some (U32 i2) := (cell_of_row _ _ 3 _ _ _ hc5).trans rfl
          have c4 : w5.cell? ⟨g, 4, none⟩ = some (U32 i3) := (cell_of_row _ _ 4 _ _ _ hc5).trans rfl
          have c5 : w5.cell? ⟨g, 5, none⟩ = some (U32 i4) := (cell_of_row _ _ 5 _ _ _ hc5).trans rfl
          have c6 : w5.cell? ⟨g, 6, none⟩ = some (U32 i5) := (cell_of_row _ _ 6 _ _ _ hc5).trans rfl
          have c7 : w5.cell? ⟨g, 7, none⟩ = some (U32 i6) := (cell_of_row _ _ 7 _ _ _ hc5).trans rfl
          have c8 : w5.cell? ⟨g, 8, none⟩ = some (U32 i7) := (cell_of_row _ _ 8 _ _ _ hc5).trans rfl
          have HX5 : Hid (Ext w w5) := hx5
          have hs5 := hx5.size
          clear hab hres hw5 hc5 hx5
          go_wp2_with fail
          generalize hF : (#[U32 i0, U32 i1, U32 i2, U32 i3, U32 i4, U32 i5, U32 i6, U32 i7] : Array Value) = F
          generalize hL : [i0, i1, i2, i3, i4, i5, i6, i7] = L at HRES
          have hll : L.length = 8 := by subst hL; rfl
          have hFG : ∀ j, j < 8 → F[j]? = some (U32 (L.getD j 0)) := by
            intro j hj
            subst hF hL
            rcases (by omega : j = 0 ∨ j = 1 ∨ j = 2 ∨ j = 3 ∨ j = 4 ∨ j = 5 ∨ j = 6 ∨ j = 7) with rfl | rfl | rfl | rfl | rfl | rfl | rfl | rfl <;> rfl
          have HFG : Hid _ := hFG
          have HLL : Hid _ := hll
          clear hF hL hFG hll c1 c2 c3 c4 c5 c6 c7 c8
          go_loopw [7, 51] (fun ov i wr => ∃ k : Nat, k ≤ 8 ∧ i = .int .i64 k ∧ wr.ownsRow w.heap.size 5 1 ov (4 * k) (((L.take k).flatMap outM).map fun x => .int .u8 x.toNat) ∧ Ext w wr) (fun _ i _ => 8 - (intOf i).toNat)
          case atStart => exact ⟨0, by omega, rfl, World.ownsRow_nil _ _ _ _, HX5.out⟩
          case round =>
            obtain ⟨j, hj, rfl, hown, hx⟩ := hrel
            have HOWJ : Hid (wr.ownsRow w.heap.size 5 1 u7 (4 * j) (((L.take j).flatMap outM).map fun x => .int .u8 x.toNat)) := hown
            obtain ⟨ja, jc, rfl, -⟩ := Row.of_owns hown (by omega)
            have HXJ : Hid (Ext w wr) := hx
            have hszj := hx.size
            clear hown hx
            by_cases hlt : j < 8
            · have hix := index_words wr (HFG.out j hlt) hlt
              generalize hxx : L.getD j 0 = x at hix
              have HXX : Hid _ := hxx
              obtain ⟨b1, hb1⟩ : ∃ b, UInt8.ofNat (x >>> 24).toNat = b := ⟨_, rfl⟩
              obtain ⟨b2, hb2⟩ : ∃ b, UInt8.ofNat (x >>> 16).toNat = b := ⟨_, rfl⟩
              obtain ⟨b3, hb3⟩ : ∃ b, UInt8.ofNat (x >>> 8).toNat = b := ⟨_, rfl⟩
              obtain ⟨b4, hb4⟩ : ∃ b, UInt8.ofNat x.toNat = b := ⟨_, rfl⟩
              have f1 : (x.toNat : Int) / 16777216 % 256 = (b1.toNat : Int) := by rw [← hb1]; exact byte_shr x 24 (by decide)
              have f2 : (x.toNat : Int) / 65536 % 256 = (b2.toNat : Int) := by rw [← hb2]; exact byte_shr x 16 (by decide)
              have f3 : (x.toNat : Int) / 256 % 256 = (b3.toNat : Int) := by rw [← hb3]; exact byte_shr x 8 (by decide)
              have f4 : (x.toNat : Int) % 256 = (b4.toNat : Int) := by rw [← hb4, UInt8.toNat_ofNat']; exact (Int.natCast_emod _ 256).symm
              have HOUT : Hid (outM x = [b1, b2, b3, b4]) := by unfold Hid outM; rw [hb1, hb2, hb3, hb4]
              clear hb1 hb2 hb3 hb4 hxx
              have hfl : ((L.take j).flatMap outM).length = 4 * j := by
                have h9 := HOWJ.out.1
                simpa using h9
              have HFL : Hid _ := hfl
              clear hfl
              go_wp2_with (at_builtin; go_must (refine app_u8 rfl _ _ rfl w.heap.size _ (4 * j) ((L.take j).flatMap outM) rfl (HOWJ.out.alloc _) wr.heap.size 4 4 [b1, b2, b3, b4] rfl rfl (fr := (0, 0)) (alloc_at _ _) (by omega) (by simp; omega) ?_; intro v' w6 hown6 hg6))
              go_roundw
              case rel =>
                refine ⟨j + 1, by omega, by go_num, ?_, owns_ext_app (HXJ.out.alloc _) (HOWJ.out.alloc _) hg6⟩
                have h9 : (L.take (j + 1)).flatMap outM = (L.take j).flatMap outM ++ [b1, b2, b3, b4] := by
                  rw [List.take_add_one, List.flatMap_append, List.getElem?_eq_getElem (by rw [HLL.out]; exact hlt)]
                  congr 1
                  have h8 : L[j]'(by rw [HLL.out]; exact hlt) = x := by
                    rw [← HXX.out, List.getD_eq_getElem?_getD, List.getElem?_eq_getElem (by rw [HLL.out]; exact hlt)]
                    rfl
                  rw [h8]
                  simpa using HOUT.out
                rw [h9]
                exact hown6
              case measure => simp [intOf]; omega
            · have hj8 : j = 8 := by omega
              subst hj8
              go_wp2_with fail
              go_ret
              have h9 := HOWJ.out
              rw [List.take_of_length_le (by rw [HLL.out]; omega), ← HRES.out] at h9
              exact ⟨⟨_, rfl, h9⟩, HXJ.out⟩
    · have hm : (((n : Int) + (1 + k : Nat)) % 64 != 56) = true := by simp; omega
      clear hat
      go_wp2_with (at_builtin; go_must (refine app_u8 rfl _ _ rfl w1.heap.size _ (1 + k) (128 :: List.replicate k 0) rfl (HOWN.out.alloc _) wr.heap.size 1 1 [0] rfl rfl (alloc_at _ _) (by omega) (by simp; omega) ?_; intro v' w3 hown3 hg3))
      go_roundw
      case rel => exact ⟨k + 1, by omega, by have h9 : (128 :: List.replicate k 0 ++ [0] : B8) = 128 :: List.replicate (k + 1) 0 := (by rw [List.replicate_succ', List.cons_append]); rw [h9] at hown3; exact hown3, owns_ext_app (HX.out.alloc _) (HOWN.out.alloc _) hg3⟩
      case measure =>
        obtain ⟨pa3, pc3, rfl, -⟩ := Row.of_owns hown3 (by omega)
        simp [slLen]; omega

end Go.Proofs.YtalpfoomkhhgnaaGreatDoor

/-! sync.Once in a block of its own; sha.New. Conditions: one goroutine. -/
namespace Go.Proofs.YtalpfoomkhhgnaaGreatDoor
open Go Go.RowKit
set_option linter.unusedVariables false
set_option linter.unusedSimpArgs false
set_option linter.unusedSectionVars false

theorem disable_any (w : World) : (callFunc 227 #[]).run Tryz.prog w = .ok (.value (.tuple #[])) w := run_call_mark0 Tryz.func227 (by kernel_rfl) (by kernel_rfl) (by kernel_rfl) .disable (by kernel_rfl) w
theorem enable_any (w : World) : (callFunc 229 #[]).run Tryz.prog w = .ok (.value (.tuple #[])) w := run_call_mark0 Tryz.func229 (by kernel_rfl) (by kernel_rfl) (by kernel_rfl) .enable (by kernel_rfl) w
theorem acquire_any (a : Addr) (w : World) : (callFunc 230 #[.pointer (some a)]).run Tryz.prog w = .ok (.value (.tuple #[])) w := run_call_marked Tryz.func230 (by kernel_rfl) (by kernel_rfl) (by kernel_rfl) .acquire (by kernel_rfl) a w
theorem release_any (a : Addr) (w : World) : (callFunc 232 #[.pointer (some a)]).run Tryz.prog w = .ok (.value (.tuple #[])) w := run_call_marked Tryz.func232 (by kernel_rfl) (by kernel_rfl) (by kernel_rfl) .releaseMerge (by kernel_rfl) a w

theorem storeB_deferred (a : Addr) (x : Value) (u : FrameMode) (w : World) (hc : w.cell? a = some x) (hz : w.frozen? a = false) :
    CallsD Tryz.prog 196 #[.pointer (some a), .bool true] u w fun e u' w' => u' = u ∧ (e = .returned (.tuple #[]) ∧ w' = w.drew.setCell a (.int .u32 1)) := by
  have hc' : w.drew.cell? a = some x := by go_simp
  have hz' : w.drew.frozen? a = false := by go_simp
  have hst := run_call_store (P := Tryz.prog) Tryz.func217 (by kernel_rfl) (by kernel_rfl) (by kernel_rfl) (by kernel_rfl) (k := .u32) (y := 1) hc' hz'
  go_enter_d Tryz.func196, Tryz.ntmps196
  go_wp2
  go_region_calls
  all_goals (go_end0; exact ⟨rfl, rfl⟩)

set_option maxRecDepth 100000 in
set_option maxHeartbeats 1000000 in
theorem unlock_deferred (a : Addr) (u : FrameMode) (w : World) (hc : w.cell? a = some (.int .i32 1)) (hz : w.frozen? a = false) :
    CallsD Tryz.prog 195 #[.pointer (some a)] u w fun e u' w' => u' = u ∧ (e = .returned (.tuple #[]) ∧ w' = w.setCell a (.int .i32 0)) := by
  have hd := disable_any
  have he := enable_any
  have hr := release_any
  have hadd := run_call_add (P := Tryz.prog) Tryz.func233 (by kernel_rfl) (by kernel_rfl) (by kernel_rfl) .i32 (by kernel_rfl) (y := -1) (s := 0) hc hz (by simp [go_sem]; rfl)
  have hcv := run_convert_to_unsafe (P := Tryz.prog) (src := 276) (dst := 212) Tryz.underlying276 Tryz.underlying212 (by kernel_rfl) hc
  go_enter_d Tryz.func195, Tryz.ntmps195
  go_wp2
  go_end0
  go_wp2
  go_end0
  exact ⟨rfl, rfl⟩

set_option maxRecDepth 100000 in
set_option maxHeartbeats 1000000 in
theorem lock_free (a : Addr) (w : World) (hc : w.cell? a = some (.int .i32 0)) (hz : w.frozen? a = false) :
    Calls Tryz.prog 194 #[.pointer (some a)] w fun e w' => e = .returned (.tuple #[]) ∧ w' = w.setCell a (.int .i32 1) := by
  have hd := disable_any
  have he := enable_any
  have ha := acquire_any
  have hcas := run_call_cas_hit (P := Tryz.prog) Tryz.func228 (by kernel_rfl) (by kernel_rfl) (by kernel_rfl) .i32 (by kernel_rfl) (y := 1) hc hz
  have hc' : (w.setCell a (.int .i32 1)).cell? a = some (.int .i32 1) := World.cell?_setCell_same w a _ hc
  have hcv := run_convert_to_unsafe (P := Tryz.prog) (src := 276) (dst := 212) Tryz.underlying276 Tryz.underlying212 (by kernel_rfl) hc'
  go_enter Tryz.func194, Tryz.ntmps194
  go_wp2
  first | go_end0 | (simp only [Exit.inBlock, Exit.then]; refine bodyPost_ret (results_none rfl _ _ _) rfl ?_) | refine bodyPost_ret (results_none rfl _ _ _) rfl ?_
  go_wp2
  go_end0
  exact ⟨rfl, rfl⟩

/-- The roots of the primes stand where the program laid them. -/
structure EnvS (w : World) : Prop where
  sq : ∃ fr, w.heap[0]? = some (.cells (shaH.map U32).toArray 146 fr)
  cu : ∃ fr, w.heap[1]? = some (.cells (shaK.map U32).toArray 159 fr)
theorem EnvS.fr {O : Nat → Prop} {w w' : World} (h : EnvS w) (hf : Fr O w w') (ho : ∀ k, O k → 2 ≤ k) : EnvS w' := by
  obtain ⟨f0, h0⟩ := h.sq
  obtain ⟨f1, h1⟩ := h.cu
  exact ⟨⟨f0, hf.row h0 (fun hh => by have := ho _ hh; revert this; decide)⟩, ⟨f1, hf.row h1 (fun hh => by have := ho _ hh; revert this; decide)⟩⟩
theorem EnvS.ext {w w' : World} (h : EnvS w) (hx : Ext w w') : EnvS w' := h.fr (O := fun _ => False) (Fr.of_ext hx) (fun _ hh => hh.elim)
theorem EnvS.two {w : World} (h : EnvS w) : 2 ≤ w.heap.size := by
  obtain ⟨f1, h1⟩ := h.cu
  obtain ⟨f0, h0⟩ := h.sq
  have g1 := (Array.getElem?_eq_some_iff.1 h1).1
  have g0 := (Array.getElem?_eq_some_iff.1 h0).1
  omega
/-- A Once's own cells; a constants' block that is not yet filled, or is. -/
def oCells (d m s : Int) : List Value := [.int .u32 d, .int .i32 m, .int .u32 s]
def eCells (o X : List Value) : Array Value := (o ++ X).toArray

set_option maxRecDepth 100000 in
set_option maxHeartbeats 2000000 in
theorem fill_any (b : Nat) (o X : List Value) (w : World) (ho : o.length = 3) (hX : X.length = 72) (hE : EnvS w) (hb : 2 ≤ b) (hg : w.heap[b]? = some (.cells (eCells o X) 161 (0, 0))) :
    Calls Tryz.prog 107 #[.pointer (some ⟨b, 0, none⟩)] w fun e w' => e = .returned (.tuple #[]) ∧ w'.heap[b]? = some (.cells (kCells o) 161 (0, 0)) ∧ Fr (fun k => k = b) w w' := by
  obtain ⟨f0, h0⟩ := hE.sq
  obtain ⟨f1, h1⟩ := hE.cu
  have hs8 : (shaH.map U32).toArray.size = 8 := by simp; rfl
  have hs64 : (shaK.map U32).toArray.size = 64 := by simp; rfl
  have hone8 : ∀ v ∈ (shaH.map U32).toArray.toList, v.oneCell' = true := by intro v hv; simp only [List.toList_toArray, List.mem_map] at hv; obtain ⟨x, -, rfl⟩ := hv; rfl
  have hone64 : ∀ v ∈ (shaK.map U32).toArray.toList, v.oneCell' = true := by intro v hv; simp only [List.toList_toArray, List.mem_map] at hv; obtain ⟨x, -, rfl⟩ := hv; rfl
  generalize hV8 : (shaH.map U32).toArray = V8 at h0 hs8 hone8
  generalize hV64 : (shaK.map U32).toArray = V64 at h1 hs64 hone64
  have hsz : (eCells o X).size = 75 := by unfold eCells; simp [ho, hX]
  have hsz2 : (eCells o (V8.toList ++ X.drop 8)).size = 75 := by unfold eCells; simp [ho, hX, hs8]
  have hl8 : V8.toList.length = 8 := by rw [Array.length_toList]; exact hs8
  have hl64 : V64.toList.length = 64 := by rw [Array.length_toList]; exact hs64
  have hn1 : eCells o (V8.toList ++ X.drop 8) = ((eCells o X).toList.take 3 ++ V8.toList ++ (eCells o X).toList.drop (3 + V8.size)).toArray := by
    unfold eCells
    simp only [List.toList_toArray]
    have hd : (o ++ X).drop (3 + V8.size) = X.drop 8 := by
      have hdo : o.drop (3 + 8) = [] := List.drop_eq_nil_of_le (by omega)
      rw [hs8, List.drop_append, hdo, List.nil_append, ho]
    rw [List.take_left' ho, hd, List.append_assoc]
  have hn2 : kCells o = ((eCells o (V8.toList ++ X.drop 8)).toList.take 11 ++ V64.toList ++ (eCells o (V8.toList ++ X.drop 8)).toList.drop (11 + V64.size)).toArray := by
    have hk : kCells o = (o ++ (V8.toList ++ V64.toList)).toArray := by rw [← hV8, ← hV64]; rfl
    rw [hk]
    unfold eCells
    simp only [List.toList_toArray]
    have hd : (o ++ (V8.toList ++ X.drop 8)).drop (11 + V64.size) = [] := List.drop_eq_nil_of_le (by rw [List.length_append, List.length_append, List.length_drop]; omega)
    have ht : (o ++ (V8.toList ++ X.drop 8)).take 11 = o ++ V8.toList := by rw [← List.append_assoc]; exact List.take_left' (by rw [List.length_append]; omega)
    rw [hd, ht, List.append_nil, List.append_assoc]
  have HN1 : Hid _ := hn1
  have HN2 : Hid _ := hn2
  clear hn1 hn2 hV8 hV64 hE
  go_enter Tryz.func107, Tryz.ntmps107
  go_wp2_with (first
    | (refine wpList_load_row rfl 146 _ rfl 0 rfl 146 V8 f0 _ h0 Tryz.underlying146 rfl (by rw [hs8]; exact size_a8) ?_)
    | (refine wpList_load_row rfl 159 _ rfl 1 rfl 159 V64 f1 _ h1 Tryz.underlying159 rfl (by rw [hs64]; exact size_a64) ?_)
    | (refine store_all rfl 146 _ _ rfl b 3 rfl V8 rfl hone8 _ (eCells o X) hg (by omega) (by rw [hs8]; exact size_a8) _ HN1.out ?_; intro w2 hg2 hgr2)
    | (refine store_all rfl 159 _ _ rfl b 11 rfl V64 rfl hone64 _ (eCells o (V8.toList ++ X.drop 8)) hg2 (by omega) (by rw [hs64]; exact size_a64) _ HN2.out ?_; intro w3 hg3 hgr3))
  go_end0
  have hu : ∀ {w9 : World} {cs : Array Value}, w9.heap[b]? = some (.cells cs 161 (0, 0)) → ¬ IsU8 w9 b := fun h => cells_u8 h (by kernel_rfl)
  exact ⟨rfl, hg3, ((Fr.refl _ w).step hgr2 (fun j hj => by cases hj; exact .inl rfl) (by rintro j hj; cases hj; exact hu hg)).step hgr3 (fun j hj => by cases hj; exact .inl rfl) (by rintro j hj; cases hj; exact hu hg2)⟩

/-- A Once's cells in a constants' block. -/
theorem e_cell {w : World} {b j : Nat} {o X : List Value} {v : Value} (hg : w.heap[b]? = some (.cells (eCells o X) 161 (0, 0))) (hj : (o ++ X)[j]? = some v) : w.cell? ⟨b, j, none⟩ = some v :=
  (cell_of_row _ _ j _ _ _ hg).trans (by unfold eCells; simpa using hj)
theorem e_frz {w : World} {b j : Nat} {cs : Array Value} (hg : w.heap[b]? = some (.cells cs 161 (0, 0))) : w.frozen? ⟨b, j, none⟩ = false := by simp [World.frozen?, hg]
theorem e_put0 {w : World} {b : Nat} {d m s x : Int} {X : List Value} (hg : w.heap[b]? = some (.cells (eCells (oCells d m s) X) 161 (0, 0))) : (w.setCell ⟨b, 0, none⟩ (.int .u32 x)).heap[b]? = some (.cells (eCells (oCells x m s) X) 161 (0, 0)) := by
  rw [heap_setCell_same w b 0 _ _ _ hg]; simp [eCells, oCells]
theorem e_put1 {w : World} {b : Nat} {d m s x : Int} {X : List Value} (hg : w.heap[b]? = some (.cells (eCells (oCells d m s) X) 161 (0, 0))) : (w.setCell ⟨b, 1, none⟩ (.int .i32 x)).heap[b]? = some (.cells (eCells (oCells d x s) X) 161 (0, 0)) := by
  rw [heap_setCell_same w b 1 _ _ _ hg]; simp [eCells, oCells]
theorem e_fr {w : World} {b j : Nat} {v : Value} {cs : Array Value} (hg : w.heap[b]? = some (.cells cs 161 (0, 0))) {O : Nat → Prop} {w0 : World} (h : Fr O w0 w) (hb : O b) : Fr O w0 (w.setCell ⟨b, j, none⟩ v) :=
  h.step (setCell_grown w b j v) (fun k hk => by cases hk; exact .inl hb) (by rintro k hk; cases hk; exact cells_u8 hg (by kernel_rfl))

set_option maxRecDepth 100000 in
theorem loadB_any (a : Addr) (x : Int) (y : Bool) (w : World) (h0 : w.cell? a = some (.int .u32 x)) (hx : (x != 0) = y) :
    Calls Tryz.prog 161 #[.pointer (some a)] w fun e w' => e = .returned (.bool y) ∧ w' = w := by
  have hl := run_call_load (P := Tryz.prog) Tryz.func193 (by kernel_rfl) (by kernel_rfl) (by kernel_rfl) .u32 (by kernel_rfl) h0
  go_enter Tryz.func161, Tryz.ntmps161
  go_wp2
  go_ret
  exact ⟨by first | rfl | rw [hx], rfl⟩

set_option maxRecDepth 100000 in
set_option maxHeartbeats 2000000 in
theorem slow_fill (b : Nat) (s : Int) (X : List Value) (w : World) (hX : X.length = 72) (hE : EnvS w) (hb : 2 ≤ b) (hg : w.heap[b]? = some (.cells (eCells (oCells 0 0 s) X) 161 (0, 0))) :
    Calls Tryz.prog 162 #[.pointer (some ⟨b, 0, none⟩), .func (.func 107) #[.pointer (some ⟨b, 0, none⟩)] #[]] w fun e w' => e = .returned (.tuple #[]) ∧ w'.heap[b]? = some (.cells (kCells (oCells 1 0 s)) 161 (0, 0)) ∧ Fr (fun k => k = b) w w' := by
  have hg1 := e_put1 (x := 1) hg
  have hf1 : Fr (fun k => k = b) w (w.setCell ⟨b, 1, none⟩ (.int .i32 1)) := e_fr hg (Fr.refl _ w) rfl
  have hE1 : EnvS (w.setCell ⟨b, 1, none⟩ (.int .i32 1)) := hE.fr hf1 (fun k hk => by subst hk; exact hb)
  have hnot : ∀ (x : Bool) (w : World), (Op.unary .not (.bool x)).run Tryz.prog w = .ok (.bool (!x)) w := fun _ _ => rfl
  have HG1 : Hid _ := hg1
  have HF1 : Hid _ := hf1
  have HG : Hid _ := hg
  have HE1 : Hid (EnvS (w.setCell ⟨b, 1, none⟩ (.int .i32 1))) := hE1
  clear hg1 hf1 hE hE1 hg
  go_enter_defers Tryz.func162, Tryz.ntmps162
  go_wp2_with (first | (go_at_call 194; go_must (refine (lock_free ⟨b, 1, none⟩ w (e_cell HG.out rfl) (e_frz HG.out)).mono ?_; rintro e w' ⟨rfl, rfl⟩)) | (go_at_call 161; go_must (refine (loadB_any ⟨b, 0, none⟩ 0 false _ (e_cell HG1.out rfl) rfl).mono ?_; rintro e w' ⟨rfl, rfl⟩)) | (go_at_call 107; go_must (refine (fill_any b (oCells 0 1 s) X _ rfl hX HE1.out hb HG1.out).mono ?_; rintro e w2 ⟨rfl, hg2, hf2⟩)))
  have hg2e : w2.heap[b]? = some (.cells (eCells (oCells 0 1 s) (shaH.map U32 ++ shaK.map U32)) 161 (0, 0)) := hg2
  have hg2d : w2.drew.heap[b]? = some (.cells (eCells (oCells 0 1 s) (shaH.map U32 ++ shaK.map U32)) 161 (0, 0)) := hg2
  have hg3 := e_put0 (x := 1) hg2d
  have hg4 := e_put1 (x := 0) hg3
  have hf4 : Fr (fun k => k = b) w (((w2.drew.setCell ⟨b, 0, none⟩ (.int .u32 1))).setCell ⟨b, 1, none⟩ (.int .i32 0)) := e_fr hg3 (e_fr hg2d ((HF1.out.trans (hf2.mono (fun k hk => .inl hk))).ext (Ext.refl _).drew) rfl) rfl
  refine leaves_cons (f := 196) (args := #[.pointer (some ⟨b, 0, none⟩), .bool true]) (by simp) (by simp [go_sem]) ?_
  refine (storeB_deferred ⟨b, 0, none⟩ (.int .u32 0) .returning w2 (e_cell hg2e rfl) (e_frz hg2e)).mono ?_
  rintro e u' w'' ⟨rfl, rfl, rfl⟩
  refine leaves_cons (f := 195) (args := #[.pointer (some ⟨b, 1, none⟩)]) (by simp [Go.settle]) (by simp [go_sem]) ?_
  refine (unlock_deferred ⟨b, 1, none⟩ _ _ (e_cell hg3 rfl) (e_frz hg3)).mono ?_
  rintro e u' w'' ⟨rfl, rfl, rfl⟩
  simp [Leaves, Go.settle, results, Tryz.results162]
  exact ⟨hg4, hf4⟩

set_option maxRecDepth 100000 in
set_option maxHeartbeats 2000000 in
theorem do_fill (b : Nat) (s : Int) (X : List Value) (w : World) (hX : X.length = 72) (hE : EnvS w) (hb : 2 ≤ b) (hg : w.heap[b]? = some (.cells (eCells (oCells 0 0 s) X) 161 (0, 0))) :
    Calls Tryz.prog 106 #[.pointer (some ⟨b, 0, none⟩), .func (.func 107) #[.pointer (some ⟨b, 0, none⟩)] #[]] w fun e w' => e = .returned (.tuple #[]) ∧ w'.heap[b]? = some (.cells (kCells (oCells 1 0 s)) 161 (0, 0)) ∧ Fr (fun k => k = b) w w' := by
  have hnot : ∀ (x : Bool) (w : World), (Op.unary .not (.bool x)).run Tryz.prog w = .ok (.bool (!x)) w := fun _ _ => rfl
  have HG : Hid _ := hg
  have HE : Hid (EnvS w) := hE
  clear hg hE
  go_enter Tryz.func106, Tryz.ntmps106
  go_wp2_with (first | (go_at_call 161; go_must (refine (loadB_any ⟨b, 0, none⟩ 0 false _ (e_cell HG.out rfl) rfl).mono ?_; rintro e w' ⟨rfl, rfl⟩)) | (go_at_call 162; go_must (refine (slow_fill b s X _ hX HE.out hb HG.out).mono ?_; rintro e w2 ⟨rfl, hg2, hf2⟩)))
  go_end0
  exact ⟨rfl, hg2, hf2⟩

end Go.Proofs.YtalpfoomkhhgnaaGreatDoor

/-! sha.New, Sum, ID. Conditions: at most 100000 bytes; the roots of the primes as laid. -/
namespace Go.Proofs.YtalpfoomkhhgnaaGreatDoor
open Go Go.RowKit
set_option linter.unusedVariables false
set_option linter.unusedSimpArgs false
set_option linter.unusedSectionVars false

theorem zero_c : Tryz.zeroCells161 = eCells (oCells 0 0 0) (List.replicate 72 (.int .u32 0)) := by first | rfl | kernel_rfl
def zX : List Value := List.replicate 72 (.int .u32 0)

set_option maxRecDepth 100000 in
set_option maxHeartbeats 2000000 in
theorem new_sha (w : World) (hE : EnvS w) : Calls Tryz.prog 70 #[] w fun e w' => (∃ hb cb : Nat, e = .returned (.pointer (some ⟨hb, 0, none⟩)) ∧ hb ≠ cb ∧ w.heap.size ≤ hb ∧ w.heap.size ≤ cb ∧ w'.heap[cb]? = some (.cells (kCells (oCells 1 0 0)) 161 (0, 0)) ∧ w'.heap[hb]? = some (.cells (hCells cb shaH (.slice none 0 0) (0 : Nat)) 164 (0, 0))) ∧ Ext w w' := by
  obtain ⟨w1, hw1⟩ : ∃ w1, w1 = w.alloc (.cells (eCells (oCells 0 0 0) zX) 161) := ⟨_, rfl⟩
  have hx1 : Ext w w1 := by rw [hw1]; exact (Ext.refl _).alloc _
  have hg1 : w1.heap[w.heap.size]? = some (.cells (eCells (oCells 0 0 0) zX) 161 (0, 0)) := by rw [hw1]; exact alloc_at _ _
  have hE1 : EnvS w1 := hE.ext hx1
  have h2 := hE.two
  have HG1 : Hid _ := hg1
  have HE1 : Hid (EnvS w1) := hE1
  have HX1 : Hid (Ext w w1) := hx1
  have HW1 : Hid _ := hw1
  clear hg1 hE1 hx1 hw1 hE
  have hmf : ∀ (fn : Fn) (first cap : Array Value) (w : World), (Instr.makeFunc fn first cap).run Tryz.prog w = .ok (.func fn first cap) w := fun _ _ _ _ => rfl
  go_enter Tryz.func70, Tryz.ntmps70
  go_upto_region 2 with fail
  rw [show w.alloc (.cells Tryz.zeroCells161 161) = w1 from (congrArg (fun c => w.alloc (.cells c 161)) zero_c).trans HW1.out.symm]
  generalize Tryz.zeroCells161 = zc
  go_upto_region 3 with (go_at_call 106; go_must (refine (do_fill w.heap.size 0 zX w1 rfl HE1.out h2 HG1.out).mono ?_; rintro e w2 ⟨rfl, hg2, hf2⟩))
  have hx2 : Ext w w2 := Ext.of_fr HX1.out hf2 (fun k hk => by cases hk; exact Nat.le_refl _)
  obtain ⟨i0, i1, i2, i3, i4, i5, i6, i7, hH⟩ := list8 (show shaH.length = 8 from rfl)
  have hk : kCells (oCells 1 0 0) = (oCells 1 0 0 ++ ([i0, i1, i2, i3, i4, i5, i6, i7].map U32 ++ shaK.map U32)).toArray := by unfold kCells; rw [hH]
  have hg2' := hg2
  rw [hk] at hg2'
  have c1 : w2.cell? ⟨w.heap.size, 3, none⟩ = some (U32 i0) := (cell_of_row _ _ 3 _ _ _ hg2').trans rfl
  have c2 : w2.cell? ⟨w.heap.size, 4, none⟩ = some (U32 i1) := (cell_of_row _ _ 4 _ _ _ hg2').trans rfl
  have c3 : w2.cell? ⟨w.heap.size, 5, none⟩ = some (U32 i2) := (cell_of_row _ _ 5 _ _ _ hg2').trans rfl
  have c4 : w2.cell? ⟨w.heap.size, 6, none⟩ = some (U32 i3) := (cell_of_row _ _ 6 _ _ _ hg2').trans rfl
  have c5 : w2.cell? ⟨w.heap.size, 7, none⟩ = some (U32 i4) := (cell_of_row _ _ 7 _ _ _ hg2').trans rfl
  have c6 : w2.cell? ⟨w.heap.size, 8, none⟩ = some (U32 i5) := (cell_of_row _ _ 8 _ _ _ hg2').trans rfl
  have c7 : w2.cell? ⟨w.heap.size, 9, none⟩ = some (U32 i6) := (cell_of_row _ _ 9 _ _ _ hg2').trans rfl
  have c8 : w2.cell? ⟨w.heap.size, 10, none⟩ = some (U32 i7) := (cell_of_row _ _ 10 _ _ _ hg2').trans rfl
  have hlt2 := (Array.getElem?_eq_some_iff.1 hg2).1
  obtain ⟨w3, hw3⟩ : ∃ w3, w3 = w2.alloc (.cells (hCells w.heap.size [i0, i1, i2, i3, i4, i5, i6, i7] (.slice none 0 0) (0 : Nat)) 164) := ⟨_, rfl⟩
  have hx3 : Ext w2 w3 := by rw [hw3]; exact (Ext.refl _).alloc _
  have hg3 : w3.heap[w2.heap.size]? = some (.cells (hCells w.heap.size [i0, i1, i2, i3, i4, i5, i6, i7] (.slice none 0 0) (0 : Nat)) 164 (0, 0)) := by rw [hw3]; exact alloc_at _ _
  have HX2 : Hid (Ext w w2) := hx2
  have HX3 : Hid (Ext w2 w3) := hx3
  have HG3 : Hid _ := hg3
  have HW3 : Hid _ := hw3
  have HG2 : Hid _ := hg2
  have HH : Hid _ := hH
  have hs2 := hx2.size
  clear hg2 hg2' hk hf2 hH hx2 hx3 hg3 hw3
  go_wp2_with fail
  go_ret
  rw [HH.out]
  have hfin : w2.alloc (.cells (hCells w.heap.size [i0, i1, i2, i3, i4, i5, i6, i7] (.slice none 0 0) (0 : Nat)) 164) = w3 := HW3.out.symm
  refine ⟨⟨w2.heap.size, w.heap.size, rfl, by omega, hs2, Nat.le_refl _, ?_, ?_⟩, ?_⟩
  · exact hfin ▸ Ext.row HX3.out HG2.out
  · exact hfin ▸ HG3.out
  · exact hfin ▸ HX2.out.trans HX3.out

theorem absorb_rest (h : List UInt32) (l : B8) : (absorb h l).2.length < 64 := by
  induction h, l using absorb.induct with
  | case1 h l hc ih => rw [absorb, if_pos hc]; exact ih
  | case2 h l hc => rw [absorb, if_neg hc]; show l.length < 64; omega

set_option maxRecDepth 100000 in
set_option maxHeartbeats 2000000 in
theorem sum_sha (v : Value) (l : B8) (w : World) (hE : EnvS w) (hv : IsBytes w v l) (hl : l.length ≤ 10000000) :
    Calls Tryz.prog 42 #[v] w fun e w' => (∃ v', e = .returned v' ∧ w'.ownsRow w.heap.size 5 1 v' 32 ((sumM l).map fun x => .int .u8 x.toNat)) ∧ Ext w w' := by
  have HE : Hid (EnvS w) := hE
  have HV : Hid (IsBytes w v l) := hv
  obtain ⟨a, cap, rfl, h1, h2, h3, h4⟩ := hv.get
  have hout : ∀ (k : Nat), w.heap.size ≤ k → ∀ w1, Out (fun j => j = k) w1 (.slice a l.length cap) := by
    intro k hk w1 a' n' c' he hn'
    simp only [Value.slice.injEq] at he
    obtain ⟨rfl, rfl, rfl⟩ := he
    obtain ⟨b, o, hb, hc⟩ := h4 0 (by omega)
    cases hb
    have hlt := World.block_lt_of_cell? _ _ (hc 0 (by omega))
    exact .inl (fun h => by dsimp only at h hlt; omega)
  have HOUT : Hid (∀ (k : Nat), w.heap.size ≤ k → ∀ w1, Out (fun j => j = k) w1 (.slice a l.length cap)) := hout
  clear h4 hout hv hE
  go_enter Tryz.func42, Tryz.ntmps42
  go_upto_region 2 with (go_at_call 70; go_must (refine (new_sha w HE.out).mono ?_; rintro e w1 ⟨⟨hb, cb, rfl, hne, hb1, hb2, hgc, hgh⟩, hx1⟩))
  have HGC : Hid _ := hgc
  have HGH : Hid _ := hgh
  have HX1 : Hid (Ext w w1) := hx1
  clear hgc hgh hx1
  go_upto_region 3 with (go_at_call 71; go_must (refine (write_sha hb cb shaH (.slice none 0 0) (.slice a l.length cap) [] l 0 (oCells 1 0 0) w1 rfl rfl hne (by omega) HGH.out HGC.out (IsBytes.nil _) (TypB.nil _ _ _) (HV.out.ext HX1.out) (HOUT.out hb hb1 w1) (by simp) hl).mono ?_; rintro e w2 ⟨rfl, st2, rv2, r2, hw2, hab⟩))
  rw [List.nil_append] at hw2 hab
  have hx2 : Ext w w2 := Ext.of_fr HX1.out hw2.fr (fun k hk => by cases hk; exact hb1)
  have hgc2 := hw2.fr.row HGC.out (fun h => hne h.symm)
  have hgh2 : w2.heap[hb]? = some (.cells (hCells cb st2 rv2 (l.length : Nat)) 164 (0, 0)) := by
    have h9 := hw2.cells
    rwa [show (((0 : Nat) : Int) + (l.length : Int)) = ((l.length : Nat) : Int) by omega] at h9
  have hr2 : r2.length < 64 := by
    have h9 := absorb_rest shaH l
    rw [← hab] at h9
    exact h9
  have hsum : sumM l = (absorb st2 (r2 ++ padM l.length)).1.flatMap outM := by unfold sumM; rw [← hab]
  have HX2 : Hid (Ext w w2) := hx2
  have HW2 : Hid (Wr w1 w2 hb cb (absorb shaH l) (((0 : Nat) : Int) + l.length) st2 rv2 r2) := hw2
  have HGC2 : Hid _ := hgc2
  have HGH2 : Hid _ := hgh2
  have HSUM : Hid _ := hsum
  have hs2 := hx2.size
  clear hx2 hgc2 hgh2 hsum hw2 hab
  go_wp2_with (go_at_call 72; go_must (refine (sumH_any hb cb st2 rv2 r2 l.length (oCells 1 0 0) w2 HW2.out.hst rfl hl HGH2.out HGC2.out HW2.out.bytes (by omega)).mono ?_; rintro e w3 ⟨⟨v3, rfl, hown3⟩, hx3⟩))
  go_ret
  rw [HSUM.out]
  exact ⟨⟨_, rfl, owns_low hown3 hs2⟩, HX2.out.trans hx3⟩

theorem sum32 (l : B8) {w : World} {base : Nat} {v : Value} (h : w.ownsRow base 5 1 v 32 ((sumM l).map fun x => .int .u8 x.toNat)) : (sumM l).length = 32 := by
  have h9 := h.1
  simpa using h9

set_option maxRecDepth 100000 in
set_option maxHeartbeats 2000000 in
theorem id_sha (v : Value) (l : B8) (w : World) (hE : EnvS w) (hv : IsBytes w v l) (hl : l.length ≤ 10000000) :
    Calls Tryz.prog 16 #[v] w fun e w' => e = .returned (S8 (shaM l)) ∧ Ext w w' := by
  have HE : Hid (EnvS w) := hE
  have HV : Hid (IsBytes w v l) := hv
  clear hv hE
  go_enter Tryz.func16, Tryz.ntmps16
  go_wp2_with (first
    | (go_at_call 42; go_must (refine (sum_sha v l w HE.out HV.out hl).mono ?_; rintro e w1 ⟨⟨v1, rfl, hown1⟩, hx1⟩; have h32 := sum32 l hown1; have hb1 : IsBytes w1 v1 (sumM l) := by unfold IsBytes; rw [h32]; exact Row.of_owns hown1 (by omega)))
    | (go_at_call 41; go_must (refine (hex_any v1 (sumM l) w1 hb1 (by omega)).mono ?_; rintro e w2 ⟨rfl, hx2⟩)))
  go_ret
  exact ⟨rfl, hx1.trans hx2⟩

end Go.Proofs.YtalpfoomkhhgnaaGreatDoor

/-! cell: NewLazy, ID, NewCounter, Add. Conditions: one goroutine; at most 10000000 bytes. -/
namespace Go.Proofs.YtalpfoomkhhgnaaGreatDoor
open Go Go.RowKit
set_option linter.unusedVariables false
set_option linter.unusedSimpArgs false
set_option linter.unusedSectionVars false

/-- A lazy hash's cells: its Once, the bytes, the hash, how often. -/
def lzCells (d m s : Int) (vb : Value) (id : B8) (n : Int) : Array Value := #[.int .u32 d, .int .i32 m, .int .u32 s, vb, S8 id, .int .i64 n]
/-! ### Counters -/
end Go.Proofs.YtalpfoomkhhgnaaGreatDoor

/-! A file system of the call's own. Conditions: as each theorem states. -/
namespace Go.Proofs.YtalpfoomkhhgnaaGreatDoor
open Go Go.RowKit
set_option linter.unusedVariables false
set_option linter.unusedSimpArgs false
set_option linter.unusedSectionVars false

section
variable {w0 w w' : World} {S O : Nat → Prop} {f : Value} {m m' : Fs} {n : Nat}
end
theorem one_byte {w : World} {g : Nat} {x : UInt8} {fr : Nat × Nat} (h : w.heap[g]? = some (.cells #[.int .u8 (x.toNat : Int)] 5 fr)) : IsBytes w (.slice (some ⟨g, 0, none⟩) 1 1) [x] := Row.new h (by decide) _ rfl
end Go.Proofs.YtalpfoomkhhgnaaGreatDoor

/-! How the document's file system lies in memory: rows, changes, events, all in slices; what an operation leaves as it was. No conditions of its own. -/
namespace Go.Proofs.YtalpfoomkhhgnaaGreatDoor
open Go Go.RowKit

/-! ### Rows and changes -/
def IsRowR (R : Nat → Prop) (w : World) (cs : List Value) (e : B8 × Fi) : Prop := e.1.length ≤ 10000000 ∧ ∃ v, cs = [S8 e.1, .int .i64 e.2.mode, v, .int .i64 e.2.time] ∧ IsData R w v e.2.data
theorem IsRowR.mono {R R' : Nat → Prop} {w : World} {cs : List Value} {e : B8 × Fi} (h : IsRowR R w cs e) (hr : ∀ k, R k → R' k) : IsRowR R' w cs e := by
  obtain ⟨h1, v, h2, h3⟩ := h
  exact ⟨h1, v, h2, h3.mono hr⟩
theorem IsRowR.keepR {R : Nat → Prop} {w w' : World} {cs : List Value} {e : B8 × Fi} (h : IsRowR R w cs e) (hk : KeepR R w w') : IsRowR R w' cs e := by
  obtain ⟨h1, v, h2, h3⟩ := h
  exact ⟨h1, v, h2, h3.keepR hk⟩
theorem IsRowR.length {R : Nat → Prop} {w : World} {cs : List Value} {e : B8 × Fi} (h : IsRowR R w cs e) : cs.length = 4 ∧ cs.all (·.oneCell') = true := by
  obtain ⟨_, v, rfl, h3⟩ := h
  obtain ⟨_, _, rfl, _⟩ := h3.bytes
  exact ⟨rfl, by simp [Value.oneCell']⟩
def IsOp (R : Nat → Prop) (w : World) (cs : List Value) : Ch → Prop
  | .put p f => p.length ≤ 10000000 ∧ ∃ v, cs = [.int .i64 1, S8 [], S8 p, .int .i64 f.mode, v, .int .i64 f.time] ∧ IsData R w v f.data
  | .mv s d => s.length ≤ 10000000 ∧ d.length ≤ 10000000 ∧ cs = [.int .i64 2, S8 s, S8 d, .int .i64 0, .slice none 0 0, .int .i64 0]
  | .del p => p.length ≤ 10000000 ∧ cs = [.int .i64 3, S8 p, S8 [], .int .i64 0, .slice none 0 0, .int .i64 0]
theorem IsOp.mono {R R' : Nat → Prop} {w : World} {cs : List Value} {c : Ch} (h : IsOp R w cs c) (hr : ∀ k, R k → R' k) : IsOp R' w cs c := by
  cases c with
  | put p f =>
    obtain ⟨h1, v, h2, h3⟩ := h
    exact ⟨h1, v, h2, h3.mono hr⟩
  | mv s d => exact h
  | del p => exact h
theorem IsOp.keepR {R : Nat → Prop} {w w' : World} {cs : List Value} {c : Ch} (h : IsOp R w cs c) (hk : KeepR R w w') : IsOp R w' cs c := by
  cases c with
  | put p f =>
    obtain ⟨h1, v, h2, h3⟩ := h
    exact ⟨h1, v, h2, h3.keepR hk⟩
  | mv s d => exact h
  | del p => exact h
theorem IsOp.length {R : Nat → Prop} {w : World} {cs : List Value} {c : Ch} (h : IsOp R w cs c) : cs.length = 6 ∧ cs.all (·.oneCell') = true := by
  cases c with
  | put p f =>
    obtain ⟨_, v, rfl, h3⟩ := h
    obtain ⟨_, _, rfl, _⟩ := h3.bytes
    exact ⟨rfl, by simp [Value.oneCell']⟩
  | mv s d => obtain ⟨_, _, rfl⟩ := h; exact ⟨rfl, by simp [Value.oneCell']⟩
  | del p => obtain ⟨_, rfl⟩ := h; exact ⟨rfl, by simp [Value.oneCell']⟩
theorem ReadL.lt {α : Type} {w : World} {t : TypeId} {p : List Value → α → Prop} {v : Value} {xs : List α} (h : ReadL w t p v xs) : ∀ k, v.ownBlock = some k → k < w.heap.size := fun k hv => by
  obtain ⟨cs, fr, hb⟩ := h.typed k hv
  exact (Array.getElem?_eq_some_iff.1 hb).1
theorem ReadL.nil {α : Type} (w : World) (t : TypeId) (p : List Value → α → Prop) : ReadL w t p (.slice none 0 0) [] := ⟨[], Row.nil _, Typed.nil _ _ _ _, Each.nil _⟩
theorem OwnL.nil {α : Type} (w : World) (t : TypeId) (size : Nat) (p : List Value → α → Prop) : OwnL w t size p (.slice none 0 0) [] := ⟨[], World.ownsRow_nil _ _ _ _, Each.nil _⟩

/-! ### A base world: what was there when the law's function was called -/
structure BaseW where
  w : World
def baseW [Inhabited BaseW] : World := (default : BaseW).w
variable [Inhabited BaseW]
/-- Bytes that were there. -/
structure OldB (v : Value) (l : B8) : Prop where
  bytes : IsBytes baseW v l
  low : ∀ a n c, v = .slice (some a) n c → n ≠ 0 → a.block < baseW.heap.size
def IsEvD (cs : List Value) (e : Ev) : Prop := ∃ vd, cs = [.int .i64 e.t, .int .i64 e.kind, .int .i64 e.mode, .int .i64 e.keep, .int .i64 e.torn, S8 e.path, vd] ∧ OldB vd e.data ∧ e.path.length ≤ 10000000
/-- .. as it comes in: its path may be of any length. -/
def IsEvI (cs : List Value) (e : Ev) : Prop := ∃ vd, cs = [.int .i64 e.t, .int .i64 e.kind, .int .i64 e.mode, .int .i64 e.keep, .int .i64 e.torn, S8 e.path, vd] ∧ OldB vd e.data
theorem IsEvI.length {cs : List Value} {e : Ev} (h : IsEvI cs e) : cs.length = 7 ∧ cs.all (·.oneCell') = true := by
  obtain ⟨v, rfl, h2⟩ := h
  obtain ⟨_, _, rfl, _⟩ := h2.bytes
  exact ⟨rfl, by simp [Value.oneCell']⟩
theorem IsEvI.up {cs : List Value} {e : Ev} (h : IsEvI cs e) (hp : e.path.length ≤ 400) : IsEvD cs e := by
  obtain ⟨v, h1, h2⟩ := h
  exact ⟨v, h1, h2, by omega⟩
theorem IsEvD.length {cs : List Value} {e : Ev} (h : IsEvD cs e) : cs.length = 7 ∧ cs.all (·.oneCell') = true := by
  obtain ⟨v, rfl, h2, _⟩ := h
  obtain ⟨_, _, rfl, _⟩ := h2.bytes
  exact ⟨rfl, by simp [Value.oneCell']⟩
theorem OldB.at {v : Value} {l : B8} {w : World} (h : OldB v l) (hx : Ext baseW w) : IsBytes w v l := h.bytes.ext hx
theorem OldB.out {v : Value} {l : B8} {w : World} {O : Nat → Prop} (h : OldB v l) (hO : ∀ k, O k → baseW.heap.size ≤ k) : Out O w v := fun a n c he hn => .inl fun ho => by have := h.low a n c he hn; have := hO _ ho; omega
theorem IsEvD.read {cs : List Value} {e : Ev} {w : World} (h : IsEvD cs e) (hx : Ext baseW w) : IsEvB w cs e := by
  obtain ⟨v, h1, h2, h3⟩ := h
  exact ⟨v, h1, h2.at hx, h3⟩

/-! ### The parts of the document's file system, but for its own block -/
abbrev refCells (room : Int) (vn vs vp vl : Value) (calls time : Nat) (down : Bool) (vu : Value) : Array Value := #[.int .i64 room, vn, vs, vp, vl, .int .i64 calls, .int .i64 time, .bool down, vu]
section
variable {O R : Nat → Prop} {w w' : World} {vn vs vp vl vu : Value} {now sure : Files} {pend : List Ch} {L users : List Ev}
end

/-! ### The whole -/
section
variable {O O' R R' : Nat → Prop} {w w' : World} {p : Value} {m : Fs}
end

section
variable {O R : Nat → Prop} {w wx w1 w' : World} {p : Value} {m m1 : Fs}
end

end Go.Proofs.YtalpfoomkhhgnaaGreatDoor

/-! What the document's lists of files are, in plain Lean: places, files put in their places, what may be. No conditions. -/
namespace Go.Proofs.YtalpfoomkhhgnaaGreatDoor
open Go Go.RowKit

/-- The place of a path. -/
def PlaceOf (l : Files) (p : B8) (i : Int) : Prop := (look l p = none ∧ i = -1) ∨ ∃ (k : Nat) (f : Fi), i = k ∧ l[k]? = some (p, f) ∧ look l p = some f
theorem ltB_asymm {a b : B8} (h : ltB a b = true) : ltB b a = false := by
  cases hb : ltB b a with
  | false => rfl
  | true => exact absurd rfl (ltB_ne (ltB_trans h hb))
def mayR (l : Files) (path : B8) : Bool := !(l.any fun e => isUnder path e.1 || isUnder e.1 path)
end Go.Proofs.YtalpfoomkhhgnaaGreatDoor

/-! marref5: find, used: what is read of a list of files. Conditions: at most 100000000 files; short paths. -/
namespace Go.Proofs.YtalpfoomkhhgnaaGreatDoor
open Go Go.RowKit

theorem Row.stayN {w w' : World} {v : Value} {n : Nat} {cs : List Value} (h : Row w v n cs) (hb : cs ≠ [] → ∀ k, v.ownBlock = some k → w'.heap[k]? = w.heap[k]?) : Row w' v n cs := by
  obtain ⟨a, cap, rfl, h1, h2, h3, h4⟩ := h
  refine ⟨a, cap, rfl, h1, h2, h3, fun hn => ?_⟩
  obtain ⟨b, o, rfl, hc⟩ := h4 hn
  refine ⟨b, o, rfl, fun i u hu => ?_⟩
  rw [World.cell?_of_block (w := w) (w' := w') (a := ⟨b, o + i, none⟩) (hb hn b rfl)]
  exact hc i u hu
/-- A slice of another's, that is read alone: its block's type is not told. -/
def ReadO {α : Type} (w : World) (p : List Value → α → Prop) (v : Value) (xs : List α) : Prop := ∃ css : List (List Value), Row w v xs.length css.flatten ∧ (xs ≠ [] → ∀ k, v.ownBlock = some k → k < w.heap.size) ∧ Each p css xs
theorem ReadO.mono {α : Type} {w : World} {p q : List Value → α → Prop} {v : Value} {xs : List α} (h : ReadO w p v xs) (hpq : ∀ c x, p c x → q c x) : ReadO w q v xs := by
  obtain ⟨css, h1, h2, h3⟩ := h
  exact ⟨css, h1, h2, h3.imp hpq⟩
theorem ReadO.lt {α : Type} {w : World} {p : List Value → α → Prop} {v : Value} {xs : List α} (h : ReadO w p v xs) (hn : xs ≠ []) : ∀ k, v.ownBlock = some k → k < w.heap.size := by
  obtain ⟨css, h1, h2, h3⟩ := h
  exact h2 hn
theorem ReadO.stay {α : Type} {w w' : World} {p : List Value → α → Prop} {v : Value} {xs : List α} (h : ReadO w p v xs) (hs : w.heap.size ≤ w'.heap.size) (hb : xs ≠ [] → ∀ k, v.ownBlock = some k → w'.heap[k]? = w.heap[k]?) : ReadO w' p v xs := by
  obtain ⟨css, h1, h2, h3⟩ := h
  refine ⟨css, h1.stayN (fun hn => hb fun hx => hn ?_), fun hn k hk => Nat.lt_of_lt_of_le (h2 hn k hk) hs, h3⟩
  have : css = [] := List.eq_nil_of_length_eq_zero (by rw [h3.1, hx]; rfl)
  rw [this]; rfl
end Go.Proofs.YtalpfoomkhhgnaaGreatDoor

/-! names.Under; a block of the call's own is written. Conditions: as each theorem states. -/
namespace Go.Proofs.YtalpfoomkhhgnaaGreatDoor
open Go Go.RowKit
set_option linter.unusedVariables false
set_option linter.unusedSimpArgs false
set_option linter.unusedSectionVars false

def underB (d s : B8) : Bool := pathB d && (pathB s && isUnder d s)
variable [Inhabited BaseW]
end Go.Proofs.YtalpfoomkhhgnaaGreatDoor

/-! A region that draws its order and whose operations write: what holds of the world is said of each set of those operations that have been done. Conditions: each operation of the head goes on from each such set. -/
namespace Go.Proofs.YtalpfoomkhhgnaaGreatDoor
open Go Go.RowKit

def getP (V : List (Value → Prop)) (k : Nat) : Value → Prop := V.getD k (fun _ => True)
/-- What the marked operations have handed back so far. -/
def zOf (K : List Bool) (listed : Array Bool) (xs : Nat → Value) : Nat → Option Value := fun j => if K.getD j false && listed.getD j false then some (xs j) else none
def zAll (K : List Bool) (xs : Nat → Value) : Nat → Option Value := fun j => if K.getD j false then some (xs j) else none
def zSet (z : Nat → Option Value) (k : Nat) (u : Value) : Nat → Option Value := fun j => if j = k then some u else z j
def knowsI (K : List Bool) (V : List (Value → Prop)) (z : Nat → Option Value) (xs : Nat → Value) : List Nat → Prop
  | [] => True
  | j :: l => (if K.getD j false then z j = some (xs j) else getP V j (xs j)) ∧ knowsI K V z xs l
theorem knowsI_of {K : List Bool} {V : List (Value → Prop)} {z : Nat → Option Value} {xs : Nat → Value} : ∀ {l : List Nat}, (∀ j ∈ l, if K.getD j false then z j = some (xs j) else getP V j (xs j)) → knowsI K V z xs l
  | [], _ => trivial
  | j :: l, h => ⟨h j (by simp), knowsI_of fun i hi => h i (by simp [hi])⟩

section
variable {P : Program} {J : (Nat → Option Value) → World → Prop}
def stepI (P : Program) (J : (Nat → Option Value) → World → Prop) (ops : Array Oper) (K : List Bool) (V : List (Value → Prop)) (head : List Oper) (a0 : Act) (k : Nat) (d : List Nat) (o : Oper) : Bool → Prop
  | true => ∀ (xs : Nat → Value) (z : Nat → Option Value) (w : World), J z w → z k = none → knowsI K V z xs d → ∀ R : Value → World → Prop, (∀ u w', J (zSet z k u) w' → R u w') →
    if Region.wanted o (yielded ops (fillFrom xs head 0 a0).tmps) then relUpon P R ((execOp (fillFrom xs head 0 a0).eval o).run P w) else R undef w
  | false => ∀ (xs : Nat → Value) (z : Nat → Option Value) (w : World), J z w → knowsI K V z xs d → ∀ R : Value → World → Prop, (∀ u w', J z w' → getP V k u → R u w') →
    if Region.wanted o (yielded ops (fillFrom xs head 0 a0).tmps) then relUpon P R ((execOp (fillFrom xs head 0 a0).eval o).run P w) else R undef w
def oblI (P : Program) (J : (Nat → Option Value) → World → Prop) (ops : Array Oper) (K : List Bool) (V : List (Value → Prop)) (D : List (List Nat)) (head : List Oper) (a0 : Act) : List Oper → List Bool → Nat → Prop
  | [], _, _ => True
  | _ :: _, [], _ => False
  | o :: l, b :: ks, k => stepI P J ops K V head a0 k (D.getD k []) o b ∧ oblI P J ops K V D head a0 l ks (k + 1)
theorem oblI_get {ops : Array Oper} {K : List Bool} {V : List (Value → Prop)} {D : List (List Nat)} {head : List Oper} {a0 : Act} :
    ∀ {l : List Oper} {ks : List Bool} {k : Nat}, oblI P J ops K V D head a0 l ks k → ∀ i o, l[i]? = some o → stepI P J ops K V head a0 (k + i) (D.getD (k + i) []) o (ks.getD i false)
  | [], _, _, _, i, o, h => by simp at h
  | _ :: _, [], _, h, _, _, _ => h.elim
  | p :: l, b :: ks, k, h, 0, o, ho => by
    have : p = o := by simpa using ho
    subst this
    simpa using h.1
  | p :: l, b :: ks, k, h, i + 1, o, ho => by
    have := oblI_get h.2 i o (by simpa using ho)
    rw [show k + 1 + i = k + (i + 1) by omega] at this
    simpa using this

structure IInv (J : (Nat → Option Value) → World → Prop) (ops : Array Oper) (n : Nat) (K : List Bool) (V : List (Value → Prop)) (a0 : Act) (listed : Array Bool) (a : Act) (w : World) : Prop where
  head : HeadInv .any ops n listed
  fill : ∃ xs : Nat → Value, a = fillFrom xs (ops.toList.take n) 0 a0 ∧ J (zOf K listed xs) w ∧ ∀ j, j < n → listed.getD j false = true → K.getD j false = false → getP V j (xs j)

theorem wpAny_inv {ops : Array Oper} {n : Nat} {K : List Bool} {V : List (Value → Prop)} {D : List (List Nat)} {a0 : Act} {Q : Exit → Act → World → Prop} (hK : K.length = n)
    (hB : relB ops n D = true) (hs : oblI P J ops K V D (ops.toList.take n) a0 (ops.toList.take n) K 0)
    (hQ : ∀ xs w, J (zAll K xs) w → (∀ j, j < n → K.getD j false = false → getP V j (xs j)) → wpList P ops Q (ops.toList.drop n) (fillFrom xs (ops.toList.take n) 0 a0) w) :
    ∀ (f : Nat) (listed : Array Bool) (a : Act) (w : World), left n listed = f → IInv J ops n K V a0 listed a w → wpAny P .any ops Q (f + (ops.size - n)) listed a w := by
  simp only [relB, Bool.and_eq_true, Bool.or_eq_true, decide_eq_true_eq] at hB
  obtain ⟨⟨⟨⟨⟨hn, hback⟩, hdeps⟩, hnd⟩, htail⟩, hseq⟩ := hB
  intro f
  induction f with
  | zero =>
    intro listed a w hl inv
    have hall := left_zero hl
    have hall2 : ∀ j, j < n → listed.getD j false = true := fun j hj => by
      have := hall j hj
      rwa [getD_of_size (by rw [inv.head.size]; omega) true false] at this
    have harr : listed = headArr ops.size n := by
      apply Array.ext_getElem?
      intro i
      have hsz := inv.head.size
      unfold headArr
      by_cases h1 : i < n
      · have := hall i h1
        have hi : i < listed.size := by omega
        simp only [hi, Array.getD_eq_getD_getElem?, Array.getElem?_eq_getElem, Option.getD_some] at this
        rw [Array.getElem?_append_left (by simpa using h1)]
        simp [hi, h1, this]
      · by_cases h2 : i < ops.size
        · have := inv.head.tail i (by omega) h2
          have hi : i < listed.size := by omega
          simp only [hi, Array.getD_eq_getD_getElem?, Array.getElem?_eq_getElem, Option.getD_some] at this
          rw [Array.getElem?_append_right (by simpa using h1)]
          simp only [hi, Array.getElem?_eq_getElem, this]
          rw [Array.getElem?_replicate, if_pos (by simp; omega)]
        · rw [Array.getElem?_eq_none (by omega), Array.getElem?_eq_none (by simp; omega)]
    obtain ⟨xs, ha, hj, hx⟩ := inv.fill
    have hz : zOf K listed xs = zAll K xs := by
      funext j
      unfold zOf zAll
      by_cases hjn : j < n
      · rw [hall2 j hjn, Bool.and_true]
      · have : K.getD j false = false := by
          rw [List.getD_eq_getElem?_getD, List.getElem?_eq_none (by omega)]; rfl
        rw [this, Bool.false_and]
    rw [hz] at hj
    have := hQ xs w hj (fun j hjn hkj => hx j hjn (hall2 j hjn) hkj)
    rw [← ha] at this
    rw [Nat.zero_add]
    have h2 := wpAny_of_seq (md := .any) (Q' := Q) (ops.toList.drop n) n listed a w (fun j => by simp [List.getElem?_drop]) (by rw [harr]; simpa using hseq) this
    simpa using h2
  | succ f ih =>
    intro listed a w hl inv
    rw [show f + 1 + (ops.size - n) = (f + (ops.size - n)) + 1 by omega]
    -- one of the head is yet to come
    have hex : ∃ i, i < n ∧ listed.getD i true = false := by
      have h1 : 0 < ((List.range n).filter fun i => !listed.getD i true).length := by unfold left at hl; omega
      obtain ⟨i, hi⟩ := List.exists_mem_of_length_pos h1
      simp only [List.mem_filter, List.mem_range] at hi
      exact ⟨i, hi.1, by simpa using hi.2⟩
    have hready : ∃ i, i < n ∧ i ∈ Region.ready .any ops listed := by
      obtain ⟨i, hi, hu⟩ := hex
      revert hi hu
      induction i using Nat.strongRecOn with
      | _ i ihh =>
        intro hi hu
        have hlt : i < ops.size := by omega
        by_cases hr : i ∈ Region.ready .any ops listed
        · exact ⟨i, hi, hr⟩
        · have ho : ops[i]? = some ops[i] := Array.getElem?_eq_getElem hlt
          have hb := List.all_eq_true.1 hback i (List.mem_range.2 hlt)
          rw [ho] at hb
          simp only [Option.map_some, Option.getD_some] at hb
          have : ∃ e ∈ ops[i].after, Region.binds .any e = true ∧ listed.getD e.on false = false := by
            apply Classical.byContradiction
            intro hno
            apply hr
            rw [mem_ready]
            refine ⟨hu, ops[i], ho, fun e he hbd => ?_⟩
            cases hq : listed.getD e.on false with
            | true => rfl
            | false => exact absurd ⟨e, he, hbd, hq⟩ hno
          obtain ⟨e, he, hbd, hq⟩ := this
          have hlt2 := Array.all_eq_true'.1 hb e he
          simp only [hbd, Bool.not_true, Bool.false_or, decide_eq_true_eq] at hlt2
          exact ihh e.on hlt2 (by omega) (getD_in (by rw [inv.head.size]; omega) hq)
    refine ⟨fun h0 => ?_, fun i hi => ?_⟩
    · obtain ⟨i, _, hr⟩ := hready
      rw [h0] at hr; cases hr
    · have hin : i < n := by
        rcases Nat.lt_or_ge i n with h | h
        · exact h
        · exfalso
          rcases htail with h2 | ⟨⟨hlt, hsk⟩, hch⟩
          · obtain ⟨_, o, ho, _⟩ := mem_ready.1 hi
            have := (Array.getElem?_eq_some_iff.1 ho).1
            omega
          · obtain ⟨j, hj, hu⟩ := hex
            exact tail_waits hsk hch hlt inv.head _ j rfl hj hu i h hi
      obtain ⟨hu, o, ho, hw⟩ := mem_ready.1 hi
      obtain ⟨xs, ha, hj, hx⟩ := inv.fill
      have hoi : (ops.toList.take n)[i]? = some o := by simp [hin, ho]
      have hst := oblI_get hs i o hoi
      rw [Nat.zero_add] at hst
      have hui : listed.getD i false = false := getD_both hu
      have hkn : knowsI K V (zOf K listed xs) xs (D.getD i []) := knowsI_of fun j hj => by
        have h1 := List.all_eq_true.1 hdeps i (List.mem_range.2 (by omega))
        have h2 := List.all_eq_true.1 h1 j hj
        obtain ⟨o', ho', e, he, hb, hon⟩ := Region.waitsFor_spec h2
        have : o' = o := Option.some.inj (ho'.symm.trans ho)
        subst this
        have h3 := hw e he hb
        rw [hon] at h3
        have hjn : j < n := by
          have hb1 := List.all_eq_true.1 hback i (List.mem_range.2 (by omega))
          rw [ho] at hb1
          simp only [Option.map_some, Option.getD_some] at hb1
          have h4 := Array.all_eq_true'.1 hb1 e he
          simp only [hb, Bool.not_true, Bool.false_or, decide_eq_true_eq] at h4
          omega
        cases hkj : K.getD j false with
        | true => simp only [if_true, zOf, hkj, h3, Bool.and_self]
        | false => simpa using hx j hjn h3 hkj
      have hnext : ∀ u w', J (zOf K (listed.setIfInBounds i true) (upd xs i u)) w' → (K.getD i false = false → getP V i u) → wpAny P .any ops Q (f + (ops.size - n)) (listed.setIfInBounds i true) (a.put o.dst u) w' := fun u w' h1 h2 => by
        refine ih (listed.setIfInBounds i true) (a.put o.dst u) w' ?_ ⟨inv.head.set hi hin, upd xs i u, ?_, h1, ?_⟩
        · have := left_set hin hu
          omega
        · rw [ha, fill_put xs u (ops.toList.take n) 0 i a0 o hnd hoi, Nat.zero_add]
        · intro j hjn hlj hkj
          by_cases hji : j = i
          · subst hji; simpa [upd] using h2 hkj
          · rw [getD_set_ne false (Ne.symm hji)] at hlj
            simp only [upd, hji, if_false]
            exact hx j hjn hlj hkj
      have hisz : i < listed.size := by
        obtain ⟨hi2, _⟩ := Array.getElem?_eq_some_iff.1 ho
        rw [inv.head.size]; exact hi2
      have hself : (listed.setIfInBounds i true).getD i false = true := by simp [hisz]
      cases hki : K.getD i false with
      | true =>
        rw [hki] at hst
        have hz0 : zOf K listed xs i = none := by simp only [zOf, hui, Bool.and_false, Bool.false_eq_true, if_false]
        have hzz : ∀ u, zOf K (listed.setIfInBounds i true) (upd xs i u) = zSet (zOf K listed xs) i u := fun u => by
          funext j
          by_cases hji : j = i
          · subst hji; simp only [zOf, zSet, hki, hself, Bool.and_self, if_true, upd]
          · simp only [zOf, zSet, hji, if_false, upd, getD_set_ne false (Ne.symm hji)]
        have hstep := hst xs _ w hj hz0 hkn (fun u w' => J (zSet (zOf K listed xs) i u) w') (fun u w' h => h)
        rw [← ha] at hstep
        have hres := wp_of_rel (P := P) (ops := ops) (Q := Q) (K := wpAny P .any ops Q (f + (ops.size - n)) (listed.setIfInBounds i true)) (fun u w' h => hnext u w' (by rw [hzz]; exact h) (fun h => by rw [hki] at h; cases h)) hstep
        unfold wpOp
        simp only [ho]
        exact hres
      | false =>
        rw [hki] at hst
        have hzz : ∀ u, zOf K (listed.setIfInBounds i true) (upd xs i u) = zOf K listed xs := fun u => by
          funext j
          by_cases hji : j = i
          · subst hji; simp only [zOf, hki, Bool.false_and, Bool.false_eq_true, if_false]
          · simp only [zOf, hji, if_false, upd, getD_set_ne false (Ne.symm hji)]
        have hstep := hst xs _ w hj hkn (fun u w' => J (zOf K listed xs) w' ∧ getP V i u) (fun u w' h h2 => ⟨h, h2⟩)
        rw [← ha] at hstep
        have hres := wp_of_rel (P := P) (ops := ops) (Q := Q) (K := wpAny P .any ops Q (f + (ops.size - n)) (listed.setIfInBounds i true)) (fun u w' h => hnext u w' (by rw [hzz]; exact h.1) (fun _ => h.2)) hstep
        unfold wpOp
        simp only [ho]
        exact hres

/-- Of each operation that is not marked: a value ('none': the one of the list), or what is known of it. -/
def mixP : List Value → List (Option (Value → Prop)) → List (Value → Prop)
  | c :: cs, none :: l => (fun u => u = c) :: mixP cs l
  | _ :: cs, some V :: l => V :: mixP cs l
  | _, _ => []
def heldI : List Bool → List Value → List (Option (Value → Prop)) → Nat → (Nat → Value) → Prop
  | true :: ks, _ :: cs, _ :: l, k, xs => heldI ks cs l (k + 1) xs
  | false :: ks, c :: cs, none :: l, k, xs => xs k = c ∧ heldI ks cs l (k + 1) xs
  | false :: ks, _ :: cs, some V :: l, k, xs => V (xs k) ∧ heldI ks cs l (k + 1) xs
  | _, _, _, _, _ => True
theorem heldI_of (xs : Nat → Value) : ∀ (ks : List Bool) (cs : List Value) (l : List (Option (Value → Prop))) (k : Nat), (∀ j, j < ks.length → ks.getD j false = false → getP (mixP cs l) j (xs (k + j))) → heldI ks cs l k xs := by
  intro ks
  induction ks with
  | nil => intro cs l k _; simp [heldI]
  | cons b ks ih =>
    intro cs l k h
    cases cs with
    | nil => cases b <;> simp [heldI]
    | cons c cs =>
      cases l with
      | nil => cases b <;> simp [heldI]
      | cons o l =>
        have hr : heldI ks cs l (k + 1) xs := ih cs l (k + 1) fun j hj hk => by
          have := h (j + 1) (by simp; omega) (by simpa using hk)
          rw [show k + (j + 1) = k + 1 + j by omega] at this
          cases o <;> simpa [getP, mixP] using this
        cases b with
        | true => simpa [heldI] using hr
        | false =>
          have h0 := h 0 (by simp) (by simp)
          cases o with
          | none => exact ⟨by simpa [getP, mixP] using h0, hr⟩
          | some V => exact ⟨by simpa [getP, mixP] using h0, hr⟩

/-- A region that draws its order: its head by each operation alone, its tail in the text's order. -/
theorem wp_region_inv {id : Nat} {Q : Exit → Act → World → Prop} {a : Act} {w : World} {l : List Oper} (n : Nat) (J : (Nat → Option Value) → World → Prop) (K : List Bool) (cs : List Value) (W : List (Option (Value → Prop))) (D : List (List Nat))
    (hm : P.follows .mixedOrders = true) (hB : relB l.toArray n D = true) (hK : K.length = n) (hJ : J (fun _ => none) { w with drawn := w.drawn + 1 })
    (hs : oblI P J l.toArray K (mixP cs W) D (l.take n) a (l.take n) K 0)
    (hQ : ∀ xs w', J (zAll K xs) w' → heldI K cs W 0 xs → wpList P l.toArray Q (l.drop n) (fillFrom xs (l.take n) 0 a) w') :
    (Code.region id l.toArray true).wp P Q a w := by
  refine wp_region_any hm ?_
  have hn : n ≤ l.toArray.size := by
    simp only [relB, Bool.and_eq_true, decide_eq_true_eq] at hB
    exact hB.1.1.1.1.1
  obtain ⟨xs0, h0⟩ := fill_self (l.take n) 0 a
  have hl : left n (Array.replicate l.toArray.size false) = n := by
    unfold left
    rw [List.filter_eq_self.2]
    · simp
    · intro i hi
      have : i < l.toArray.size := by have := List.mem_range.1 hi; omega
      simp at this
      simp [this]
  have hz0 : zOf K (Array.replicate l.toArray.size false) xs0 = fun _ => none := by
    funext j
    unfold zOf
    rw [getD_replicate_false, Bool.and_false]
    rfl
  have H := wpAny_inv (P := P) (J := J) (Q := Q) (a0 := a) hK hB (by simpa using hs) (by
      intro xs w' h1 h2
      have := hQ xs w' h1 (heldI_of xs K cs W 0 fun j hj hk => by rw [Nat.zero_add]; exact h2 j (by omega) hk)
      simpa using this) n (Array.replicate l.toArray.size false) a { w with drawn := w.drawn + 1 } hl
    ⟨⟨by simp, fun j oj _ hl => (by rw [getD_replicate_false] at hl; cases hl), fun t _ ht => getD_in (by simpa using ht) (getD_replicate_false _ _)⟩,
      xs0, by simpa using (h0 xs0 (fun _ _ => rfl)).symm, by rw [hz0]; exact hJ, fun j _ hl => (by rw [getD_replicate_false] at hl; cases hl)⟩
  rw [show n + (l.toArray.size - n) = l.toArray.size by omega] at H
  exact H
end

end Go.Proofs.YtalpfoomkhhgnaaGreatDoor

/-! store: Open, place, read. Conditions: as each theorem states. -/
namespace Go.Proofs.YtalpfoomkhhgnaaGreatDoor
open Go Go.RowKit
set_option linter.unusedVariables false
set_option linter.unusedSimpArgs false
set_option linter.unusedSectionVars false

/-- What a caller wants kept besides: blocks and what they hold. -/
structure KeptW where
  blk : Nat → Option Obj
  low : Nat
def keptW [KW : Inhabited KeptW] : Nat → Option Obj := (default : KeptW).blk
open Classical in
/-- .. and how many blocks there are at least. -/
noncomputable def lowW [KW : Inhabited KeptW] : Nat := if ∀ k, keptW k = none then 0 else (default : KeptW).low
variable [KW : Inhabited KeptW]
section
variable {w0 w w' : World} {S O : Nat → Prop} {f : Value} {gs gc : Nat} {m m' : Fs} {n : Int}
end
variable [Inhabited BaseW]
section
variable {w0 w1 w w' : World} {S O : Nat → Prop} {f : Value} {gs gc : Nat} {m m1 : Fs} {n er : Int} {fx : Fi} {z6 z7 z8 z10 z11 : Option Value}
end
end Go.Proofs.YtalpfoomkhhgnaaGreatDoor

/-! marref5: without, with: lists of files in new blocks. Conditions: at most 10000000 files; short paths. -/
namespace Go.Proofs.YtalpfoomkhhgnaaGreatDoor
open Go Go.RowKit

theorem Each.len {α : Type} {p : List Value → α → Prop} {css : List (List Value)} {xs : List α} (h : Each p css xs) {n : Nat} (hp : ∀ c x, p c x → c.length = n) : ∀ c ∈ css, c.length = n := fun c hc => by
  obtain ⟨i, hi, rfl⟩ := List.mem_iff_getElem.1 hc
  have hi2 : i < xs.length := by rw [← h.1]; exact hi
  exact hp _ _ (h.2 i css[i] xs[i] (List.getElem?_eq_getElem hi) (List.getElem?_eq_getElem hi2))
theorem Each.one {α : Type} {p : List Value → α → Prop} {css : List (List Value)} {xs : List α} (h : Each p css xs) (hp : ∀ c x, p c x → c.all (·.oneCell') = true) : ∀ u ∈ css.flatten, u.oneCell' = true := fun u hu => by
  obtain ⟨c, hc, hu⟩ := List.mem_flatten.1 hu
  obtain ⟨i, hi, rfl⟩ := List.mem_iff_getElem.1 hc
  have hi2 : i < xs.length := by rw [← h.1]; exact hi
  exact List.all_eq_true.1 (hp _ _ (h.2 i css[i] xs[i] (List.getElem?_eq_getElem hi) (List.getElem?_eq_getElem hi2))) u hu
theorem Each.take {α : Type} {p : List Value → α → Prop} {css : List (List Value)} {xs : List α} (h : Each p css xs) (k : Nat) : Each p (css.take k) (xs.take k) := by
  refine ⟨by simp [h.1], fun i c x hc hx => ?_⟩
  rw [List.getElem?_take] at hc hx
  split at hc
  · rename_i hi
    rw [if_pos hi] at hx
    exact h.2 i c x hc hx
  · cases hc
theorem Each.drop {α : Type} {p : List Value → α → Prop} {css : List (List Value)} {xs : List α} (h : Each p css xs) (k : Nat) : Each p (css.drop k) (xs.drop k) := by
  refine ⟨by simp [h.1], fun i c x hc hx => ?_⟩
  rw [List.getElem?_drop] at hc hx
  exact h.2 _ c x hc hx
theorem Each.append {α : Type} {p : List Value → α → Prop} {css ds : List (List Value)} {xs ys : List α} (h : Each p css xs) (k : Each p ds ys) : Each p (css ++ ds) (xs ++ ys) := by
  refine ⟨by simp [h.1, k.1], fun i c x hc hx => ?_⟩
  rw [List.getElem?_append] at hc hx
  by_cases hi : i < css.length
  · rw [if_pos hi] at hc
    rw [if_pos (by rw [← h.1]; exact hi)] at hx
    exact h.2 i c x hc hx
  · rw [if_neg hi] at hc
    rw [if_neg (by rw [← h.1]; exact hi)] at hx
    rw [← h.1] at hx
    exact k.2 _ c x hc hx
section
variable {ops : Array Oper} {rest : List Oper} {o : Oper} {a : Act} {Q : Exit → Act → World → Prop} {w : World}
end
end Go.Proofs.YtalpfoomkhhgnaaGreatDoor

/-! marref5: with: a file put in its place, in a new list. Conditions: at most 10000000 files; short paths. -/
namespace Go.Proofs.YtalpfoomkhhgnaaGreatDoor
open Go Go.RowKit

section
variable {w0 : World} {nA nC : Nat} {A rowc C : List Value} {z0 z4 z8 z9 z13 : Option Value} {w w' : World} {u : Value}
end

theorem less_ltB : ∀ a b : B8, Op.bytesLess a b = ltB a b
  | [], [] => by simp [Op.bytesLess, ltB]
  | _ :: _, [] => by simp [Op.bytesLess, ltB]
  | [], _ :: _ => by simp [Op.bytesLess, ltB]
  | a :: r, b :: s => by
    rw [Op.bytesLess, less_ltB r s]
    unfold ltB
    rw [Bool.eq_iff_iff]
    simp [List.cons_lt_cons_iff]
/-- append, as an operation of a region. -/
theorem rel_append {c : Prop} [Decidable c] {ev : Operand → Value} {R : Value → World → Prop} {o : Oper} {w : World} (s x : Operand) (t : TypeId) {v xv v' : Value} {w' : World} (hw : c) (ho : o.op = .call { callee := .builtin .append, args := #[s, x], argTypes := #[t, t] }) 
    (hs : ev s = v) (hx : ev x = xv) (hr : (Builtin.append_ #[t, t] o.type #[v, xv]).run Tryz.prog w = .ok v' w') (h : R v' w') :
    if c then relUpon Tryz.prog R ((execOp ev o).run Tryz.prog w) else R undef w := by
  rw [if_pos hw]
  unfold execOp
  simp only [ho, resolve, invoke, builtin, Sem.run_bind, Sem.run_pure, Result.andThen_ok, List.map_toArray, List.map_cons, List.map_nil, hs, hx, hr]
  exact h

end Go.Proofs.YtalpfoomkhhgnaaGreatDoor

/-! marref5.apply: a change of a list of files. Conditions: at most 10000000 files; short paths. -/
namespace Go.Proofs.YtalpfoomkhhgnaaGreatDoor
open Go Go.RowKit

/-- What a change hands back: a new list, or the one that it was given. -/
def NewOr (w : World) (v v' : Value) : Prop := ∀ k, v'.ownBlock = some k → v.ownBlock = some k ∨ w.heap.size ≤ k
end Go.Proofs.YtalpfoomkhhgnaaGreatDoor

/-! marref5.FS: change: a change is done. Conditions: at most 10000000 files, changes, ticks. -/
namespace Go.Proofs.YtalpfoomkhhgnaaGreatDoor
open Go Go.RowKit
variable [Inhabited BaseW]

section
variable {ops : Array Oper} {rest : List Oper} {o : Oper} {a : Act} {Q : Exit → Act → World → Prop} {w : World}
end

theorem IsOp.ext {R : Nat → Prop} {w w' : World} {cs : List Value} {c : Ch} (h : IsOp R w cs c) (hx : Ext w w') : IsOp R w' cs c := h.keepR (KeepR.of_keep (KeepB.of_ext hx))
/-- A change with its stamp. -/
theorem IsOp.stamp {R : Nat → Prop} {w : World} {kind : Int} {p q : B8} {mode time t2 : Int} {a : Option Addr} {n cap : Nat} {c : Ch} {t : Nat} (h : IsOp R w [.int .i64 kind, S8 p, S8 q, .int .i64 mode, .slice a n cap, .int .i64 time] c)
    (hk : (kind = 1 ∧ ∃ f, c = .put q f ∧ p = [] ∧ f.mode = mode ∧ f.data.length = n ∧ f.time = time) ∨ (kind ≠ 1 ∧ ∀ t, c.at t = c)) (ht : t2 = if kind = 1 then (t : Int) else time) :
    IsOp R w [.int .i64 kind, S8 p, S8 q, .int .i64 mode, .slice a n cap, .int .i64 t2] (c.at t) := by
  rcases hk with ⟨rfl, f, rfl, rfl, rfl, rfl, rfl⟩ | ⟨hk, hat⟩
  · obtain ⟨h1, v, he, hd⟩ := h
    rw [if_pos rfl] at ht
    subst ht
    simp only [List.cons.injEq, true_and, and_true] at he
    exact ⟨h1, _, rfl, he ▸ hd⟩
  · rw [if_neg hk] at ht
    rw [hat, ht]
    exact h

end Go.Proofs.YtalpfoomkhhgnaaGreatDoor

/-! marref1.Under: what it answers. Conditions: texts of at most 10000000 signs. -/
namespace Go.Proofs.YtalpfoomkhhgnaaGreatDoor
open Go Go.RowKit

end Go.Proofs.YtalpfoomkhhgnaaGreatDoor

/-! marref5.may: may a file stand at a path? Conditions: all paths may be. -/
namespace Go.Proofs.YtalpfoomkhhgnaaGreatDoor
open Go Go.RowKit

end Go.Proofs.YtalpfoomkhhgnaaGreatDoor

/-! marref5.FS: safe, drop. Conditions: at most 9000000 ticks; short paths. -/
namespace Go.Proofs.YtalpfoomkhhgnaaGreatDoor
open Go Go.RowKit
variable [Inhabited BaseW]

section
variable {ops : Array Oper} {rest : List Oper} {o : Oper} {a : Act} {Q : Exit → Act → World → Prop} {w : World}
end
end Go.Proofs.YtalpfoomkhhgnaaGreatDoor

/-! marref.CopyBytes; marref5.FS: put. Conditions: at most 8000000 ticks; short paths. -/
namespace Go.Proofs.YtalpfoomkhhgnaaGreatDoor
open Go Go.RowKit
variable [Inhabited BaseW]

def putRM (m : Fs) (path : B8) (mode : Int) (data : B8) (only full : Bool) (room : Int) : Fs × Int :=
  if wrongE path mode data ≠ 0 then (m, wrongE path mode data) else if only = true ∧ (look m.now path).isSome then (m, 8)
  else putsM m path mode data (!full && decide ((data.length : Int) ≤ room - usedF m.now + oldLen m.now path))

end Go.Proofs.YtalpfoomkhhgnaaGreatDoor

/-! marref5.FS: Crash. Conditions: at most 8000000 ticks. -/
namespace Go.Proofs.YtalpfoomkhhgnaaGreatDoor
open Go Go.RowKit
variable [Inhabited BaseW]

theorem NewOr.inn {O : Nat → Prop} {w w' : World} {v v' : Value} (h : NewOr w v v') (hi : Inn O v) (hl : ∀ k, v'.ownBlock = some k → k < w'.heap.size) : Inn (Nw O w w') v' := fun k hk => (h k hk).imp (hi k) (fun h1 => ⟨h1, hl k hk⟩)
end Go.Proofs.YtalpfoomkhhgnaaGreatDoor

/-! marref5.FS: UserWrite, UserRemove. Conditions: at most 7000000 ticks; short paths. -/
namespace Go.Proofs.YtalpfoomkhhgnaaGreatDoor
open Go Go.RowKit
variable [Inhabited BaseW]

section
variable {ops : Array Oper} {rest : List Oper} {o : Oper} {a : Act} {Q : Exit → Act → World → Prop} {w : World}
end

end Go.Proofs.YtalpfoomkhhgnaaGreatDoor

/-! marref5.FS: begin: a call begins. Conditions: at most 6000000 ticks; a plan that is few. -/
namespace Go.Proofs.YtalpfoomkhhgnaaGreatDoor
open Go Go.RowKit
variable [Inhabited BaseW]

end Go.Proofs.YtalpfoomkhhgnaaGreatDoor

/-! marref5.FS: Create, Write, Remove, Sync. Conditions: what holds of a file system at all times; short paths. -/
namespace Go.Proofs.YtalpfoomkhhgnaaGreatDoor
open Go Go.RowKit
variable [Inhabited BaseW]

end Go.Proofs.YtalpfoomkhhgnaaGreatDoor

/-! marref5.FS: move, Move, MoveNew. Conditions: what holds of a file system at all times; short paths. -/
namespace Go.Proofs.YtalpfoomkhhgnaaGreatDoor
open Go Go.RowKit
variable [Inhabited BaseW]

end Go.Proofs.YtalpfoomkhhgnaaGreatDoor

/-! marref5.FS: Peek, Paths, Read, List. Conditions: what holds of a file system at all times; short paths. -/
namespace Go.Proofs.YtalpfoomkhhgnaaGreatDoor
open Go Go.RowKit
variable [Inhabited BaseW]

end Go.Proofs.YtalpfoomkhhgnaaGreatDoor

/-! marref5.FS: List, New, Plan, User, and what each tells of itself. Conditions: what holds of a file system at all times; short paths. -/
namespace Go.Proofs.YtalpfoomkhhgnaaGreatDoor
open Go Go.RowKit
variable [Inhabited BaseW]

def inDir (dir q : B8) : Bool := dir == [] || isUnder dir q
end Go.Proofs.YtalpfoomkhhgnaaGreatDoor

/-! marref5.FS: New, Plan, User, and what each tells of itself. Conditions: what holds of a file system at all times. -/
namespace Go.Proofs.YtalpfoomkhhgnaaGreatDoor
open Go Go.RowKit
variable [Inhabited BaseW]

section
variable {O R : Nat → Prop} {w : World} {p : Value} {m : Fs}
end

end Go.Proofs.YtalpfoomkhhgnaaGreatDoor

/-! marref5.FS: User. Conditions: at most 10000000 events. -/
namespace Go.Proofs.YtalpfoomkhhgnaaGreatDoor
open Go Go.RowKit
variable [Inhabited BaseW]

section
variable {ops : Array Oper} {rest : List Oper} {o : Oper} {a : Act} {Q : Exit → Act → World → Prop} {w : World}
end

end Go.Proofs.YtalpfoomkhhgnaaGreatDoor

/-! marref: Bytes, Texts, Has; marlaw5: flag, file. Conditions: at most 10000000 texts. -/
namespace Go.Proofs.YtalpfoomkhhgnaaGreatDoor
open Go Go.RowKit

def FilePost (f g : Fi) (w : World) (e : Ending) (w' : World) : Prop := (∃ r : Bool, e = .returned (.bool r) ∧ (f = g → r = true)) ∧ Ext w w'
end Go.Proofs.YtalpfoomkhhgnaaGreatDoor

/-! store: Put. Conditions: as each theorem states. -/
namespace Go.Proofs.YtalpfoomkhhgnaaGreatDoor
open Go Go.RowKit
set_option linter.unusedVariables false
set_option linter.unusedSimpArgs false
set_option linter.unusedSectionVars false

/-- How many reads a Put has made when it hands back. -/
def cntP (n : Int) (b : B8) : Int := if 20000 < b.length then n else n + 1
theorem old_out {O : Nat → Prop} {w0 w : World} {v : Value} {l : B8} (h : IsBytes w0 v l) (hO : ∀ k, O k → w0.heap.size ≤ k) : Out O w v := by
  obtain ⟨a, cap, rfl, h1, h2, h3, h4⟩ := h
  intro a' n c he hn
  cases he
  refine .inl fun ho => ?_
  cases hl : l with
  | nil => rw [hl] at hn; exact hn rfl
  | cons x r =>
    obtain ⟨b, o, e, hc⟩ := h4 (by rw [hl]; simp)
    cases e
    have := World.block_lt_of_cell? _ _ (hc 0 (.int .u8 x.toNat) (by rw [hl]; rfl))
    have h9 := hO _ ho
    simp only at this h9
    omega
/-- Bytes that a call is handed: old ones, or typed ones. -/
def Arg (w0 w : World) (v : Value) (b : B8) : Prop := IsBytes w0 v b ∨ IsBytes w v b ∧ TypB w v
theorem Arg.keep {w0 w w' : World} {v : Value} {b : B8} (h : Arg w0 w v b) (hk : KeepB w w') : Arg w0 w' v b := by
  rcases h with h | ⟨h1, h2⟩
  · exact .inl h
  · exact .inr ⟨Row.keepB h1 h2 hk, h2.keep hk⟩
theorem Arg.bytes {w0 w : World} {v : Value} {b : B8} (h : Arg w0 w v b) (hx : Ext w0 w) : IsBytes w v b := by
  rcases h with h | h
  · exact IsBytes.ext h hx
  · exact h.1
theorem Arg.out {O : Nat → Prop} {w0 w : World} {v : Value} {b : B8} (h : Arg w0 w v b) (hO : ∀ k, O k → w0.heap.size ≤ k) : Out O w v := by
  rcases h with h | h
  · exact old_out h hO
  · exact fun a n c he _ => .inr (h.2 a n c he)
variable [Inhabited BaseW] [KW : Inhabited KeptW]
end Go.Proofs.YtalpfoomkhhgnaaGreatDoor

/-! store: List. Conditions: as each theorem states. -/
namespace Go.Proofs.YtalpfoomkhhgnaaGreatDoor
open Go Go.RowKit
set_option linter.unusedVariables false
set_option linter.unusedSimpArgs false
set_option linter.unusedSectionVars false

def dirO : B8 := [115, 47, 111]
def dirS : B8 := [115, 47, 111, 47]
def idsL (l : List B8) : List B8 := (l.map fun p => Lib.trimPrefix p dirS).filter validB
def storeListM (m : Fs) : Fs × List B8 × Int := if (listM m dirO).2.2 ≠ 0 then ((listM m dirO).1, [], (listM m dirO).2.2) else ((listM m dirO).1, idsL (listM m dirO).2.1, 0)
variable [Inhabited BaseW] [KW : Inhabited KeptW]
end Go.Proofs.YtalpfoomkhhgnaaGreatDoor

/-! store: what the chapter's examples fix. Conditions: as each theorem states. -/
namespace Go.Proofs.YtalpfoomkhhgnaaGreatDoor
open Go Go.RowKit
set_option linter.unusedVariables false
set_option linter.unusedSimpArgs false
set_option linter.unusedSectionVars false

def xB : B8 := shaM [120]
def sm0 : Fs := newM 1000
def sm1 : Fs := (putO sm0 [120]).1
def sm2 : Fs := (putO sm1 [120]).1
section
variable [Inhabited BaseW] [KW : Inhabited KeptW]
end
end Go.Proofs.YtalpfoomkhhgnaaGreatDoor

/-! A scan: how much a file system has done behind it. Conditions: as each theorem states. -/
namespace Go.Proofs.YtalpfoomkhhgnaaGreatDoor
open Go Go.RowKit

/-- A row more each time that the store is asked. -/
structure ScN (N : Nat) (x : Sc) : Prop where
  rows : x.rows.length ≤ N
  rows2 : x.rows.length ≤ 256
  ix : x.ix.length ≤ N
  n : x.n ≤ N
/-! ### What the chapter's examples fix -/
def qs0 : Fs := newM 10000
def qs1 : Fs := (putObjM qs0 (blobO [113])).1
def qs2 : Fs := (userWrite qs1 [119, 47, 97] 1 [113]).1
def qa : Sc × Int := scanGo qs2 [] 0 []
def qb : Sc × Int := scanGo qa.1.m qa.1.ix qa.1.m.time []
def qs5 : Fs := (userWrite qb.1.m [118] 1 []).1
def qc : Sc × Int := scanGo qs5 qb.1.ix qb.1.m.time []
def qd : Sc × Int := scanGo qc.1.m qc.1.ix qc.1.m.time []
/-! ### How many files of users there are -/
def WN (k : Nat) (m : Fs) : Prop := ((pathsL m.now).filter (isUnder wP)).length ≤ k
theorem WN.goes {k : Nat} {m m' : Fs} (h : WN k m) (hg : Goes m m') : WN k m' := by
  unfold WN at h ⊢
  rw [hg.same.2]
  exact h
theorem WN.mono {k n : Nat} {m : Fs} (h : WN k m) (hn : k ≤ n) : WN n m := Nat.le_trans h hn
end Go.Proofs.YtalpfoomkhhgnaaGreatDoor
