/- marref.Unique, of whatever texts. Conditions: as each theorem states. -/
import Derived.Test.YtdhgmpibjneplaaGreatDoorZag
import Derived.Defers
import Derived.Laws.Pointers
import Derived.Laws.LoneSync
import Derived.RegionCalls
import Derived.ChangeAlike
import Derived.Laws.NewBlocks
import Derived.Test.YtdhgmpibjneplaaGreatDoorZae
import Derived.Test.YtdhgmpibjneplaaGreatDoorZaf
import Derived.Deep.DeepCutAuto
import Derived.Deep.Upon

set_option linter.unusedVariables false
set_option linter.unusedSimpArgs false

/-! sha.Hasher.Copy. Conditions: at most 10000000 bytes. -/
namespace Go.Proofs.YtdhgmpibjneplaaGreatDoor
open Go Go.RowKit
set_option linter.unusedVariables false
set_option linter.unusedSimpArgs false
set_option linter.unusedSectionVars false

set_option maxRecDepth 100000 in
set_option maxHeartbeats 1000000 in
theorem copy_sha (hb cb : Nat) (st : List UInt32) (rv : Value) (r : B8) (n : Nat) (w : World) (hst : st.length = 8)
    (hg : w.heap[hb]? = some (.cells (hCells cb st rv n) 238 (0, 0))) (hr : IsBytes w rv r) (hrl : r.length ≤ 10000000) :
    Calls Tryz.prog 181 #[.pointer (some ⟨hb, 0, none⟩)] w fun e w' => (∃ (g : Nat) (rv' : Value), e = .returned (.pointer (some ⟨g, 0, none⟩)) ∧ w.heap.size ≤ g ∧ w'.heap[g]? = some (.cells (hCells cb st rv' n) 238 (0, 0)) ∧ IsBytes w' rv' r ∧ TypB w' rv') ∧ Ext w w' := by
  obtain ⟨i0, i1, i2, i3, i4, i5, i6, i7, rfl⟩ := list8 hst
  obtain ⟨a, cap, rfl, h1, h2, h3, -⟩ := hr.get
  have HG : Hid _ := hg
  have HR : Hid (IsBytes w (.slice a r.length cap) r) := hr
  have d0 : w.cell? ⟨hb, 0, none⟩ = some (.pointer (some ⟨cb, 0, none⟩)) := (cell_of_row _ _ 0 _ _ _ hg).trans rfl
  have c1 : w.cell? ⟨hb, 1, none⟩ = some (U32 i0) := (cell_of_row _ _ 1 _ _ _ hg).trans rfl
  have c2 : w.cell? ⟨hb, 2, none⟩ = some (U32 i1) := (cell_of_row _ _ 2 _ _ _ hg).trans rfl
  have c3 : w.cell? ⟨hb, 3, none⟩ = some (U32 i2) := (cell_of_row _ _ 3 _ _ _ hg).trans rfl
  have c4 : w.cell? ⟨hb, 4, none⟩ = some (U32 i3) := (cell_of_row _ _ 4 _ _ _ hg).trans rfl
  have c5 : w.cell? ⟨hb, 5, none⟩ = some (U32 i4) := (cell_of_row _ _ 5 _ _ _ hg).trans rfl
  have c6 : w.cell? ⟨hb, 6, none⟩ = some (U32 i5) := (cell_of_row _ _ 6 _ _ _ hg).trans rfl
  have c7 : w.cell? ⟨hb, 7, none⟩ = some (U32 i6) := (cell_of_row _ _ 7 _ _ _ hg).trans rfl
  have c8 : w.cell? ⟨hb, 8, none⟩ = some (U32 i7) := (cell_of_row _ _ 8 _ _ _ hg).trans rfl
  have d2 : w.cell? ⟨hb, 9, none⟩ = some (.slice a r.length cap) := (cell_of_row _ _ 9 _ _ _ hg).trans rfl
  have d3 : w.cell? ⟨hb, 10, none⟩ = some (.int .i64 (n : Int)) := (cell_of_row _ _ 10 _ _ _ hg).trans rfl
  clear hr hg hst
  go_enter Tryz.func181, Tryz.ntmps181
  go_wp2_with fail
  apply wp_region_mix 17 [_, _, _, _, _, _, _, .agg #[U32 i0, U32 i1, U32 i2, U32 i3, U32 i4, U32 i5, U32 i6, U32 i7], _, _, _, _, undef, _, _, _, _] [none, none, none, none, none, none, none, none, none, none, none, none, some (fun u w' => w'.ownsRow w.heap.size 5 1 u r.length (r.map fun x => .int .u8 x.toNat)), none, none, none, none] [[], [0], [1], [2], [], [4], [5], [6], [], [8], [9], [10], [11], [], [13], [14], [15]] (by kernel_rfl) (by kernel_rfl) (by simp [mixV])
  · refine ⟨?_, trivial⟩
    · exact fun _ _ _ he h => owns_ext h he
  · simp (maxSteps := 1000000) only [List.take_succ_cons, List.take_zero, oblFrom, stepObl, fillFrom, Act.put, List.setIfInBounds_toArray, List.set_cons_zero, List.set_cons_succ, knows, getV, mixV, List.getD_cons_zero, List.getD_cons_succ, and_true, true_and, forall_const]
    refine ⟨?_, ?_, ?_, ?_, ?_, ?_, ?_, ?_, ?_, ?_, ?_, ?_, ?_, ?_, ?_, ?_, ?_⟩
    · intro xs wq hq R hR
      have f0 := hq.cell d0; have f2 := hq.cell d2; have f3 := hq.cell d3
      go_simp
      exact hR _ _ (Ext.refl _) rfl
    · intro xs wq hq hk R hR
      have f0 := hq.cell d0; have f2 := hq.cell d2; have f3 := hq.cell d3
      go_simp
      exact hR _ _ (Ext.refl _) rfl
    · intro xs wq hq hk R hR
      have f0 := hq.cell d0; have f2 := hq.cell d2; have f3 := hq.cell d3
      go_simp
      exact hR _ _ (Ext.refl _) rfl
    · intro xs wq hq hk R hR
      have f0 := hq.cell d0; have f2 := hq.cell d2; have f3 := hq.cell d3
      go_simp
      exact hR _ _ (Ext.refl _) rfl
    · intro xs wq hq R hR
      have f0 := hq.cell d0; have f2 := hq.cell d2; have f3 := hq.cell d3
      go_simp
      exact hR _ _ (Ext.refl _) rfl
    · intro xs wq hq hk R hR
      have f0 := hq.cell d0; have f2 := hq.cell d2; have f3 := hq.cell d3
      go_simp
      exact hR _ _ (Ext.refl _) rfl
    · intro xs wq hq hk R hR
      have f0 := hq.cell d0; have f2 := hq.cell d2; have f3 := hq.cell d3
      go_simp
      exact hR _ _ (Ext.refl _) rfl
    · intro xs wq hq hk R hR
      have f1 := hq.cell c1
      have f2 := hq.cell c2
      have f3 := hq.cell c3
      have f4 := hq.cell c4
      have f5 := hq.cell c5
      have f6 := hq.cell c6
      have f7 := hq.cell c7
      have f8 := hq.cell c8
      go_simp
      exact hR _ _ (Ext.refl _) rfl
    · intro xs wq hq R hR
      have f0 := hq.cell d0; have f2 := hq.cell d2; have f3 := hq.cell d3
      go_simp
      exact hR _ _ (Ext.refl _) rfl
    · intro xs wq hq hk R hR
      have f0 := hq.cell d0; have f2 := hq.cell d2; have f3 := hq.cell d3
      go_simp
      exact hR _ _ (Ext.refl _) rfl
    · intro xs wq hq hk R hR
      have f0 := hq.cell d0; have f2 := hq.cell d2; have f3 := hq.cell d3
      go_simp
      exact hR _ _ (Ext.refl _) rfl
    · intro xs wq hq hk R hR
      have f0 := hq.cell d0; have f2 := hq.cell d2; have f3 := hq.cell d3
      go_simp
      exact hR _ _ (Ext.refl _) rfl
    · intro xs wq hq hk R hR
      go_simp
      exact (clone_own _ r _ (HR.out.ext hq) (by omega)).mono (by rintro e' w4 ⟨⟨v2, rfl, h1⟩, h3⟩; exact ⟨_, rfl, hR _ _ h3 (owns_low h1 hq.size)⟩)
    · intro xs wq hq R hR
      have f0 := hq.cell d0; have f2 := hq.cell d2; have f3 := hq.cell d3
      go_simp
      exact hR _ _ (Ext.refl _) rfl
    · intro xs wq hq hk R hR
      have f0 := hq.cell d0; have f2 := hq.cell d2; have f3 := hq.cell d3
      go_simp
      exact hR _ _ (Ext.refl _) rfl
    · intro xs wq hq hk R hR
      have f0 := hq.cell d0; have f2 := hq.cell d2; have f3 := hq.cell d3
      go_simp
      exact hR _ _ (Ext.refl _) rfl
    · intro xs wq hq hk R hR
      have f0 := hq.cell d0; have f2 := hq.cell d2; have f3 := hq.cell d3
      go_simp
      exact hR _ _ (Ext.refl _) rfl
  intro xs w2 hx2 hk
  simp only [heldV, Nat.zero_add, Nat.reduceAdd, and_true] at hk
  have q0 := hk.1
  replace hk := hk.2
  have q1 := hk.1
  replace hk := hk.2
  have q2 := hk.1
  replace hk := hk.2
  have q3 := hk.1
  replace hk := hk.2
  have q4 := hk.1
  replace hk := hk.2
  have q5 := hk.1
  replace hk := hk.2
  have q6 := hk.1
  replace hk := hk.2
  have q7 := hk.1
  replace hk := hk.2
  have q8 := hk.1
  replace hk := hk.2
  have q9 := hk.1
  replace hk := hk.2
  have q10 := hk.1
  replace hk := hk.2
  have q11 := hk.1
  replace hk := hk.2
  have q12 := hk.1
  replace hk := hk.2
  have q13 := hk.1
  replace hk := hk.2
  have q14 := hk.1
  replace hk := hk.2
  have q15 := hk.1
  replace hk := hk.2
  have q16 := hk
  clear hk
  simp (maxSteps := 1000000) only [List.take_succ_cons, List.take_zero, List.drop_succ_cons, List.drop_zero, fillFrom, Act.put, List.setIfInBounds_toArray, List.set_cons_zero, List.set_cons_succ, Nat.zero_add, Nat.reduceAdd, q0, q1, q2, q3, q4, q5, q6, q7, q8, q9, q10, q11, q13, q14, q15, q16]
  clear q0 q1 q2 q3 q4 q5 q6 q7 q8 q9 q10 q11 q13 q14 q15 q16
  generalize xs 12 = x12 at *
  obtain ⟨va, vc, rfl, -⟩ := Row.of_owns q12 (by omega)
  have Q12 : Hid (w2.ownsRow w.heap.size 5 1 (.slice va r.length vc) r.length (r.map fun x => .int .u8 x.toNat)) := q12
  clear q12 d0 d2 d3 c1 c2 c3 c4 c5 c6 c7 c8
  go_wp2_with fail
  obtain ⟨w3, hw3⟩ : ∃ w3, w3 = w2.alloc (.cells (hCells cb [i0, i1, i2, i3, i4, i5, i6, i7] (.slice va r.length vc) n) 238) := ⟨_, rfl⟩
  have hx3 : Ext w2 w3 := by rw [hw3]; exact (Ext.refl _).alloc _
  have hg3 : w3.heap[w2.heap.size]? = some (.cells (hCells cb [i0, i1, i2, i3, i4, i5, i6, i7] (.slice va r.length vc) n) 238 (0, 0)) := by rw [hw3]; exact alloc_at _ _
  have hown := owns_ext Q12.out hx3
  go_ret
  refine ⟨⟨w2.heap.size, .slice va r.length vc, rfl, hx2.size, ?_, ?_, ?_⟩, ?_⟩
  · exact hw3 ▸ hg3
  · exact hw3 ▸ Row.of_owns hown (by omega)
  · exact hw3 ▸ TypB.of_owns hown
  · exact hw3 ▸ hx2.trans hx3

end Go.Proofs.YtdhgmpibjneplaaGreatDoor

/-! sha.Hasher.Sum. Conditions: at most 10000000 bytes. -/
namespace Go.Proofs.YtdhgmpibjneplaaGreatDoor
open Go Go.RowKit
set_option linter.unusedVariables false
set_option linter.unusedSimpArgs false
set_option linter.unusedSectionVars false

def slLen : Value → Nat
  | .slice _ n _ => n
  | _ => 0
theorem padZ_lt (n : Nat) : padZ n < 64 := by unfold padZ; omega
theorem padZ_at {n k : Nat} (hk : k ≤ padZ n) : (n + (1 + k)) % 64 = 56 ↔ k = padZ n := by
  unfold padZ at hk ⊢
  omega

/-- Sum's piece, so far. -/
def padL (n k : Nat) : B8 := 128 :: List.replicate (padZ n) 0 ++ (be8 (8 * n)).take k
theorem padL_full (n : Nat) : padL n 8 = padM n := rfl
theorem padL_snoc (n : Nat) {k : Nat} (h : k < 8) : padL n (k + 1) = padL n k ++ [UInt8.ofNat (8 * n / 2 ^ (56 - 8 * k))] := by
  unfold padL
  rw [List.append_assoc]
  congr 1
  rcases (by omega : k = 0 ∨ k = 1 ∨ k = 2 ∨ k = 3 ∨ k = 4 ∨ k = 5 ∨ k = 6 ∨ k = 7) with rfl | rfl | rfl | rfl | rfl | rfl | rfl | rfl <;> rfl
theorem padL_len (n : Nat) {k : Nat} (h : k ≤ 8) : (padL n k).length = 1 + padZ n + k := by
  unfold padL
  rw [List.length_append, List.length_cons, List.length_replicate, List.length_take, show (be8 (8 * n)).length = 8 from rfl]
  omega

theorem byte_shr (x : UInt32) (k : Nat) (hk : k < 32) : (x.toNat : Int) / (2 ^ k : Int) % 256 = ((UInt8.ofNat (x >>> UInt32.ofNat k).toNat).toNat : Int) := by
  rw [shr32 x k hk]
  generalize (x >>> UInt32.ofNat k).toNat = m
  rw [UInt8.toNat_ofNat']
  exact (Int.natCast_emod m 256).symm

set_option maxRecDepth 100000 in
set_option maxHeartbeats 2000000 in
theorem sumH_any (hb cb : Nat) (st : List UInt32) (rv : Value) (r : B8) (n : Nat) (o : List Value) (w : World) (hst : st.length = 8) (ho : o.length = 3) (hn : n ≤ 10000000)
    (hg : w.heap[hb]? = some (.cells (hCells cb st rv n) 238 (0, 0))) (hc : w.heap[cb]? = some (.cells (kCells o) 236 (0, 0))) (hr : IsBytes w rv r) (hrl : r.length ≤ 10000000) :
    Calls Tryz.prog 140 #[.pointer (some ⟨hb, 0, none⟩)] w fun e w' => (∃ v, e = .returned v ∧ w'.ownsRow w.heap.size 5 1 v 32 (((absorb st (r ++ padM n)).1.flatMap outM).map fun x => .int .u8 x.toNat)) ∧ Ext w w' := by
  have HC : Hid _ := hc
  have HR : Hid (IsBytes w rv r) := hr
  have HST : Hid _ := hst
  have HO : Hid _ := ho
  have HG : Hid _ := hg
  have hcb := (Array.getElem?_eq_some_iff.1 hc).1
  have c10 : w.cell? ⟨hb, 10, none⟩ = some (.int .i64 (n : Int)) := (cell_of_row _ _ 10 _ _ _ hg).trans (hCells_9 hst).2
  clear hc hr hst ho hg
  go_enter Tryz.func140, Tryz.ntmps140
  go_upto_region 2 with (go_at_call 181; go_must (refine (copy_sha hb cb st rv r n w HST.out HG.out HR.out hrl).mono ?_; rintro e w1 ⟨⟨g, rv1, rfl, hgs, hg1, hr1, ht1⟩, hx1⟩))
  have HG1 : Hid _ := hg1
  have HR1 : Hid (IsBytes w1 rv1 r) := hr1
  have HT1 : Hid (TypB w1 rv1) := ht1
  have HX1 : Hid (Ext w w1) := hx1
  have d10 := hx1.cell c10
  have hs1 := hx1.size
  clear hg1 hr1 ht1 hx1 c10
  go_wp2_with fail
  have hwa : Ext w1 (w1.alloc (.cells #[.int .u8 128] 5)) := (Ext.refl _).alloc _
  have howna : (w1.alloc (.cells #[.int .u8 128] 5)).ownsRow w1.heap.size 5 1 (.slice (some ⟨w1.heap.size, 0, none⟩) 1 1) (1 + 0) ((128 :: List.replicate 0 0 : B8).map fun x => .int .u8 x.toNat) := ⟨rfl, .inr ⟨w1.heap.size, 1, #[.int .u8 128], rfl, Nat.le_refl _, alloc_at _ _, Nat.le_refl _, by unfold maxLen; omega, rfl, rfl⟩⟩
  have hpz := padZ_lt n
  have HWA : Hid _ := hwa
  have HOWNA : Hid ((w1.alloc (.cells #[.int .u8 128] 5)).ownsRow w1.heap.size 5 1 (.slice (some ⟨w1.heap.size, 0, none⟩) 1 1) (1 + 0) ((128 :: List.replicate 0 0 : B8).map fun x => .int .u8 x.toNat)) := howna
  clear hwa howna
  go_loopw [5] (fun pv wr => ∃ k : Nat, k ≤ padZ n ∧ wr.ownsRow w1.heap.size 5 1 pv (1 + k) ((128 :: List.replicate k 0 : B8).map fun x => .int .u8 x.toNat) ∧ Ext w1 wr) (fun pv _ => 65 - slLen pv)
  case atStart => exact ⟨0, Nat.zero_le _, HOWNA.out, HWA.out⟩
  case round =>
    obtain ⟨k, hk, hown, hx⟩ := hrel
    have HOWN : Hid (wr.ownsRow w1.heap.size 5 1 u5 (1 + k) ((128 :: List.replicate k 0 : B8).map fun x => .int .u8 x.toNat)) := hown
    obtain ⟨pa, pc, rfl, -⟩ := Row.of_owns hown (by omega)
    have HX : Hid (Ext w1 wr) := hx
    have hsz := hx.size
    have e10 := hx.cell d10
    clear hown hx
    have hat := padZ_at hk
    by_cases hkk : k = padZ n
    · have hm : (((n : Int) + (1 + k : Nat)) % 64 != 56) = false := by simp; omega
      clear hat
      go_wp2_with fail
      have HKK : Hid _ := hkk
      clear hkk hm
      generalize (((n : Int) + (1 + (padZ n : Int))) % 64 != 56) = z27
      generalize ((n : Int) + (1 + (padZ n : Int))) % 64 = z26
      generalize (n : Int) + (1 + (padZ n : Int)) = z25
      generalize (1 + (padZ n : Int)) = z24
      go_loopw [5, 31] (fun pv i wr => ∃ k : Nat, k ≤ 8 ∧ i = .int .i64 k ∧ wr.ownsRow w1.heap.size 5 1 pv (1 + padZ n + k) ((padL n k).map fun x => .int .u8 x.toNat) ∧ Ext w1 wr) (fun _ i _ => 8 - (intOf i).toNat)
      case atStart => exact ⟨0, by omega, rfl, by unfold padL; rw [List.take_zero, List.append_nil, ← HKK.out]; exact HOWN.out, HX.out⟩
      case round =>
        obtain ⟨q, hq, rfl, hown, hx⟩ := hrel
        have HOWQ : Hid (wr.ownsRow w1.heap.size 5 1 u5 (1 + padZ n + q) ((padL n q).map fun x => .int .u8 x.toNat)) := hown
        obtain ⟨pa, pc, rfl, -⟩ := Row.of_owns hown (by omega)
        have HXQ : Hid (Ext w1 wr) := hx
        have hsz := hx.size
        clear hown hx
        by_cases hlt : q < 8
        · have hval : ((n : Int) * 8 / 2 ^ (56 - 8 * q) % 256) = ((UInt8.ofNat (8 * n / 2 ^ (56 - 8 * q))).toNat : Int) := by
            rw [UInt8.toNat_ofNat', Nat.mul_comm 8 n]
            push_cast
            rfl
          have HVAL : Hid _ := hval
          have HPL : Hid _ := padL_snoc n hlt
          generalize hz : UInt8.ofNat (8 * n / 2 ^ (56 - 8 * q)) = z at hval
          have HZ : Hid _ := hz
          have HV2 : Hid _ := hval
          clear hval hz
          go_wp2_with (at_builtin; go_must (refine app_u8 rfl _ _ rfl w1.heap.size _ (1 + padZ n + q) (padL n q) rfl (HOWQ.out.alloc _) wr.heap.size 1 1 [z] rfl rfl (fr := (0, 0)) (by show _ = some (Obj.cells #[Value.int .u8 (z.toNat : Int)] _ _); rw [← HV2.out]; exact alloc_at _ _) (by omega) (by simp; omega) ?_; intro v' w3 hown3 hg3))
          go_roundw
          case rel => exact ⟨q + 1, by omega, by go_num, by rw [HPL.out, HZ.out]; exact hown3, owns_ext_app (HXQ.out.alloc _) (HOWQ.out.alloc _) hg3⟩
          case measure => simp [intOf]; omega
        · have hq8 : q = 8 := by omega
          subst hq8
          have hwr := hsz
          have HG9 : Hid (wr.heap[g]? = some (.cells (hCells cb st rv1 n) 238 (0, 0))) := Ext.row HXQ.out HG1.out
          have HC9 : Hid (wr.heap[cb]? = some (.cells (kCells o) 236 (0, 0))) := Ext.row HXQ.out (Ext.row HX1.out HC.out)
          have HV9 : Hid (IsBytes wr (.slice pa (1 + padZ n + 8) pc) (padM n)) := by
            have h9 := Row.of_owns HOWQ.out (by omega)
            unfold Hid IsBytes
            rw [← padL_full, padL_len n (Nat.le_refl 8)]
            exact h9
          have HT9 : Hid (TypB wr (.slice pa (1 + padZ n + 8) pc)) := TypB.of_owns HOWQ.out
          have hpl : (padM n).length = 1 + padZ n + 8 := padL_len n (Nat.le_refl 8)
          go_upto_region 12 with (go_at_call 139; go_must (refine (write_sha g cb st rv1 _ r (padM n) n o wr HST.out HO.out (by omega) (by omega) HG9.out HC9.out (HR1.out.ext HXQ.out) (TypB.keep HT1.out (KeepB.of_ext HXQ.out)) HV9.out (fun a n c he _ => .inr (HT9.out a n c he)) (by omega) (by omega)).mono ?_; rintro e w5 ⟨rfl, st5, rv5, r5, hw5, hab⟩))
          have hres : (absorb st (r ++ padM n)).1 = st5 := by rw [← hab]
          have HRES : Hid _ := hres
          have hx5 : Ext w w5 := Ext.of_fr (HX1.out.trans HXQ.out) hw5.fr (fun k hk => by cases hk; exact hgs)
          obtain ⟨i0, i1, i2, i3, i4, i5, i6, i7, rfl⟩ := list8 hw5.hst
          have hc5 := hw5.cells
          have c1 : w5.cell? ⟨g, 1, none⟩ = some (U32 i0) := (cell_of_row _ _ 1 _ _ _ hc5).trans rfl
          have c2 : w5.cell? ⟨g, 2, none⟩ = some (U32 i1) := (cell_of_row _ _ 2 _ _ _ hc5).trans rfl
          have c3 : w5.cell? ⟨g, 3, none⟩ = some (U32 i2) := (cell_of_row _ _ 3 _ _ _ hc5).trans rfl
          have c4 : w5.cell? ⟨g, 4, none⟩ = some (U32 i3) := (cell_of_row _ _ 4 _ _ _ hc5).trans rfl
          have c5 : w5.cell? ⟨g, 5, none⟩ = some (U32 i4) := (cell_of_row _ _ 5 _ _ _ hc5).trans rfl
          have c6 : w5.cell? ⟨g, 6, none⟩ = some (U32 i5) := (cell_of_row _ _ 6 _ _ _ hc5).trans rfl
          have c7 : w5.cell? ⟨g, 7, none⟩ = some (U32 i6) := (cell_of_row _ _ 7 _ _ _ hc5).trans rfl
          have c8 : w5.cell? ⟨g, 8, none⟩ = some (U32 i7) := (cell_of_row _ _ 8 _ _ _ hc5).trans rfl
          have HX5 : Hid (Ext w w5) := hx5
          have hs5 := hx5.size
          clear hab hres hw5 hc5 hx5
          go_wp2_with fail
          generalize hF : (#[U32 i0, U32 i1, U32 i2, U32 i3, U32 i4, U32 i5, U32 i6, U32 i7] : Array Value) = F
          generalize hL : [i0, i1, i2, i3, i4, i5, i6, i7] = L at HRES
          have hll : L.length = 8 := by subst hL; rfl
          have hFG : ∀ j, j < 8 → F[j]? = some (U32 (L.getD j 0)) := by
            intro j hj
            subst hF hL
            rcases (by omega : j = 0 ∨ j = 1 ∨ j = 2 ∨ j = 3 ∨ j = 4 ∨ j = 5 ∨ j = 6 ∨ j = 7) with rfl | rfl | rfl | rfl | rfl | rfl | rfl | rfl <;> rfl
          have HFG : Hid _ := hFG
          have HLL : Hid _ := hll
          clear hF hL hFG hll c1 c2 c3 c4 c5 c6 c7 c8
          go_loopw [7, 51] (fun ov i wr => ∃ k : Nat, k ≤ 8 ∧ i = .int .i64 k ∧ wr.ownsRow w.heap.size 5 1 ov (4 * k) (((L.take k).flatMap outM).map fun x => .int .u8 x.toNat) ∧ Ext w wr) (fun _ i _ => 8 - (intOf i).toNat)
          case atStart => exact ⟨0, by omega, rfl, World.ownsRow_nil _ _ _ _, HX5.out⟩
          case round =>
            obtain ⟨j, hj, rfl, hown, hx⟩ := hrel
            have HOWJ : Hid (wr.ownsRow w.heap.size 5 1 u7 (4 * j) (((L.take j).flatMap outM).map fun x => .int .u8 x.toNat)) := hown
            obtain ⟨ja, jc, rfl, -⟩ := Row.of_owns hown (by omega)
            have HXJ : Hid (Ext w wr) := hx
            have hszj := hx.size
            clear hown hx
            by_cases hlt : j < 8
            · have hix := index_words wr (HFG.out j hlt) hlt
              generalize hxx : L.getD j 0 = x at hix
              have HXX : Hid _ := hxx
              obtain ⟨b1, hb1⟩ : ∃ b, UInt8.ofNat (x >>> 24).toNat = b := ⟨_, rfl⟩
              obtain ⟨b2, hb2⟩ : ∃ b, UInt8.ofNat (x >>> 16).toNat = b := ⟨_, rfl⟩
              obtain ⟨b3, hb3⟩ : ∃ b, UInt8.ofNat (x >>> 8).toNat = b := ⟨_, rfl⟩
              obtain ⟨b4, hb4⟩ : ∃ b, UInt8.ofNat x.toNat = b := ⟨_, rfl⟩
              have f1 : (x.toNat : Int) / 16777216 % 256 = (b1.toNat : Int) := by rw [← hb1]; exact byte_shr x 24 (by decide)
              have f2 : (x.toNat : Int) / 65536 % 256 = (b2.toNat : Int) := by rw [← hb2]; exact byte_shr x 16 (by decide)
              have f3 : (x.toNat : Int) / 256 % 256 = (b3.toNat : Int) := by rw [← hb3]; exact byte_shr x 8 (by decide)
              have f4 : (x.toNat : Int) % 256 = (b4.toNat : Int) := by rw [← hb4, UInt8.toNat_ofNat']; exact (Int.natCast_emod _ 256).symm
              have HOUT : Hid (outM x = [b1, b2, b3, b4]) := by unfold Hid outM; rw [hb1, hb2, hb3, hb4]
              clear hb1 hb2 hb3 hb4 hxx
              have hfl : ((L.take j).flatMap outM).length = 4 * j := by
                have h9 := HOWJ.out.1
                simpa using h9
              have HFL : Hid _ := hfl
              clear hfl
              go_wp2_with (at_builtin; go_must (refine app_u8 rfl _ _ rfl w.heap.size _ (4 * j) ((L.take j).flatMap outM) rfl (HOWJ.out.alloc _) wr.heap.size 4 4 [b1, b2, b3, b4] rfl rfl (fr := (0, 0)) (alloc_at _ _) (by omega) (by simp; omega) ?_; intro v' w6 hown6 hg6))
              go_roundw
              case rel =>
                refine ⟨j + 1, by omega, by go_num, ?_, owns_ext_app (HXJ.out.alloc _) (HOWJ.out.alloc _) hg6⟩
                have h9 : (L.take (j + 1)).flatMap outM = (L.take j).flatMap outM ++ [b1, b2, b3, b4] := by
                  rw [List.take_add_one, List.flatMap_append, List.getElem?_eq_getElem (by rw [HLL.out]; exact hlt)]
                  congr 1
                  have h8 : L[j]'(by rw [HLL.out]; exact hlt) = x := by
                    rw [← HXX.out, List.getD_eq_getElem?_getD, List.getElem?_eq_getElem (by rw [HLL.out]; exact hlt)]
                    rfl
                  rw [h8]
                  simpa using HOUT.out
                rw [h9]
                exact hown6
              case measure => simp [intOf]; omega
            · have hj8 : j = 8 := by omega
              subst hj8
              go_wp2_with fail
              go_ret
              have h9 := HOWJ.out
              rw [List.take_of_length_le (by rw [HLL.out]; omega), ← HRES.out] at h9
              exact ⟨⟨_, rfl, h9⟩, HXJ.out⟩
    · have hm : (((n : Int) + (1 + k : Nat)) % 64 != 56) = true := by simp; omega
      clear hat
      go_wp2_with (at_builtin; go_must (refine app_u8 rfl _ _ rfl w1.heap.size _ (1 + k) (128 :: List.replicate k 0) rfl (HOWN.out.alloc _) wr.heap.size 1 1 [0] rfl rfl (alloc_at _ _) (by omega) (by simp; omega) ?_; intro v' w3 hown3 hg3))
      go_roundw
      case rel => exact ⟨k + 1, by omega, by have h9 : (128 :: List.replicate k 0 ++ [0] : B8) = 128 :: List.replicate (k + 1) 0 := (by rw [List.replicate_succ', List.cons_append]); rw [h9] at hown3; exact hown3, owns_ext_app (HX.out.alloc _) (HOWN.out.alloc _) hg3⟩
      case measure =>
        obtain ⟨pa3, pc3, rfl, -⟩ := Row.of_owns hown3 (by omega)
        simp [slLen]; omega

end Go.Proofs.YtdhgmpibjneplaaGreatDoor

/-! sync.Once in a block of its own; sha.New. Conditions: one goroutine. -/
namespace Go.Proofs.YtdhgmpibjneplaaGreatDoor
open Go Go.RowKit
set_option linter.unusedVariables false
set_option linter.unusedSimpArgs false
set_option linter.unusedSectionVars false

theorem disable_any (w : World) : (callFunc 242 #[]).run Tryz.prog w = .ok (.value (.tuple #[])) w := run_call_mark0 Tryz.func242 (by kernel_rfl) (by kernel_rfl) (by kernel_rfl) .disable (by kernel_rfl) w
theorem enable_any (w : World) : (callFunc 244 #[]).run Tryz.prog w = .ok (.value (.tuple #[])) w := run_call_mark0 Tryz.func244 (by kernel_rfl) (by kernel_rfl) (by kernel_rfl) .enable (by kernel_rfl) w
theorem acquire_any (a : Addr) (w : World) : (callFunc 245 #[.pointer (some a)]).run Tryz.prog w = .ok (.value (.tuple #[])) w := run_call_marked Tryz.func245 (by kernel_rfl) (by kernel_rfl) (by kernel_rfl) .acquire (by kernel_rfl) a w
theorem release_any (a : Addr) (w : World) : (callFunc 247 #[.pointer (some a)]).run Tryz.prog w = .ok (.value (.tuple #[])) w := run_call_marked Tryz.func247 (by kernel_rfl) (by kernel_rfl) (by kernel_rfl) .releaseMerge (by kernel_rfl) a w

theorem storeB_deferred (a : Addr) (x : Value) (u : FrameMode) (w : World) (hc : w.cell? a = some x) (hz : w.frozen? a = false) :
    CallsD Tryz.prog 229 #[.pointer (some a), .bool true] u w fun e u' w' => u' = u ∧ (e = .returned (.tuple #[]) ∧ w' = w.drew.setCell a (.int .u32 1)) := by
  have hc' : w.drew.cell? a = some x := by go_simp
  have hz' : w.drew.frozen? a = false := by go_simp
  have hst := run_call_store (P := Tryz.prog) Tryz.func239 (by kernel_rfl) (by kernel_rfl) (by kernel_rfl) (by kernel_rfl) (k := .u32) (y := 1) hc' hz'
  go_enter_d Tryz.func229, Tryz.ntmps229
  go_wp2
  go_region_calls
  all_goals (go_end0; exact ⟨rfl, rfl⟩)

set_option maxRecDepth 100000 in
set_option maxHeartbeats 1000000 in
theorem unlock_deferred (a : Addr) (u : FrameMode) (w : World) (hc : w.cell? a = some (.int .i32 1)) (hz : w.frozen? a = false) :
    CallsD Tryz.prog 228 #[.pointer (some a)] u w fun e u' w' => u' = u ∧ (e = .returned (.tuple #[]) ∧ w' = w.setCell a (.int .i32 0)) := by
  have hd := disable_any
  have he := enable_any
  have hr := release_any
  have hadd := run_call_add (P := Tryz.prog) Tryz.func248 (by kernel_rfl) (by kernel_rfl) (by kernel_rfl) .i32 (by kernel_rfl) (y := -1) (s := 0) hc hz (by simp [go_sem]; rfl)
  have hcv := run_convert_to_unsafe (P := Tryz.prog) (src := 287) (dst := 267) Tryz.underlying287 Tryz.underlying267 (by kernel_rfl) hc
  go_enter_d Tryz.func228, Tryz.ntmps228
  go_wp2
  go_end0
  go_wp2
  go_end0
  exact ⟨rfl, rfl⟩

set_option maxRecDepth 100000 in
set_option maxHeartbeats 1000000 in
theorem lock_free (a : Addr) (w : World) (hc : w.cell? a = some (.int .i32 0)) (hz : w.frozen? a = false) :
    Calls Tryz.prog 227 #[.pointer (some a)] w fun e w' => e = .returned (.tuple #[]) ∧ w' = w.setCell a (.int .i32 1) := by
  have hd := disable_any
  have he := enable_any
  have ha := acquire_any
  have hcas := run_call_cas_hit (P := Tryz.prog) Tryz.func243 (by kernel_rfl) (by kernel_rfl) (by kernel_rfl) .i32 (by kernel_rfl) (y := 1) hc hz
  have hc' : (w.setCell a (.int .i32 1)).cell? a = some (.int .i32 1) := World.cell?_setCell_same w a _ hc
  have hcv := run_convert_to_unsafe (P := Tryz.prog) (src := 287) (dst := 267) Tryz.underlying287 Tryz.underlying267 (by kernel_rfl) hc'
  go_enter Tryz.func227, Tryz.ntmps227
  go_wp2
  first | go_end0 | (simp only [Exit.inBlock, Exit.then]; refine bodyPost_ret (results_none rfl _ _ _) rfl ?_) | refine bodyPost_ret (results_none rfl _ _ _) rfl ?_
  go_wp2
  go_end0
  exact ⟨rfl, rfl⟩

/-- The roots of the primes stand where the program laid them. -/
structure EnvS (w : World) : Prop where
  sq : ∃ fr, w.heap[1]? = some (.cells (shaH.map U32).toArray 233 fr)
  cu : ∃ fr, w.heap[2]? = some (.cells (shaK.map U32).toArray 234 fr)
theorem EnvS.fr {O : Nat → Prop} {w w' : World} (h : EnvS w) (hf : Fr O w w') (ho : ∀ k, O k → 3 ≤ k) : EnvS w' := by
  obtain ⟨f0, h0⟩ := h.sq
  obtain ⟨f1, h1⟩ := h.cu
  exact ⟨⟨f0, hf.row h0 (fun hh => by have := ho _ hh; revert this; decide)⟩, ⟨f1, hf.row h1 (fun hh => by have := ho _ hh; revert this; decide)⟩⟩
theorem EnvS.ext {w w' : World} (h : EnvS w) (hx : Ext w w') : EnvS w' := h.fr (O := fun _ => False) (Fr.of_ext hx) (fun _ hh => hh.elim)
theorem EnvS.two {w : World} (h : EnvS w) : 3 ≤ w.heap.size := by
  obtain ⟨f1, h1⟩ := h.cu
  obtain ⟨f0, h0⟩ := h.sq
  have g1 := (Array.getElem?_eq_some_iff.1 h1).1
  have g0 := (Array.getElem?_eq_some_iff.1 h0).1
  omega
/-- A Once's own cells; a constants' block that is not yet filled, or is. -/
def oCells (d m s : Int) : List Value := [.int .u32 d, .int .i32 m, .int .u32 s]
def eCells (o X : List Value) : Array Value := (o ++ X).toArray

set_option maxRecDepth 100000 in
set_option maxHeartbeats 2000000 in
theorem fill_any (b : Nat) (o X : List Value) (w : World) (ho : o.length = 3) (hX : X.length = 72) (hE : EnvS w) (hb : 3 ≤ b) (hg : w.heap[b]? = some (.cells (eCells o X) 236 (0, 0))) :
    Calls Tryz.prog 179 #[.pointer (some ⟨b, 0, none⟩)] w fun e w' => e = .returned (.tuple #[]) ∧ w'.heap[b]? = some (.cells (kCells o) 236 (0, 0)) ∧ Fr (fun k => k = b) w w' := by
  obtain ⟨f0, h0⟩ := hE.sq
  obtain ⟨f1, h1⟩ := hE.cu
  have hs8 : (shaH.map U32).toArray.size = 8 := by simp; rfl
  have hs64 : (shaK.map U32).toArray.size = 64 := by simp; rfl
  have hone8 : ∀ v ∈ (shaH.map U32).toArray.toList, v.oneCell' = true := by intro v hv; simp only [List.toList_toArray, List.mem_map] at hv; obtain ⟨x, -, rfl⟩ := hv; rfl
  have hone64 : ∀ v ∈ (shaK.map U32).toArray.toList, v.oneCell' = true := by intro v hv; simp only [List.toList_toArray, List.mem_map] at hv; obtain ⟨x, -, rfl⟩ := hv; rfl
  generalize hV8 : (shaH.map U32).toArray = V8 at h0 hs8 hone8
  generalize hV64 : (shaK.map U32).toArray = V64 at h1 hs64 hone64
  have hsz : (eCells o X).size = 75 := by unfold eCells; simp [ho, hX]
  have hsz2 : (eCells o (V8.toList ++ X.drop 8)).size = 75 := by unfold eCells; simp [ho, hX, hs8]
  have hl8 : V8.toList.length = 8 := by rw [Array.length_toList]; exact hs8
  have hl64 : V64.toList.length = 64 := by rw [Array.length_toList]; exact hs64
  have hn1 : eCells o (V8.toList ++ X.drop 8) = ((eCells o X).toList.take 3 ++ V8.toList ++ (eCells o X).toList.drop (3 + V8.size)).toArray := by
    unfold eCells
    simp only [List.toList_toArray]
    have hd : (o ++ X).drop (3 + V8.size) = X.drop 8 := by
      have hdo : o.drop (3 + 8) = [] := List.drop_eq_nil_of_le (by omega)
      rw [hs8, List.drop_append, hdo, List.nil_append, ho]
    rw [List.take_left' ho, hd, List.append_assoc]
  have hn2 : kCells o = ((eCells o (V8.toList ++ X.drop 8)).toList.take 11 ++ V64.toList ++ (eCells o (V8.toList ++ X.drop 8)).toList.drop (11 + V64.size)).toArray := by
    have hk : kCells o = (o ++ (V8.toList ++ V64.toList)).toArray := by rw [← hV8, ← hV64]; rfl
    rw [hk]
    unfold eCells
    simp only [List.toList_toArray]
    have hd : (o ++ (V8.toList ++ X.drop 8)).drop (11 + V64.size) = [] := List.drop_eq_nil_of_le (by rw [List.length_append, List.length_append, List.length_drop]; omega)
    have ht : (o ++ (V8.toList ++ X.drop 8)).take 11 = o ++ V8.toList := by rw [← List.append_assoc]; exact List.take_left' (by rw [List.length_append]; omega)
    rw [hd, ht, List.append_nil, List.append_assoc]
  have HN1 : Hid _ := hn1
  have HN2 : Hid _ := hn2
  clear hn1 hn2 hV8 hV64 hE
  go_enter Tryz.func179, Tryz.ntmps179
  go_wp2_with (first
    | (refine wpList_load_row rfl 233 _ rfl 1 rfl 233 V8 f0 _ h0 Tryz.underlying233 rfl (by rw [hs8]; exact size_a8) ?_)
    | (refine wpList_load_row rfl 234 _ rfl 2 rfl 234 V64 f1 _ h1 Tryz.underlying234 rfl (by rw [hs64]; exact size_a64) ?_)
    | (refine store_all rfl 233 _ _ rfl b 3 rfl V8 rfl hone8 _ (eCells o X) hg (by omega) (by rw [hs8]; exact size_a8) _ HN1.out ?_; intro w2 hg2 hgr2)
    | (refine store_all rfl 234 _ _ rfl b 11 rfl V64 rfl hone64 _ (eCells o (V8.toList ++ X.drop 8)) hg2 (by omega) (by rw [hs64]; exact size_a64) _ HN2.out ?_; intro w3 hg3 hgr3))
  go_end0
  have hu : ∀ {w9 : World} {cs : Array Value}, w9.heap[b]? = some (.cells cs 236 (0, 0)) → ¬ IsU8 w9 b := fun h => cells_u8 h (by kernel_rfl)
  exact ⟨rfl, hg3, ((Fr.refl _ w).step hgr2 (fun j hj => by cases hj; exact .inl rfl) (by rintro j hj; cases hj; exact hu hg)).step hgr3 (fun j hj => by cases hj; exact .inl rfl) (by rintro j hj; cases hj; exact hu hg2)⟩

/-- A Once's cells in a constants' block. -/
theorem e_cell {w : World} {b j : Nat} {o X : List Value} {v : Value} (hg : w.heap[b]? = some (.cells (eCells o X) 236 (0, 0))) (hj : (o ++ X)[j]? = some v) : w.cell? ⟨b, j, none⟩ = some v :=
  (cell_of_row _ _ j _ _ _ hg).trans (by unfold eCells; simpa using hj)
theorem e_frz {w : World} {b j : Nat} {cs : Array Value} (hg : w.heap[b]? = some (.cells cs 236 (0, 0))) : w.frozen? ⟨b, j, none⟩ = false := by simp [World.frozen?, hg]
theorem e_put0 {w : World} {b : Nat} {d m s x : Int} {X : List Value} (hg : w.heap[b]? = some (.cells (eCells (oCells d m s) X) 236 (0, 0))) : (w.setCell ⟨b, 0, none⟩ (.int .u32 x)).heap[b]? = some (.cells (eCells (oCells x m s) X) 236 (0, 0)) := by
  rw [heap_setCell_same w b 0 _ _ _ hg]; simp [eCells, oCells]
theorem e_put1 {w : World} {b : Nat} {d m s x : Int} {X : List Value} (hg : w.heap[b]? = some (.cells (eCells (oCells d m s) X) 236 (0, 0))) : (w.setCell ⟨b, 1, none⟩ (.int .i32 x)).heap[b]? = some (.cells (eCells (oCells d x s) X) 236 (0, 0)) := by
  rw [heap_setCell_same w b 1 _ _ _ hg]; simp [eCells, oCells]
theorem e_fr {w : World} {b j : Nat} {v : Value} {cs : Array Value} (hg : w.heap[b]? = some (.cells cs 236 (0, 0))) {O : Nat → Prop} {w0 : World} (h : Fr O w0 w) (hb : O b) : Fr O w0 (w.setCell ⟨b, j, none⟩ v) :=
  h.step (setCell_grown w b j v) (fun k hk => by cases hk; exact .inl hb) (by rintro k hk; cases hk; exact cells_u8 hg (by kernel_rfl))

set_option maxRecDepth 100000 in
theorem loadB_any (a : Addr) (x : Int) (y : Bool) (w : World) (h0 : w.cell? a = some (.int .u32 x)) (hx : (x != 0) = y) :
    Calls Tryz.prog 204 #[.pointer (some a)] w fun e w' => e = .returned (.bool y) ∧ w' = w := by
  have hl := run_call_load (P := Tryz.prog) Tryz.func226 (by kernel_rfl) (by kernel_rfl) (by kernel_rfl) .u32 (by kernel_rfl) h0
  go_enter Tryz.func204, Tryz.ntmps204
  go_wp2
  go_ret
  exact ⟨by first | rfl | rw [hx], rfl⟩

set_option maxRecDepth 100000 in
set_option maxHeartbeats 2000000 in
theorem slow_fill (b : Nat) (s : Int) (X : List Value) (w : World) (hX : X.length = 72) (hE : EnvS w) (hb : 3 ≤ b) (hg : w.heap[b]? = some (.cells (eCells (oCells 0 0 s) X) 236 (0, 0))) :
    Calls Tryz.prog 205 #[.pointer (some ⟨b, 0, none⟩), .func (.func 179) #[.pointer (some ⟨b, 0, none⟩)] #[]] w fun e w' => e = .returned (.tuple #[]) ∧ w'.heap[b]? = some (.cells (kCells (oCells 1 0 s)) 236 (0, 0)) ∧ Fr (fun k => k = b) w w' := by
  have hg1 := e_put1 (x := 1) hg
  have hf1 : Fr (fun k => k = b) w (w.setCell ⟨b, 1, none⟩ (.int .i32 1)) := e_fr hg (Fr.refl _ w) rfl
  have hE1 : EnvS (w.setCell ⟨b, 1, none⟩ (.int .i32 1)) := hE.fr hf1 (fun k hk => by subst hk; exact hb)
  have hnot : ∀ (x : Bool) (w : World), (Op.unary .not (.bool x)).run Tryz.prog w = .ok (.bool (!x)) w := fun _ _ => rfl
  have HG1 : Hid _ := hg1
  have HF1 : Hid _ := hf1
  have HG : Hid _ := hg
  have HE1 : Hid (EnvS (w.setCell ⟨b, 1, none⟩ (.int .i32 1))) := hE1
  clear hg1 hf1 hE hE1 hg
  go_enter_defers Tryz.func205, Tryz.ntmps205
  go_wp2_with (first | (go_at_call 227; go_must (refine (lock_free ⟨b, 1, none⟩ w (e_cell HG.out rfl) (e_frz HG.out)).mono ?_; rintro e w' ⟨rfl, rfl⟩)) | (go_at_call 204; go_must (refine (loadB_any ⟨b, 0, none⟩ 0 false _ (e_cell HG1.out rfl) rfl).mono ?_; rintro e w' ⟨rfl, rfl⟩)) | (go_at_call 179; go_must (refine (fill_any b (oCells 0 1 s) X _ rfl hX HE1.out hb HG1.out).mono ?_; rintro e w2 ⟨rfl, hg2, hf2⟩)))
  have hg2e : w2.heap[b]? = some (.cells (eCells (oCells 0 1 s) (shaH.map U32 ++ shaK.map U32)) 236 (0, 0)) := hg2
  have hg2d : w2.drew.heap[b]? = some (.cells (eCells (oCells 0 1 s) (shaH.map U32 ++ shaK.map U32)) 236 (0, 0)) := hg2
  have hg3 := e_put0 (x := 1) hg2d
  have hg4 := e_put1 (x := 0) hg3
  have hf4 : Fr (fun k => k = b) w (((w2.drew.setCell ⟨b, 0, none⟩ (.int .u32 1))).setCell ⟨b, 1, none⟩ (.int .i32 0)) := e_fr hg3 (e_fr hg2d ((HF1.out.trans (hf2.mono (fun k hk => .inl hk))).ext (Ext.refl _).drew) rfl) rfl
  refine leaves_cons (f := 229) (args := #[.pointer (some ⟨b, 0, none⟩), .bool true]) (by simp) (by simp [go_sem]) ?_
  refine (storeB_deferred ⟨b, 0, none⟩ (.int .u32 0) .returning w2 (e_cell hg2e rfl) (e_frz hg2e)).mono ?_
  rintro e u' w'' ⟨rfl, rfl, rfl⟩
  refine leaves_cons (f := 228) (args := #[.pointer (some ⟨b, 1, none⟩)]) (by simp [Go.settle]) (by simp [go_sem]) ?_
  refine (unlock_deferred ⟨b, 1, none⟩ _ _ (e_cell hg3 rfl) (e_frz hg3)).mono ?_
  rintro e u' w'' ⟨rfl, rfl, rfl⟩
  simp [Leaves, Go.settle, results, Tryz.results205]
  exact ⟨hg4, hf4⟩

set_option maxRecDepth 100000 in
set_option maxHeartbeats 2000000 in
theorem do_fill (b : Nat) (s : Int) (X : List Value) (w : World) (hX : X.length = 72) (hE : EnvS w) (hb : 3 ≤ b) (hg : w.heap[b]? = some (.cells (eCells (oCells 0 0 s) X) 236 (0, 0))) :
    Calls Tryz.prog 156 #[.pointer (some ⟨b, 0, none⟩), .func (.func 179) #[.pointer (some ⟨b, 0, none⟩)] #[]] w fun e w' => e = .returned (.tuple #[]) ∧ w'.heap[b]? = some (.cells (kCells (oCells 1 0 s)) 236 (0, 0)) ∧ Fr (fun k => k = b) w w' := by
  have hnot : ∀ (x : Bool) (w : World), (Op.unary .not (.bool x)).run Tryz.prog w = .ok (.bool (!x)) w := fun _ _ => rfl
  have HG : Hid _ := hg
  have HE : Hid (EnvS w) := hE
  clear hg hE
  go_enter Tryz.func156, Tryz.ntmps156
  go_wp2_with (first | (go_at_call 204; go_must (refine (loadB_any ⟨b, 0, none⟩ 0 false _ (e_cell HG.out rfl) rfl).mono ?_; rintro e w' ⟨rfl, rfl⟩)) | (go_at_call 205; go_must (refine (slow_fill b s X _ hX HE.out hb HG.out).mono ?_; rintro e w2 ⟨rfl, hg2, hf2⟩)))
  go_end0
  exact ⟨rfl, hg2, hf2⟩

end Go.Proofs.YtdhgmpibjneplaaGreatDoor

/-! sha.New, Sum, ID. Conditions: at most 100000 bytes; the roots of the primes as laid. -/
namespace Go.Proofs.YtdhgmpibjneplaaGreatDoor
open Go Go.RowKit
set_option linter.unusedVariables false
set_option linter.unusedSimpArgs false
set_option linter.unusedSectionVars false

theorem zero_c : Tryz.zeroCells236 = eCells (oCells 0 0 0) (List.replicate 72 (.int .u32 0)) := by first | rfl | kernel_rfl
def zX : List Value := List.replicate 72 (.int .u32 0)

set_option maxRecDepth 100000 in
set_option maxHeartbeats 2000000 in
theorem new_sha (w : World) (hE : EnvS w) : Calls Tryz.prog 138 #[] w fun e w' => (∃ hb cb : Nat, e = .returned (.pointer (some ⟨hb, 0, none⟩)) ∧ hb ≠ cb ∧ w.heap.size ≤ hb ∧ w.heap.size ≤ cb ∧ w'.heap[cb]? = some (.cells (kCells (oCells 1 0 0)) 236 (0, 0)) ∧ w'.heap[hb]? = some (.cells (hCells cb shaH (.slice none 0 0) (0 : Nat)) 238 (0, 0))) ∧ Ext w w' := by
  obtain ⟨w1, hw1⟩ : ∃ w1, w1 = w.alloc (.cells (eCells (oCells 0 0 0) zX) 236) := ⟨_, rfl⟩
  have hx1 : Ext w w1 := by rw [hw1]; exact (Ext.refl _).alloc _
  have hg1 : w1.heap[w.heap.size]? = some (.cells (eCells (oCells 0 0 0) zX) 236 (0, 0)) := by rw [hw1]; exact alloc_at _ _
  have hE1 : EnvS w1 := hE.ext hx1
  have h2 := hE.two
  have HG1 : Hid _ := hg1
  have HE1 : Hid (EnvS w1) := hE1
  have HX1 : Hid (Ext w w1) := hx1
  have HW1 : Hid _ := hw1
  clear hg1 hE1 hx1 hw1 hE
  have hmf : ∀ (fn : Fn) (first cap : Array Value) (w : World), (Instr.makeFunc fn first cap).run Tryz.prog w = .ok (.func fn first cap) w := fun _ _ _ _ => rfl
  go_enter Tryz.func138, Tryz.ntmps138
  go_upto_region 2 with fail
  rw [show w.alloc (.cells Tryz.zeroCells236 236) = w1 from (congrArg (fun c => w.alloc (.cells c 236)) zero_c).trans HW1.out.symm]
  generalize Tryz.zeroCells236 = zc
  go_upto_region 3 with (go_at_call 156; go_must (refine (do_fill w.heap.size 0 zX w1 rfl HE1.out h2 HG1.out).mono ?_; rintro e w2 ⟨rfl, hg2, hf2⟩))
  have hx2 : Ext w w2 := Ext.of_fr HX1.out hf2 (fun k hk => by cases hk; exact Nat.le_refl _)
  obtain ⟨i0, i1, i2, i3, i4, i5, i6, i7, hH⟩ := list8 (show shaH.length = 8 from rfl)
  have hk : kCells (oCells 1 0 0) = (oCells 1 0 0 ++ ([i0, i1, i2, i3, i4, i5, i6, i7].map U32 ++ shaK.map U32)).toArray := by unfold kCells; rw [hH]
  have hg2' := hg2
  rw [hk] at hg2'
  have c1 : w2.cell? ⟨w.heap.size, 3, none⟩ = some (U32 i0) := (cell_of_row _ _ 3 _ _ _ hg2').trans rfl
  have c2 : w2.cell? ⟨w.heap.size, 4, none⟩ = some (U32 i1) := (cell_of_row _ _ 4 _ _ _ hg2').trans rfl
  have c3 : w2.cell? ⟨w.heap.size, 5, none⟩ = some (U32 i2) := (cell_of_row _ _ 5 _ _ _ hg2').trans rfl
  have c4 : w2.cell? ⟨w.heap.size, 6, none⟩ = some (U32 i3) := (cell_of_row _ _ 6 _ _ _ hg2').trans rfl
  have c5 : w2.cell? ⟨w.heap.size, 7, none⟩ = some (U32 i4) := (cell_of_row _ _ 7 _ _ _ hg2').trans rfl
  have c6 : w2.cell? ⟨w.heap.size, 8, none⟩ = some (U32 i5) := (cell_of_row _ _ 8 _ _ _ hg2').trans rfl
  have c7 : w2.cell? ⟨w.heap.size, 9, none⟩ = some (U32 i6) := (cell_of_row _ _ 9 _ _ _ hg2').trans rfl
  have c8 : w2.cell? ⟨w.heap.size, 10, none⟩ = some (U32 i7) := (cell_of_row _ _ 10 _ _ _ hg2').trans rfl
  have hlt2 := (Array.getElem?_eq_some_iff.1 hg2).1
  obtain ⟨w3, hw3⟩ : ∃ w3, w3 = w2.alloc (.cells (hCells w.heap.size [i0, i1, i2, i3, i4, i5, i6, i7] (.slice none 0 0) (0 : Nat)) 238) := ⟨_, rfl⟩
  have hx3 : Ext w2 w3 := by rw [hw3]; exact (Ext.refl _).alloc _
  have hg3 : w3.heap[w2.heap.size]? = some (.cells (hCells w.heap.size [i0, i1, i2, i3, i4, i5, i6, i7] (.slice none 0 0) (0 : Nat)) 238 (0, 0)) := by rw [hw3]; exact alloc_at _ _
  have HX2 : Hid (Ext w w2) := hx2
  have HX3 : Hid (Ext w2 w3) := hx3
  have HG3 : Hid _ := hg3
  have HW3 : Hid _ := hw3
  have HG2 : Hid _ := hg2
  have HH : Hid _ := hH
  have hs2 := hx2.size
  clear hg2 hg2' hk hf2 hH hx2 hx3 hg3 hw3
  go_wp2_with fail
  go_ret
  rw [HH.out]
  have hfin : w2.alloc (.cells (hCells w.heap.size [i0, i1, i2, i3, i4, i5, i6, i7] (.slice none 0 0) (0 : Nat)) 238) = w3 := HW3.out.symm
  refine ⟨⟨w2.heap.size, w.heap.size, rfl, by omega, hs2, Nat.le_refl _, ?_, ?_⟩, ?_⟩
  · exact hfin ▸ Ext.row HX3.out HG2.out
  · exact hfin ▸ HG3.out
  · exact hfin ▸ HX2.out.trans HX3.out

theorem absorb_rest (h : List UInt32) (l : B8) : (absorb h l).2.length < 64 := by
  induction h, l using absorb.induct with
  | case1 h l hc ih => rw [absorb, if_pos hc]; exact ih
  | case2 h l hc => rw [absorb, if_neg hc]; show l.length < 64; omega

set_option maxRecDepth 100000 in
set_option maxHeartbeats 2000000 in
theorem sum_sha (v : Value) (l : B8) (w : World) (hE : EnvS w) (hv : IsBytes w v l) (hl : l.length ≤ 10000000) :
    Calls Tryz.prog 97 #[v] w fun e w' => (∃ v', e = .returned v' ∧ w'.ownsRow w.heap.size 5 1 v' 32 ((sumM l).map fun x => .int .u8 x.toNat)) ∧ Ext w w' := by
  have HE : Hid (EnvS w) := hE
  have HV : Hid (IsBytes w v l) := hv
  obtain ⟨a, cap, rfl, h1, h2, h3, h4⟩ := hv.get
  have hout : ∀ (k : Nat), w.heap.size ≤ k → ∀ w1, Out (fun j => j = k) w1 (.slice a l.length cap) := by
    intro k hk w1 a' n' c' he hn'
    simp only [Value.slice.injEq] at he
    obtain ⟨rfl, rfl, rfl⟩ := he
    obtain ⟨b, o, hb, hc⟩ := h4 0 (by omega)
    cases hb
    have hlt := World.block_lt_of_cell? _ _ (hc 0 (by omega))
    exact .inl (fun h => by dsimp only at h hlt; omega)
  have HOUT : Hid (∀ (k : Nat), w.heap.size ≤ k → ∀ w1, Out (fun j => j = k) w1 (.slice a l.length cap)) := hout
  clear h4 hout hv hE
  go_enter Tryz.func97, Tryz.ntmps97
  go_upto_region 2 with (go_at_call 138; go_must (refine (new_sha w HE.out).mono ?_; rintro e w1 ⟨⟨hb, cb, rfl, hne, hb1, hb2, hgc, hgh⟩, hx1⟩))
  have HGC : Hid _ := hgc
  have HGH : Hid _ := hgh
  have HX1 : Hid (Ext w w1) := hx1
  clear hgc hgh hx1
  go_upto_region 3 with (go_at_call 139; go_must (refine (write_sha hb cb shaH (.slice none 0 0) (.slice a l.length cap) [] l 0 (oCells 1 0 0) w1 rfl rfl hne (by omega) HGH.out HGC.out (IsBytes.nil _) (TypB.nil _ _ _) (HV.out.ext HX1.out) (HOUT.out hb hb1 w1) (by simp) hl).mono ?_; rintro e w2 ⟨rfl, st2, rv2, r2, hw2, hab⟩))
  rw [List.nil_append] at hw2 hab
  have hx2 : Ext w w2 := Ext.of_fr HX1.out hw2.fr (fun k hk => by cases hk; exact hb1)
  have hgc2 := hw2.fr.row HGC.out (fun h => hne h.symm)
  have hgh2 : w2.heap[hb]? = some (.cells (hCells cb st2 rv2 (l.length : Nat)) 238 (0, 0)) := by
    have h9 := hw2.cells
    rwa [show (((0 : Nat) : Int) + (l.length : Int)) = ((l.length : Nat) : Int) by omega] at h9
  have hr2 : r2.length < 64 := by
    have h9 := absorb_rest shaH l
    rw [← hab] at h9
    exact h9
  have hsum : sumM l = (absorb st2 (r2 ++ padM l.length)).1.flatMap outM := by unfold sumM; rw [← hab]
  have HX2 : Hid (Ext w w2) := hx2
  have HW2 : Hid (Wr w1 w2 hb cb (absorb shaH l) (((0 : Nat) : Int) + l.length) st2 rv2 r2) := hw2
  have HGC2 : Hid _ := hgc2
  have HGH2 : Hid _ := hgh2
  have HSUM : Hid _ := hsum
  have hs2 := hx2.size
  clear hx2 hgc2 hgh2 hsum hw2 hab
  go_wp2_with (go_at_call 140; go_must (refine (sumH_any hb cb st2 rv2 r2 l.length (oCells 1 0 0) w2 HW2.out.hst rfl hl HGH2.out HGC2.out HW2.out.bytes (by omega)).mono ?_; rintro e w3 ⟨⟨v3, rfl, hown3⟩, hx3⟩))
  go_ret
  rw [HSUM.out]
  exact ⟨⟨_, rfl, owns_low hown3 hs2⟩, HX2.out.trans hx3⟩

theorem sum32 (l : B8) {w : World} {base : Nat} {v : Value} (h : w.ownsRow base 5 1 v 32 ((sumM l).map fun x => .int .u8 x.toNat)) : (sumM l).length = 32 := by
  have h9 := h.1
  simpa using h9

set_option maxRecDepth 100000 in
set_option maxHeartbeats 2000000 in
theorem id_sha (v : Value) (l : B8) (w : World) (hE : EnvS w) (hv : IsBytes w v l) (hl : l.length ≤ 10000000) :
    Calls Tryz.prog 63 #[v] w fun e w' => e = .returned (S8 (shaM l)) ∧ Ext w w' := by
  have HE : Hid (EnvS w) := hE
  have HV : Hid (IsBytes w v l) := hv
  clear hv hE
  go_enter Tryz.func63, Tryz.ntmps63
  go_wp2_with (first
    | (go_at_call 97; go_must (refine (sum_sha v l w HE.out HV.out hl).mono ?_; rintro e w1 ⟨⟨v1, rfl, hown1⟩, hx1⟩; have h32 := sum32 l hown1; have hb1 : IsBytes w1 v1 (sumM l) := by unfold IsBytes; rw [h32]; exact Row.of_owns hown1 (by omega)))
    | (go_at_call 96; go_must (refine (hex_any v1 (sumM l) w1 hb1 (by omega)).mono ?_; rintro e w2 ⟨rfl, hx2⟩)))
  go_ret
  exact ⟨rfl, hx1.trans hx2⟩

end Go.Proofs.YtdhgmpibjneplaaGreatDoor

/-! obj: what may be. Conditions: as each theorem states. -/
namespace Go.Proofs.YtdhgmpibjneplaaGreatDoor
open Go Go.RowKit Go.Sort
set_option linter.unusedVariables false
set_option linter.unusedSimpArgs false
set_option linter.unusedSectionVars false

def okC (c : UInt8) : Bool := decide (32 ≤ c.toNat) && decide (c.toNat ≤ 126)
theorem msg_bad {s : ByteArray} {k : Nat} (h : k < s.size) (hb : okC s[k] = false) : msgOk s.data.toList = false := by
  unfold msgOk
  rw [Bool.and_eq_false_iff]
  refine .inl (List.all_eq_false.2 ⟨s[k], ?_, by show ¬ okC _ = true; rw [hb]; simp⟩)
  have : s.data.toList[k]? = some s[k] := by
    rw [List.getElem?_eq_getElem (by simpa using h)]; rfl
  exact List.mem_of_getElem? this
set_option maxHeartbeats 400000 in
theorem mayMsg_s (s : ByteArray) (w : World) (hs : s.size < 4294967281) :
    Calls Tryz.prog 154 #[.string s] w fun e w' => e = .returned (.bool (msgOk s.data.toList)) ∧ w' = w := by
  go_enter Tryz.func154, Tryz.ntmps154
  go_wp2
  go_loop [6] (fun i => ∃ k : Nat, k ≤ s.size ∧ i = .int .i64 k ∧ (s.data.toList.take k).all okC = true) (fun i => s.size - (intOf i).toNat)
  case atStart => exact ⟨0, Nat.zero_le _, rfl, rfl⟩
  case round =>
    obtain ⟨k, hk, rfl, hn⟩ := hrel
    have HN : Hid _ := hn
    clear hn
    by_cases hlt : k < s.size
    · by_cases h1 : (s[k].toNat : Int) < 32
      · go_wp2
        go_ret
        exact ⟨ret_b (msg_bad hlt (by unfold okC; rw [decide_eq_false (by omega)]; rfl)).symm, rfl⟩
      · by_cases h2 : (126 : Int) < s[k].toNat
        · go_wp2
          go_ret
          exact ⟨ret_b (msg_bad hlt (by unfold okC; rw [decide_eq_false (by omega : ¬ s[k].toNat ≤ 126)]; simp)).symm, rfl⟩
        · go_wp2
          go_round
          case rel =>
            exact ⟨k + 1, by omega, by go_num, by rw [take_snoc s k hlt, List.all_append, HN.out]; simp [okC]; omega⟩
          case measure => simp [intOf]; omega
    · have hkk : k = s.size := by omega
      have hall : s.data.toList.all okC = true := by
        have := HN.out
        rwa [hkk, List.take_of_length_le (by simp)] at this
      have HA : Hid _ := hall
      clear hall HN hkk
      go_wp2
      go_ret
      refine ⟨ret_b ?_, rfl⟩
      show _ = (s.data.toList.all okC && decide (s.data.toList.length ≤ 200))
      rw [HA.out]
      have hsz : s.data.toList.length = s.size := by simp
      rw [hsz, Bool.true_and]
      exact decide_eq_decide.2 (by omega)
theorem mayMsg_any (l : B8) (w : World) (hs : l.length < 4294967281) :
    Calls Tryz.prog 154 #[S8 l] w fun e w' => e = .returned (.bool (msgOk l)) ∧ w' = w := mayMsg_s ⟨l.toArray⟩ w hs

/-! ### Parents -/
theorem rises_snoc : ∀ (l : List B8) (a b : B8), risesB (l ++ [a, b]) = (risesB (l ++ [a]) && ltB a b)
  | [], a, b => by simp [risesB]
  | [x], a, b => by simp [risesB]
  | x :: y :: l, a, b => by
    have h := rises_snoc (y :: l) a b
    show (ltB x y && risesB (y :: l ++ [a, b])) = (ltB x y && risesB (y :: l ++ [a]) && ltB a b)
    rw [h, Bool.and_assoc]
theorem rises_take {l : List B8} {k : Nat} {a b : B8} (ha : l[k]? = some a) (hb : l[k + 1]? = some b) : risesB (l.take (k + 2)) = (risesB (l.take (k + 1)) && ltB a b) := by
  have h1 : l.take (k + 1) = l.take k ++ [a] := by rw [List.take_add_one, ha]; rfl
  have h2 : l.take (k + 2) = l.take k ++ [a, b] := by rw [List.take_add_one, hb, h1, List.append_assoc]; rfl
  rw [h1, h2, rises_snoc]
theorem rises_cut : ∀ (l : List B8) (k : Nat), risesB l = true → risesB (l.take k) = true
  | [], k, _ => by rw [List.take_nil]; rfl
  | [x], k, _ => by cases k <;> simp [risesB]
  | x :: y :: l, 0, _ => rfl
  | x :: y :: l, 1, _ => rfl
  | x :: y :: l, k + 2, h => by
    have h : (ltB x y && risesB (y :: l)) = true := h
    rw [Bool.and_eq_true] at h
    have ih := rises_cut (y :: l) (k + 1) h.2
    show (ltB x y && risesB (y :: (l.take k))) = true
    rw [h.1]
    exact ih
/-- What was read so far is fine: hashes that rise. -/
def parT (l : List B8) (k : Nat) : Bool := (l.take k).all validB && risesB (l.take k)
theorem parT_bad {l : List B8} {k : Nat} (h : parT l k = false) : parsOk l = false := by
  unfold parT at h
  unfold parsOk
  rw [Bool.and_eq_false_iff] at h ⊢
  rcases h with h | h
  · left
    rw [List.all_eq_false] at h ⊢
    obtain ⟨x, hx, hv⟩ := h
    exact ⟨x, List.mem_of_mem_take hx, hv⟩
  · right
    rw [Bool.and_eq_false_iff]
    left
    cases hq : risesB l with
    | false => rfl
    | true => rw [rises_cut l k hq] at h; cases h
theorem parT_step {l : List B8} {k : Nat} {x : B8} (hx : l[k]? = some x) : parT l (k + 1) = (parT l k && (validB x && (decide (k = 0) || ltB (l.getD (k - 1) []) x))) := by
  unfold parT
  have h1 : l.take (k + 1) = l.take k ++ [x] := by rw [List.take_add_one, hx]; rfl
  rw [h1, List.all_append]
  simp only [List.all_cons, List.all_nil, Bool.and_true]
  cases k with
  | zero => simp [risesB]
  | succ j =>
    have hj : j < l.length := by have := (List.getElem?_eq_some_iff.1 hx).1; omega
    have hy : l[j]? = some (l.getD j []) := by rw [List.getD_eq_getElem?_getD, List.getElem?_eq_getElem hj]; rfl
    have h2 := rises_take hy hx
    rw [h1] at h2
    rw [h2]
    simp only [Nat.add_one_sub_one, Nat.add_eq_zero_iff, Nat.one_ne_zero, and_false, decide_false, Bool.false_or]
    cases (l.take (j + 1)).all validB <;> cases validB x <;> cases risesB (l.take (j + 1)) <;> cases ltB (l.getD j []) x <;> rfl

theorem leT_cases (x y : B8) : (ltB y x = true ∧ Op.bytesLess x y = false ∧ (x == y) = false) ∨ (ltB y x = false ∧ Op.bytesLess x y = true) ∨ (ltB y x = false ∧ Op.bytesLess x y = false ∧ (x == y) = true) := by
  rw [less_ltB]
  cases h1 : ltB y x with
  | true =>
    refine .inl ⟨rfl, ltB_asymm h1, ?_⟩
    rw [beq_eq_false_iff_ne]
    exact fun e => (ltB_ne h1) e.symm
  | false =>
    by_cases he : x = y
    · subst he
      exact .inr (.inr ⟨rfl, by rw [h1], by simp⟩)
    · exact .inr (.inl ⟨rfl, ltB_total h1 (fun e => he e.symm)⟩)
set_option maxRecDepth 100000 in
set_option maxHeartbeats 2000000 in
theorem mayParents_any (v : Value) (l : List B8) (w : World) (hv : IsStrs w v l) (hs : ∀ s ∈ l, s.length ≤ 10000000) :
    Calls Tryz.prog 153 #[v] w fun e w' => e = .returned (.bool (parsOk l)) ∧ Ext w w' := by
  obtain ⟨a, c, rfl, l1, l2, l3, hg⟩ := hv.get
  have HG : Hid _ := hg
  have HS : Hid _ := hs
  clear hv hg hs
  go_enter Tryz.func153, Tryz.ntmps153
  go_wp2
  go_loopw [7] (fun i wr => ∃ k : Nat, k ≤ l.length ∧ i = .int .i64 k ∧ Hid (parT l k = true) ∧ Hid (Ext w wr)) (fun i _ => l.length - (intOf i).toNat)
  case atStart => exact ⟨0, Nat.zero_le _, rfl, rfl, Ext.refl _⟩
  case round =>
    obtain ⟨k, hk, rfl, HT, HX⟩ := hrel
    by_cases hlt : k < l.length
    · obtain ⟨x, hx⟩ : ∃ x, l[k]? = some x := ⟨_, List.getElem?_eq_getElem hlt⟩
      obtain ⟨bb, oo, rfl, hc⟩ := HG.out k hlt
      have hxl := HS.out x (List.mem_of_getElem? hx)
      have y1 := HX.out.cell (hc k hlt)
      rw [show l.getD k [] = x by rw [List.getD_eq_getElem?_getD, hx]; rfl] at y1
      have hst := parT_step hx
      rw [HT.out, Bool.true_and] at hst
      obtain ⟨vx, hvx⟩ : ∃ vx, validB x = vx := ⟨_, rfl⟩
      rw [hvx] at hst
      have HVX : Hid _ := hvx
      have HST : Hid _ := hst
      have HC : Hid _ := hc
      clear hst hvx hx hc
      go_wp2_with fail
      go_at_call 65
      refine (valid_any x wr (by omega)).mono ?_
      rw [HVX.out]
      rintro e w1 ⟨rfl, hx1⟩
      have HX1 : Hid (Ext w w1) := HX.out.trans hx1
      have y2 := hx1.cell y1
      clear hx1 y1
      cases vx with
      | false =>
        have HF : Hid (parsOk l = false) := parT_bad (k := k + 1) (by rw [HST.out]; rfl)
        go_wp2
        go_ret
        exact ⟨ret_b HF.out.symm, HX1.out⟩
      | true =>
        by_cases hk0 : k = 0
        · subst hk0
          have HP : Hid (parT l 1 = true) := by unfold Hid; rw [HST.out]; rfl
          go_wp2
          go_roundw
          case rel => exact ⟨1, by omega, by go_num, HP, HX1⟩
          case measure => simp [intOf]; omega
        · obtain ⟨j, rfl⟩ : ∃ j, k = j + 1 := ⟨k - 1, by omega⟩
          have hwj : IntKind.i64.wrap (((j + 1 : Nat) : Int) - 1) = (j : Int) := by rw [IntWalk.i64_in _ (by omega)]; omega
          have y3 := HX1.out.cell (HC.out j (by omega))
          obtain ⟨z, hz⟩ : ∃ z, l.getD j [] = z := ⟨_, rfl⟩
          rw [hz] at y3
          have hst := HST.out
          rw [show j + 1 - 1 = j from rfl, hz] at hst
          have HST2 : Hid _ := hst
          have hk1 : (0 : Int) < ((j + 1 : Nat) : Int) := by omega
          clear hz hst
          rcases leT_cases x z with ⟨hlt, hb, he⟩ | ⟨hlt, hb⟩ | ⟨hlt, hb, he⟩
          · have HP : Hid (parT l (j + 1 + 1) = true) := by unfold Hid; rw [HST2.out, hlt]; simp
            clear hlt
            go_wp2
            go_roundw
            case rel => exact ⟨j + 1 + 1, by omega, by go_num, HP, HX1⟩
            case measure => simp [intOf]; omega
          · have HF : Hid (parsOk l = false) := parT_bad (k := j + 1 + 1) (by rw [HST2.out, hlt]; simp)
            clear hlt
            go_wp2
            go_ret
            exact ⟨ret_b HF.out.symm, HX1.out⟩
          · have HF : Hid (parsOk l = false) := parT_bad (k := j + 1 + 1) (by rw [HST2.out, hlt]; simp)
            clear hlt
            go_wp2
            go_ret
            exact ⟨ret_b HF.out.symm, HX1.out⟩
    · have hkl : k = l.length := by omega
      have HF : Hid (parsOk l = decide (l.length ≤ 2)) := by
        have h9 := HT.out
        unfold parT at h9
        rw [hkl, List.take_length, Bool.and_eq_true] at h9
        unfold Hid parsOk
        rw [h9.1, h9.2, Bool.true_and, Bool.true_and]
      clear hk
      go_wp2
      go_ret
      refine ⟨ret_b ?_, HX.out⟩
      rw [HF.out]
      exact decide_eq_decide.2 (by omega)

/-! ### An object as a value -/
def itC (x : Itm) : List Value := [.int .i64 x.mode, S8 x.name, S8 x.id]
/-- The slice holds these rows. -/
def IsItms (w : World) (v : Value) (l : List Itm) : Prop := Row w v l.length (l.flatMap itC)
abbrev obV (o : Ob) (vd vi vp : Value) : Value := .agg #[.int .i64 o.kind, vd, vi, S8 o.tree, vp, .int .i64 o.stamp, .int .i64 o.author, S8 o.msg]
def IsOb (w : World) (v : Value) (o : Ob) : Prop := ∃ vd vi vp, v = obV o vd vi vp ∧ IsBytes w vd o.data ∧ IsItms w vi o.items ∧ IsStrs w vp o.parents
theorem IsItms.ext {w w' : World} {v : Value} {l : List Itm} (h : IsItms w v l) (hx : Ext w w') : IsItms w' v l := Row.ext h hx
theorem IsOb.ext {w w' : World} {v : Value} {o : Ob} (h : IsOb w v o) (hx : Ext w w') : IsOb w' v o := by
  obtain ⟨vd, vi, vp, rfl, h1, h2, h3⟩ := h
  exact ⟨vd, vi, vp, rfl, h1.ext hx, h2.ext hx, h3.ext hx⟩
theorem flat_it : ∀ (l : List Itm) (k : Nat) (x : Itm), l[k]? = some x → (l.flatMap itC)[3 * k]? = some (.int .i64 x.mode) ∧ (l.flatMap itC)[3 * k + 1]? = some (S8 x.name) ∧ (l.flatMap itC)[3 * k + 2]? = some (S8 x.id)
  | [], k, x, h => by simp at h
  | y :: l, 0, x, h => by
    simp only [List.getElem?_cons_zero, Option.some.injEq] at h
    subst h
    exact ⟨rfl, rfl, rfl⟩
  | y :: l, k + 1, x, h => by
    simp only [List.getElem?_cons_succ] at h
    have ih := flat_it l k x h
    rw [List.flatMap_cons]
    have e : itC y = [.int .i64 y.mode, S8 y.name, S8 y.id] := rfl
    rw [e, show 3 * (k + 1) = 3 * k + 1 + 1 + 1 by omega]
    exact ih
theorem IsItms.get {w : World} {v : Value} {l : List Itm} (h : IsItms w v l) : ∃ a c, v = .slice a l.length c ∧ l.length ≤ c ∧ l.length ≤ 140737488355328 ∧ c ≤ 9223372036854775807 ∧
    ∀ k x, l[k]? = some x → ∃ b o, a = some ⟨b, o, none⟩ ∧ w.cell? ⟨b, o + k * 3, none⟩ = some (.int .i64 x.mode) ∧ w.cell? ⟨b, o + k * 3 + 1, none⟩ = some (S8 x.name) ∧ w.cell? ⟨b, o + k * 3 + 2, none⟩ = some (S8 x.id) := by
  obtain ⟨a, c, rfl, h1, h2, h3, h4⟩ := h
  refine ⟨a, c, rfl, h1, h3, h2, fun k x hk => ?_⟩
  obtain ⟨f0, f1, f2⟩ := flat_it l k x hk
  obtain ⟨b, o, rfl, hc⟩ := h4 (by intro e; rw [e] at f0; simp at f0)
  refine ⟨b, o, rfl, ?_, ?_, ?_⟩
  · have := hc _ _ f0; rwa [Nat.mul_comm] at this
  · have := hc _ _ f1; rwa [Nat.mul_comm, ← Nat.add_assoc] at this
  · have := hc _ _ f2; rwa [Nat.mul_comm, ← Nat.add_assoc] at this

set_option maxRecDepth 100000 in
set_option maxHeartbeats 2000000 in
theorem noCommit_any (o : Ob) (vd vi vp : Value) (w : World) (hp : IsStrs w vp o.parents) :
    Calls Tryz.prog 151 #[obV o vd vi vp] w fun e w' => e = .returned (.bool (noCom o)) ∧ Ext w w' := by
  obtain ⟨kind, data, items, tree, parents, stamp, author, msg⟩ := o
  obtain ⟨pa, pc, rfl, p1, p2, p3, -⟩ := hp.get
  obtain ⟨r, hr⟩ : ∃ r, noCom ⟨kind, data, items, tree, parents, stamp, author, msg⟩ = r := ⟨_, rfl⟩
  rw [hr]
  have hr2 : ((tree == []) && ((parents.length == 0) && ((stamp == 0) && ((author == 0) && (msg == []))))) = r := hr
  have HR : Hid _ := hr2
  clear hr hr2 hp
  unfold obV
  dsimp only
  go_enter Tryz.func151, Tryz.ntmps151
  by_cases h1 : tree = []
  · have b1 : (tree == ([] : B8)) = true := by simpa using h1
    by_cases h2 : parents.length = 0
    · have b2 : ((parents.length : Int) == 0) = true := by rw [beq_iff_eq]; omega
      by_cases h3 : stamp = 0
      · have b3 : (stamp == 0) = true := by simpa using h3
        by_cases h4 : author = 0
        · have b4 : (author == 0) = true := by simpa using h4
          by_cases h5 : msg = []
          · have b5 : (msg == ([] : B8)) = true := by simpa using h5
            have HF : Hid (r = true) := by unfold Hid; rw [← HR.out, h1, h2, h3, h4, h5]; rfl
            clear h1 h2 h3 h4 h5
            go_wp2
            go_ret
            exact ⟨ret_b HF.out.symm, (Ext.refl w).alloc _⟩
          · have b5 : (msg == ([] : B8)) = false := by simpa using h5
            have HF : Hid (r = false) := by unfold Hid; rw [← HR.out, b5]; simp
            clear h1 h2 h3 h4 h5
            go_wp2
            go_ret
            exact ⟨ret_b HF.out.symm, (Ext.refl w).alloc _⟩
        · have b4 : (author == 0) = false := by simpa using h4
          have HF : Hid (r = false) := by unfold Hid; rw [← HR.out, b4]; simp
          clear h1 h2 h3 h4
          go_wp2
          go_ret
          exact ⟨ret_b HF.out.symm, (Ext.refl w).alloc _⟩
      · have b3 : (stamp == 0) = false := by simpa using h3
        have HF : Hid (r = false) := by unfold Hid; rw [← HR.out, b3]; simp
        clear h1 h2 h3
        go_wp2
        go_ret
        exact ⟨ret_b HF.out.symm, (Ext.refl w).alloc _⟩
    · have b2 : ((parents.length : Int) == 0) = false := by rw [beq_eq_false_iff_ne]; omega
      have HF : Hid (r = false) := by unfold Hid; rw [← HR.out, show (parents.length == 0) = false by simpa using h2]; simp
      clear h1 h2
      go_wp2
      go_ret
      exact ⟨ret_b HF.out.symm, (Ext.refl w).alloc _⟩
  · have b1 : (tree == ([] : B8)) = false := by simpa using h1
    have HF : Hid (r = false) := by unfold Hid; rw [← HR.out, b1]; simp
    clear h1
    go_wp2
    go_ret
    exact ⟨ret_b HF.out.symm, (Ext.refl w).alloc _⟩

end Go.Proofs.YtdhgmpibjneplaaGreatDoor

/-! marref16.May: what may be a table. Conditions: as each theorem states. -/
namespace Go.Proofs.YtdhgmpibjneplaaGreatDoor
open Go Go.RowKit Go.Sort
set_option linter.unusedVariables false
set_option linter.unusedSimpArgs false
set_option linter.unusedSectionVars false

theorem r0_no {l : List Rw} {k : Nat} {x : Rw} {r b : Bool} (h : mayR0 l k x = !r) (hb : mayR0 l k x = false) : r = true := by
  rw [hb] at h
  cases r
  · cases h
  · rfl
theorem r0_yes {l : List Rw} {k : Nat} {x : Rw} {r : Bool} (h : mayR0 l k x = !r) (hb : mayR0 l k x = true) : r = false := by
  rw [hb] at h
  cases r
  · rfl
  · cases h
theorem r0_of {l : List Rw} {k : Nat} {x : Rw} {a b c d e : Bool} (ha : pathB (dirW ++ x.path) = a) (hb : decide (1 ≤ x.mode) = b) (hc : decide (x.mode ≤ 3) = c) (hd : validB x.id = d) (he : (decide (k = 0) || ltB (l.getD (k - 1) zRw).path x.path) = e) : mayR0 l k x = (a && (b && (c && (d && e)))) := by
  unfold mayR0
  rw [ha, hb, hc, hd, he]
set_option maxRecDepth 100000 in
set_option maxHeartbeats 16000000 in
theorem rmay16_any (v : Value) (l : List Rw) (w : World) (hv : IsRws w v l) (hs : ∀ r ∈ l, r.path.length ≤ 400 ∧ r.id.length ≤ 400) :
    Calls Tryz.prog 19 #[v] w fun e w' => e = .returned (.bool (mayT l)) ∧ Ext w w' := by
  have HV : Hid (IsRws w v l) := hv
  obtain ⟨a, c, rfl, l1, l2, l3, hg⟩ := hv.cells
  have HG : Hid _ := hg
  have HS : Hid _ := hs
  clear hv hg hs
  by_cases h256 : (256 : Int) < (l.length : Int)
  · have HF : Hid (mayT l = false) := by unfold Hid mayT; rw [decide_eq_false (by omega)]; rfl
    go_enter Tryz.func19, Tryz.ntmps19
    go_wp2
    go_ret
    exact ⟨ret_b HF.out.symm, Ext.refl _⟩
  go_enter Tryz.func19, Tryz.ntmps19
  go_wp2_with fail
  go_loopw [3] (fun i wr => ∃ k : Nat, k ≤ l.length ∧ i = .int .i64 k ∧ Hid (∀ j x, j < k → l[j]? = some x → mayRow l j x = true) ∧ Hid (Ext w wr)) (fun i _ => l.length - (intOf i).toNat)
  case atStart => exact ⟨0, Nat.zero_le _, rfl, fun j x hj => absurd hj (Nat.not_lt_zero _), Ext.refl _⟩
  case round =>
  obtain ⟨k, hk, rfl, HT, HX⟩ := hrel
  by_cases hlt : k < l.length
  case neg =>
    have HF : Hid (mayT l = true) := may_yes (by omega) (fun j x hx => HT.out j x (by have := (List.getElem?_eq_some_iff.1 hx).1; omega) hx)
    go_wp2
    go_ret
    exact ⟨ret_b HF.out.symm, HX.out⟩
  obtain ⟨x, hx⟩ : ∃ x, l[k]? = some x := ⟨_, List.getElem?_eq_getElem hlt⟩
  obtain ⟨bb, oo, rfl, hc0, hc1, hc2⟩ := HG.out k x hx
  obtain ⟨hxn, hxi⟩ := HS.out x (List.mem_of_getElem? hx)
  have HK : Hid (l[k]? = some x) := hx
  have HPREV : Hid (∀ j, k = j + 1 → wr.cell? ⟨bb, oo + j * 3, none⟩ = some (S8 (l.getD j zRw).path)) := fun j hj => by
    subst hj
    have hjl : j < l.length := by omega
    obtain ⟨b2, o2, he, h9, -⟩ := HG.out j (l.getD j zRw) (by rw [List.getD_eq_getElem?_getD, List.getElem?_eq_getElem hjl]; rfl)
    cases he
    exact HX.out.cell h9
  have y0 := HX.out.cell hc0
  have y1 := HX.out.cell hc1
  have y2 := HX.out.cell hc2
  obtain ⟨path, mode, id⟩ := x
  dsimp only at y0 y1 y2 hxn hxi
  clear hx hc0 hc1 hc2
  go_upto_region 7 with fail
  obtain ⟨w4, hw4⟩ : ∃ w4, w4 = wr.alloc (.cells #[S8 path, .int .i64 mode, S8 id] 62) := ⟨_, rfl⟩
  have hx4 : Ext wr w4 := by rw [hw4]; exact (Ext.refl _).alloc _
  have hb4 : w4.heap[wr.heap.size]? = some (.cells #[S8 path, .int .i64 mode, S8 id] 62 (0, 0)) := by rw [hw4]; exact alloc_at _ _
  rw [← hw4]
  obtain ⟨gi, hgi⟩ : ∃ gi, wr.heap.size = gi := ⟨_, rfl⟩
  rw [hgi] at hb4 ⊢
  obtain ⟨z0, z1, z2⟩ := cellsAt3 hb4
  have HX4 : Hid (Ext w w4) := HX.out.trans hx4
  have HP4 : Hid (∀ j, k = j + 1 → w4.cell? ⟨bb, oo + j * 3, none⟩ = some (S8 (l.getD j zRw).path)) := fun j hj => hx4.cell (HPREV.out j hj)
  have HB4 : Hid _ := hb4
  have v0 := fun d os => cell_regrown z0 d os
  have v1 := fun d os => cell_regrown z1 d os
  have v2 := fun d os => cell_regrown z2 d os
  obtain ⟨nb, hnb⟩ : ∃ nb, pathB (dirW ++ path) = nb := ⟨_, rfl⟩
  obtain ⟨vb, hvb⟩ : ∃ vb, validB id = vb := ⟨_, rfl⟩
  have HNB : Hid _ := hnb
  have HVB : Hid _ := hvb
  have HNA : Hid (∀ d os, Calls Tryz.prog 56 #[.string (⟨#[119, 47]⟩ ++ ⟨path.toArray⟩)] (grow (redrawn w4 d) os) fun e w' => e = .returned (.bool nb) ∧ ∃ q : Regrown, w' = grow (redrawn w4 q.d) q.os) := fun d os => Calls.regrown_of (by
    have h9 := rpath_any (dirW ++ path) (grow (redrawn w4 d) os) (by simp [dirW]; omega)
    rw [hnb] at h9
    exact h9)
  have HVA : Hid (∀ d os, Calls Tryz.prog 57 #[S8 id] (grow (redrawn w4 d) os) fun e w' => e = .returned (.bool vb) ∧ ∃ q : Regrown, w' = grow (redrawn w4 q.d) q.os) := fun d os => Calls.regrown_of (by
    have h9 := rvalid_any id (grow (redrawn w4 d) os) (by omega)
    rwa [hvb] at h9)
  obtain ⟨okk, hokk⟩ : ∃ c, mayR0 l k ⟨path, mode, id⟩ = !c := ⟨!mayR0 l k ⟨path, mode, id⟩, by simp⟩
  have HOK : Hid _ := hokk
  clear hw4 hx4 hb4 hgi z0 z1 z2 y0 y1 y2 hnb hvb hokk HPREV HX
  have hcat : ¬ 9223372036854775807 < 2 + path.length := by omega
  go_cut [58] (fun c wx => c = .bool okk ∧ Ext w4 wx)
  case first =>
    cases nb with
    | false =>
      have HR : Hid (okk = true) := r0_no (b := true) HOK.out ((r0_of HNB.out rfl rfl rfl rfl).trans (by simp))
      refine qw_below (by kernel_rfl) (by kernel_rfl) ?_
      repeat (refine qw_step (fun K hK => ?_); go_simp; first | (refine hK _ ?_; clear hK K) | (apply Exists.intro; refine ⟨fun _ => ?_, hK _ ?_⟩; (first | exact HNA.out _ _ | exact HVA.out _ _); clear hK K))
      refine qw_nil ?_
      intro _ hw'
      obtain ⟨⟨dq, osq⟩, hw''⟩ := hw'
      subst hw''
      go_wp2_with fail
      go_meet
      case rel => exact ⟨by rw [HR.out], Ext.regrown _ _ _⟩
    | true =>
    by_cases h1 : mode < 1
    · have HR : Hid (okk = true) := r0_no (b := true) HOK.out ((r0_of rfl (decide_eq_false (by dsimp only; omega)) rfl rfl rfl).trans (by simp))
      refine qw_below (by kernel_rfl) (by kernel_rfl) ?_
      repeat (refine qw_step (fun K hK => ?_); go_simp; first | (refine hK _ ?_; clear hK K) | (apply Exists.intro; refine ⟨fun _ => ?_, hK _ ?_⟩; (first | exact HNA.out _ _ | exact HVA.out _ _); clear hK K))
      refine qw_nil ?_
      intro _ hw'
      obtain ⟨⟨dq, osq⟩, hw''⟩ := hw'
      subst hw''
      go_wp2_with fail
      go_meet
      case rel => exact ⟨by rw [HR.out], Ext.regrown _ _ _⟩
    by_cases h2 : 3 < mode
    · have HR : Hid (okk = true) := r0_no (b := true) HOK.out ((r0_of rfl rfl (decide_eq_false (by dsimp only; omega)) rfl rfl).trans (by simp))
      refine qw_below (by kernel_rfl) (by kernel_rfl) ?_
      repeat (refine qw_step (fun K hK => ?_); go_simp; first | (refine hK _ ?_; clear hK K) | (apply Exists.intro; refine ⟨fun _ => ?_, hK _ ?_⟩; (first | exact HNA.out _ _ | exact HVA.out _ _); clear hK K))
      refine qw_nil ?_
      intro _ hw'
      obtain ⟨⟨dq, osq⟩, hw''⟩ := hw'
      subst hw''
      go_wp2_with fail
      go_meet
      case rel => exact ⟨by rw [HR.out], Ext.regrown _ _ _⟩
    cases vb with
    | false =>
      have HR : Hid (okk = true) := r0_no (b := true) HOK.out ((r0_of rfl rfl rfl HVB.out rfl).trans (by simp))
      refine qw_below (by kernel_rfl) (by kernel_rfl) ?_
      repeat (refine qw_step (fun K hK => ?_); go_simp; first | (refine hK _ ?_; clear hK K) | (apply Exists.intro; refine ⟨fun _ => ?_, hK _ ?_⟩; (first | exact HNA.out _ _ | exact HVA.out _ _); clear hK K))
      refine qw_nil ?_
      intro _ hw'
      obtain ⟨⟨dq, osq⟩, hw''⟩ := hw'
      subst hw''
      go_wp2_with fail
      go_meet
      case rel => exact ⟨by rw [HR.out], Ext.regrown _ _ _⟩
    | true =>
    have HIO : Hid (∀ e : Bool, (decide (k = 0) || ltB (l.getD (k - 1) zRw).path path) = e → mayR0 l k ⟨path, mode, id⟩ = e) := fun e he => (r0_of HNB.out (decide_eq_true (by dsimp only; omega)) (decide_eq_true (by dsimp only; omega)) HVB.out he).trans (by simp)
    by_cases hk0 : k = 0
    · have HR : Hid (okk = false) := r0_yes HOK.out (HIO.out true (by rw [hk0]; rfl))
      subst hk0
     
      refine qw_below (by kernel_rfl) (by kernel_rfl) ?_
      repeat (refine qw_step (fun K hK => ?_); go_simp; first | (refine hK _ ?_; clear hK K) | (apply Exists.intro; refine ⟨fun _ => ?_, hK _ ?_⟩; (first | exact HNA.out _ _ | exact HVA.out _ _); clear hK K))
      refine qw_nil ?_
      intro _ hw'
      obtain ⟨⟨dq, osq⟩, hw''⟩ := hw'
      subst hw''
      go_wp2_with fail
      go_meet
      case rel => exact ⟨by rw [HR.out], Ext.regrown _ _ _⟩
    · obtain ⟨j, rfl⟩ : ∃ j, k = j + 1 := ⟨k - 1, by omega⟩
      have hwj : IntKind.i64.wrap (((j + 1 : Nat) : Int) - 1) = (j : Int) := by rw [IntWalk.i64_in _ (by omega)]; omega
      have y3 := HP4.out j rfl
      obtain ⟨z, hz⟩ : ∃ z, (l.getD j zRw).path = z := ⟨_, rfl⟩
      rw [hz] at y3
      have v3 := fun d os => cell_regrown y3 d os
      have hk1 : (0 : Int) < ((j + 1 : Nat) : Int) := by omega
      have hwj2 : IntKind.i64.wrap (j : Int) = (j : Int) := IntWalk.i64_in _ (by omega)
      have hk2 : (0 : Int) < (j : Int) + 1 := by omega
      have hjl : j < l.length := by omega
      have HZ : Hid _ := hz
      clear hz y3
      rcases leT_cases path z with ⟨hlt9, hb, he⟩ | ⟨hlt9, hb⟩ | ⟨hlt9, hb, he⟩
      · have HR : Hid (okk = false) := r0_yes HOK.out (HIO.out true (by rw [show j + 1 - 1 = j from rfl, HZ.out, hlt9]; simp))
        clear hlt9
        refine qw_below (by kernel_rfl) (by kernel_rfl) ?_
        repeat (refine qw_step (fun K hK => ?_); go_simp; first | (refine hK _ ?_; clear hK K) | (apply Exists.intro; refine ⟨fun _ => ?_, hK _ ?_⟩; (first | exact HNA.out _ _ | exact HVA.out _ _); clear hK K))
        refine qw_nil ?_
        intro _ hw'
        obtain ⟨⟨dq, osq⟩, hw''⟩ := hw'
        subst hw''
        go_wp2_with fail
        go_meet
        case rel => exact ⟨by rw [HR.out], Ext.regrown _ _ _⟩
      · have HR : Hid (okk = true) := r0_no (b := true) HOK.out (HIO.out false (by rw [show j + 1 - 1 = j from rfl, HZ.out, hlt9]; simp))
        clear hlt9
        refine qw_below (by kernel_rfl) (by kernel_rfl) ?_
        repeat (refine qw_step (fun K hK => ?_); go_simp; first | (refine hK _ ?_; clear hK K) | (apply Exists.intro; refine ⟨fun _ => ?_, hK _ ?_⟩; (first | exact HNA.out _ _ | exact HVA.out _ _); clear hK K))
        refine qw_nil ?_
        intro _ hw'
        obtain ⟨⟨dq, osq⟩, hw''⟩ := hw'
        subst hw''
        go_wp2_with fail
        go_meet
        case rel => exact ⟨by rw [HR.out], Ext.regrown _ _ _⟩
      · have HR : Hid (okk = true) := r0_no (b := true) HOK.out (HIO.out false (by rw [show j + 1 - 1 = j from rfl, HZ.out, hlt9]; simp))
        clear hlt9
        refine qw_below (by kernel_rfl) (by kernel_rfl) ?_
        repeat (refine qw_step (fun K hK => ?_); go_simp; first | (refine hK _ ?_; clear hK K) | (apply Exists.intro; refine ⟨fun _ => ?_, hK _ ?_⟩; (first | exact HNA.out _ _ | exact HVA.out _ _); clear hK K))
        refine qw_nil ?_
        intro _ hw'
        obtain ⟨⟨dq, osq⟩, hw''⟩ := hw'
        subst hw''
        go_wp2_with fail
        go_meet
        case rel => exact ⟨by rw [HR.out], Ext.regrown _ _ _⟩
  case rest =>
  obtain ⟨rfl, hxc⟩ := hcut
  have HXC : Hid (Ext w wc) := HX4.out.trans hxc
  have hbc := hxc.row HB4.out
  clear hxc
  cases okk with
  | true =>
    have HF : Hid (mayT l = false) := may_no0 HK.out (by rw [HOK.out]; rfl)
    go_wp2
    go_ret
    exact ⟨ret_b HF.out.symm, HXC.out⟩
  | false =>
  obtain ⟨z0, z1, z2⟩ := cellsAt3 hbc
  clear hbc z1 z2 v0 v1 v2 HNA HVA HP4
  go_wp2_with fail
  go_at_call 58
  refine (rparents_any path _ (by omega)).mono ?_
  rintro e w5 ⟨⟨vP, rfl, hP⟩, hx5⟩
  obtain ⟨pa, pc, rfl, p1, p2, p3, hpg⟩ := hP.get
  have HPG : Hid _ := hpg
  obtain ⟨P, hPP⟩ : ∃ P, parR path = P := ⟨_, rfl⟩
  have HPP : Hid _ := hPP
  rw [hPP] at HPG p1 p2 ⊢
  have HX5 : Hid (Ext w w5) := HXC.out.trans hx5
  clear hP hpg hPP hx5 z0
  go_wp2_with fail
  go_loopw [6] (fun i wq => ∃ j : Nat, j ≤ P.length ∧ i = .int .i64 j ∧ Hid (∀ p ∈ P.take j, (entG l p).1 = 0) ∧ Hid (Ext w5 wq)) (fun i _ => P.length - (intOf i).toNat)
  case atStart => exact ⟨0, Nat.zero_le _, rfl, fun p hp => by simp at hp, Ext.refl _⟩
  case round =>
  obtain ⟨j, hj, rfl, HZ, HX⟩ := hrel
  by_cases hjl : j < P.length
  case neg =>
    have HTX : Hid (∀ i x, i < k + 1 → l[i]? = some x → mayRow l i x = true) := fun i x hi hx => by
      by_cases hik : i = k
      · subst hik
        rw [HK.out] at hx
        cases hx
        unfold mayRow
        rw [HOK.out, Bool.not_false, Bool.true_and, HPP.out, List.all_eq_true]
        have h9 := HZ.out
        rw [List.take_of_length_le (by omega)] at h9
        exact fun p hp => by simpa using h9 p hp
      · exact HT.out i x (by omega) hx
    have HXR : Hid (Ext w wr) := HX5.out.trans HX.out
    go_wp2_with fail
    go_roundw
    case rel => exact ⟨k + 1, by omega, by go_num, HTX, HXR⟩
    case measure => simp [intOf]; omega
  obtain ⟨pb, po, rfl, hpc⟩ := HPG.out j hjl
  have u1 := HX.out.cell (hpc j hjl)
  obtain ⟨p, hp⟩ : ∃ p, P[j]? = some p := ⟨_, List.getElem?_eq_getElem hjl⟩
  rw [show P.getD j [] = p by rw [List.getD_eq_getElem?_getD, hp]; rfl] at u1
  have HPJ : Hid _ := hp
  obtain ⟨⟨em, ei⟩, hem⟩ : ∃ q, entG l p = q := ⟨_, rfl⟩
  have HEM : Hid _ := hem
  have hrg := rget_any _ l p wr (HV.out.ext (HX5.out.trans HX.out))
  rw [hem] at hrg
  have HRG : Hid _ := hrg
  clear hpc hp hem hrg
  go_wp2_with fail
  go_at_call 22
  refine Calls.mono HRG.out ?_
  unfold entV
  dsimp only
  rintro e w6 ⟨rfl, hx6⟩
  have HX6 : Hid (Ext w5 w6) := HX.out.trans hx6
  have hfd : ∀ w : World, (Instr.field 54 (.agg #[.int .i64 em, S8 ei]) 0).run Tryz.prog w = .ok (.int .i64 em) w := fun _ => by kernel_rfl
  clear hx6 u1
  by_cases he : em = 0
  · have heq : (em != 0) = false := by simpa using he
    have HZX : Hid (∀ p ∈ P.take (j + 1), (entG l p).1 = 0) := fun q hq => by
      rw [take_snocR HPJ.out] at hq
      rcases List.mem_append.1 hq with hq | hq
      · exact HZ.out q hq
      · obtain rfl : q = p := by simpa using hq
        rw [HEM.out]; exact he
    clear he
    go_wp2
    go_roundw
    case rel => exact ⟨j + 1, by omega, by go_num, HZX, HX6⟩
    case measure => simp [intOf]; omega
  · have heq : (em != 0) = true := by simpa using he
    have HF : Hid (mayT l = false) := may_noP HK.out (by rw [HPP.out]; exact List.mem_of_getElem? HPJ.out) (by rw [HEM.out]; exact he)
    clear he
    go_wp2
    go_ret
    exact ⟨ret_b HF.out.symm, HX5.out.trans HX6.out⟩

end Go.Proofs.YtdhgmpibjneplaaGreatDoor

/-! marref.Unique, of whatever texts. Conditions: as each theorem states. -/
namespace Go.Proofs.YtdhgmpibjneplaaGreatDoor
open Go Go.RowKit
set_option linter.unusedVariables false
set_option linter.unusedSimpArgs false

theorem uniqT_nil : uniqT [] = [] := uniqT_id List.Pairwise.nil
/-- What holds while the inner append is done. -/
structure UJ (w0 : World) (s : B8) (D : List B8) (z7 z11 : Option Value) (w : World) : Prop where
  ext : Ext w0 w
  o11 : z11 ≠ none → z7 ≠ none
  f7 : z11 = none → ∀ v, z7 = some v → w.ownsRow w0.heap.size 9 1 v 1 [S8 s]
  f11 : ∀ v, z11 = some v → w.ownsRow w0.heap.size 9 1 v (1 + D.length) ([S8 s] ++ D.map S8)
section
variable {w0 w w' : World} {s : B8} {D : List B8} {z7 z11 : Option Value}
theorem UJ.more (h : UJ w0 s D z7 z11 w) (hx : Ext w w') : UJ w0 s D z7 z11 w' :=
  ⟨h.ext.trans hx, h.o11, fun h1 v hv => owns_ext (h.f7 h1 v hv) hx, fun v hv => owns_ext (h.f11 v hv) hx⟩
theorem UJ.start (hx : Ext w0 w) : UJ w0 s D none none w := ⟨hx, fun h => absurd rfl h, fun _ v hv => (by cases hv), fun v hv => (by cases hv)⟩
theorem UJ.set7 (h : UJ w0 s D z7 z11 w) : UJ w0 s D (some (.slice (some ⟨w.heap.size, 0, none⟩) 1 1)) z11 (w.alloc (.cells #[S8 s] 9)) := by
  have k := h.more ((Ext.refl w).alloc (.cells #[S8 s] 9))
  exact ⟨k.ext, fun _ => by simp, fun _ v hv => by cases hv; exact ⟨rfl, .inr ⟨w.heap.size, 1, #[S8 s], rfl, h.ext.size, alloc_at _ _, Nat.le_refl _, by unfold maxLen; omega, rfl, rfl⟩⟩, k.f11⟩
theorem UJ.set11 {v7 : Value} (h : UJ w0 s D z7 z11 w) (hz7 : z7 = some v7) (hz11 : z11 = none) (x : Value) (hx : Row w x D.length (D.map S8)) (hb : D.length ≤ 1000000) :
    ∃ v' w', (Builtin.append_ #[23, 23] 23 #[v7, x]).run Tryz.prog w = .ok v' w' ∧ UJ w0 s D z7 (some v') w' := by
  subst hz7; subst hz11
  have hown := h.f7 rfl _ rfl
  obtain ⟨v', w', k1, k2, k3, k4⟩ := appS_run 23 9 (S8 []) 1 16 Tryz.underlying23 info_str rfl (by omega) w0.heap.size v7 1 [S8 s] hown x D.length (D.map S8) hx (by simp) (fun u hu => by obtain ⟨_, _, rfl⟩ := List.mem_map.1 hu; rfl) (by omega) (by omega) h.ext.size
  exact ⟨v', w', k1, ⟨owns_ext_app h.ext hown k3, fun _ => by simp, fun hh => (by cases hh), fun v hv => (by cases hv; exact k2)⟩⟩
end
theorem uj_one (s : B8) (D : List B8) : ∀ u ∈ [S8 s] ++ D.map S8, u.oneCell' = true := fun u hu => by
  rcases List.mem_append.1 hu with hu | hu
  · rw [List.mem_singleton.1 hu]; rfl
  · obtain ⟨_, _, rfl⟩ := List.mem_map.1 hu; rfl
theorem own_take {w : World} {base k n : Nat} {a : Option Addr} {c : Nat} {xs : List Value} (h : w.ownsRow base 9 1 (.slice a n c) n xs) (hk : k ≤ n) (hs : ∀ g, a = some ⟨g, 0, none⟩ → True) (hn : a ≠ none) : w.ownsRow base 9 1 (.slice a k c) k (xs.take k) := by
  obtain ⟨hl, ⟨he, h0⟩ | ⟨g, cap, cur, he, h1, h2, h3, h4, h5, h6⟩⟩ := h
  · simp only [Value.slice.injEq] at he; exact absurd he.1 hn
  · simp only [Value.slice.injEq, true_and] at he
    obtain ⟨rfl, rfl⟩ := he
    refine ⟨by rw [List.length_take, hl]; omega, .inr ⟨g, c, cur, rfl, h1, h2, by omega, h4, h5, ?_⟩⟩
    rw [← h6, List.take_take]
    congr 1
    omega

set_option maxRecDepth 100000 in
set_option maxHeartbeats 4000000 in
theorem runiq_any {w : World} {v : Value} {l : List B8} (hv : IsStrs w v l) (hl : l.length ≤ 1000000) :
    Calls Tryz.prog 95 #[v] w fun e w' => (∃ v', e = .returned v' ∧ w'.ownsRow w.heap.size 9 1 v' (uniqT l).length ((uniqT l).map S8)) ∧ Ext w w' := by
  obtain ⟨a, cap, rfl, l1, l2, l3, -⟩ := hv.get
  have HV : Hid (IsStrs w (.slice a l.length cap) l) := hv
  clear hv
  go_enter Tryz.func95, Tryz.ntmps95
  go_wp2
  go_loopw [3, 4] (fun v i wr => ∃ k : Nat, k ≤ l.length ∧ i = .int .i64 k ∧ Hid (wr.ownsRow w.heap.size 9 1 v (uniqT (l.take k)).length ((uniqT (l.take k)).map S8)) ∧ Hid (Ext w wr)) (fun _ i _ => l.length - (intOf i).toNat)
  case atStart =>
    refine ⟨0, Nat.zero_le _, rfl, ?_, Ext.refl _⟩
    have h0 : uniqT (l.take 0) = [] := uniqT_nil
    unfold Hid
    rw [h0]
    exact World.ownsRow_nil _ _ _ _
  case round =>
  obtain ⟨i, hi, rfl, HOW, HX⟩ := hrel
  by_cases hlt : i < l.length
  case neg =>
    have hkk : i = l.length := by omega
    subst hkk
    have HO : Hid (wr.ownsRow w.heap.size 9 1 u3 (uniqT l).length ((uniqT l).map S8)) := by have h9 := HOW.out; rwa [List.take_length] at h9
    go_wp2
    go_ret
    exact ⟨⟨_, rfl, HO.out⟩, HX.out⟩
  obtain ⟨s, hse⟩ : ∃ s, l[i]? = some s := ⟨_, List.getElem?_eq_getElem hlt⟩
  obtain ⟨_, _, he, -, -, -, hg⟩ := (IsStrs.ext HV.out HX.out).get
  cases he
  obtain ⟨bb, oo, rfl, hc⟩ := hg i hlt
  have y1 := hc i hlt
  rw [show l.getD i [] = s by rw [List.getD_eq_getElem?_getD, hse]; rfl] at y1
  have HSE : Hid _ := hse
  have hun := uniqT_len (l.take i)
  rw [List.length_take] at hun
  have hur := uniqT_rise (l.take i)
  obtain ⟨U, hU⟩ : ∃ U, uniqT (l.take i) = U := ⟨_, rfl⟩
  have HUU : Hid (uniqT (l.take i) = U) := hU
  rw [hU] at HOW hun hur
  have HUR : Hid (riseT U) := hur
  obtain ⟨n, hn⟩ : ∃ n, U.length = n := ⟨_, rfl⟩
  have HUN : Hid (U.length = n) := hn
  rw [hn] at HOW hun
  have hio : IsStrs wr u3 U := by
    have h9 := Row.of_owns HOW.out (by omega)
    unfold IsStrs
    rwa [hn]
  obtain ⟨oa, oc, hoe, o1, o2, o3, og⟩ := hio.get
  rw [hn] at hoe o1 og
  subst hoe
  have HOG : Hid _ := og
  have HSH : Hid ((oa = none ∧ n = 0 ∧ oc = 0) ∨ ∃ g, oa = some ⟨g, 0, none⟩) := by
    rcases HOW.out.2 with ⟨he, h0⟩ | ⟨g, cap, cur, he, _⟩
    · simp only [Value.slice.injEq] at he; exact .inl ⟨he.1, h0, he.2.2⟩
    · simp only [Value.slice.injEq] at he; exact .inr ⟨g, he.1⟩
  have HROW : Hid (Row wr (.slice oa n oc) n (U.map S8)) := Row.of_owns HOW.out (by omega)
  clear hg hc hse hU hn hur hio og
  obtain ⟨wo, rfl⟩ : ∃ wo : World, wo = wr := ⟨_, rfl⟩
  have Y1 : Hid _ := y1
  clear y1
  go_wp2_with fail
  go_loopw [5] (fun kk wq => ∃ k : Nat, k ≤ n ∧ kk = .int .i64 k ∧ Hid (Ext wo wq) ∧ Hid (∀ y ∈ U.drop k, ltB y s = false)) (fun kk _ => (intOf kk).toNat)
  case atStart => exact ⟨n, Nat.le_refl _, rfl, Ext.refl _, fun y hy => by rw [List.drop_of_length_le (Nat.le_of_eq HUN.out)] at hy; cases hy⟩
  case round =>
  obtain ⟨k, hk, rfl, HXO, HD⟩ := hrel
  have y1 := HXO.out.cell Y1.out
  by_cases hk0 : 0 < k
  case' neg =>
    have hk00 : ¬ (0 : Int) < (k : Int) := by omega
    have HST : Hid (∀ y ∈ U.take k, ltB y s = true) := rise_stop HUR.out (.inl (by omega))
    go_upto_region 6 with fail
    apply wp_region_mix 14 [_, _, _, _, _, _, _, _, _, _, _, _, _, .bool false] [none, none, none, none, none, none, none, none, none, none, none, none, none, none] [[], [0], [1], [2], [2], [2, 4], [2, 3, 5], [2, 6], [2], [2], [2, 8, 9], [2, 10], [2, 7, 11], [2, 12]] (by kernel_rfl) (by kernel_rfl) (by simp [mixV])
    · trivial
    · simp (maxSteps := 1000000) only [List.take_succ_cons, List.take_zero, oblFrom, stepObl, fillFrom, Act.put, List.setIfInBounds_toArray, List.set_cons_zero, List.set_cons_succ, knows, getV, mixV, List.getD_cons_zero, List.getD_cons_succ, and_true, true_and, forall_const]
      refine ⟨?_, ?_, ?_, ?_, ?_, ?_, ?_, ?_, ?_, ?_, ?_, ?_, ?_, ?_⟩
      · intro xs wq hq R hR
        go_simp
        exact hR _ _ (Ext.refl _) rfl
      · intro xs wq hq hk R hR
        go_simp
        exact hR _ _ (Ext.refl _) rfl
      · intro xs wq hq hk R hR
        go_simp
        exact hR _ _ (Ext.refl _) rfl
      · intro xs wq hq hk R hR
        go_simp
        exact hR _ _ (Ext.refl _) rfl
      · intro xs wq hq hk R hR
        go_simp
        exact hR _ _ (Ext.refl _) rfl
      · intro xs wq hq hk R hR
        obtain ⟨hk0, hk1⟩ := hk
        go_simp
        exact hR _ _ (Ext.refl _) rfl
      · intro xs wq hq hk R hR
        obtain ⟨hk0, hk1, hk2⟩ := hk
        go_simp
        exact hR _ _ (Ext.refl _) rfl
      · intro xs wq hq hk R hR
        obtain ⟨hk0, hk1⟩ := hk
        go_simp
        exact hR _ _ (Ext.refl _) rfl
      · intro xs wq hq hk R hR
        go_simp
        exact hR _ _ (Ext.refl _) rfl
      · intro xs wq hq hk R hR
        go_simp
        exact hR _ _ (Ext.refl _) rfl
      · intro xs wq hq hk R hR
        obtain ⟨hk0, hk1, hk2⟩ := hk
        go_simp
        exact hR _ _ (Ext.refl _) rfl
      · intro xs wq hq hk R hR
        obtain ⟨hk0, hk1⟩ := hk
        go_simp
        exact hR _ _ (Ext.refl _) rfl
      · intro xs wq hq hk R hR
        obtain ⟨hk0, hk1, hk2⟩ := hk
        go_simp
        exact hR _ _ (Ext.refl _) rfl
      · intro xs wq hq hk R hR
        obtain ⟨hk0, hk1⟩ := hk
        go_simp
        exact hR _ _ (Ext.refl _) rfl
    intro xs w2 hx2 hk
    simp only [heldV, Nat.zero_add, Nat.reduceAdd, and_true] at hk
    obtain ⟨q0, q1, q2, q3, q4, q5, q6, q7, q8, q9, q10, q11, q12, q13⟩ := hk
    simp (maxSteps := 1000000) only [List.take_succ_cons, List.take_zero, List.drop_succ_cons, List.drop_zero, fillFrom, Act.put, List.setIfInBounds_toArray, List.set_cons_zero, List.set_cons_succ, Nat.zero_add, Nat.reduceAdd, q0, q1, q2, q3, q4, q5, q6, q7, q8, q9, q10, q11, q12, q13]
    clear q0 q1 q2 q3 q4 q5 q6 q7 q8 q9 q10 q11 q12 q13
  case' pos =>
    obtain ⟨j, hj⟩ : ∃ j, k = j + 1 := ⟨k - 1, by omega⟩
    have hjn : j < n := by omega
    obtain ⟨ob, oo2, hoa, hoc⟩ := HOG.out j hjn
    have hp1 := HXO.out.cell (hoc j hjn)
    cases hoa
    obtain ⟨p, hpe⟩ : ∃ p, U[j]? = some p := ⟨_, List.getElem?_eq_getElem (by rw [HUN.out]; exact hjn)⟩
    rw [show U.getD j [] = p by rw [List.getD_eq_getElem?_getD, hpe]; rfl] at hp1
    have HPE : Hid _ := hpe
    have hwj : IntKind.i64.wrap ((k : Int) - 1) = (j : Int) := by rw [IntWalk.i64_in _ (by omega)]; omega
    have hk00 : (0 : Int) < (k : Int) := by omega
    obtain ⟨b, hb⟩ : ∃ b, ltB p s = b := ⟨_, rfl⟩
    have hlp : Op.bytesLess p s = b := by rw [less_ltB]; exact hb
    have HB : Hid _ := hb
    clear hoc hpe hb
    cases b
    case' false =>
      have HDX : Hid (∀ y ∈ U.drop j, ltB y s = false) := drop_step HPE.out HB.out (by have h9 := HD.out; rwa [hj] at h9)
      have HJ : Hid _ := hj
      clear hj
      go_upto_region 6 with fail
      apply wp_region_mix 14 [_, _, _, _, _, .int .i64 (j : Int), _, S8 p, _, _, _, _, .bool true, .bool true] [none, none, none, none, none, none, none, none, none, none, none, none, none, none] [[], [0], [1], [2], [2], [2, 4], [2, 3, 5], [2, 6], [2], [2], [2, 8, 9], [2, 10], [2, 7, 11], [2, 12]] (by kernel_rfl) (by kernel_rfl) (by simp [mixV])
      · trivial
      · simp (maxSteps := 1000000) only [List.take_succ_cons, List.take_zero, oblFrom, stepObl, fillFrom, Act.put, List.setIfInBounds_toArray, List.set_cons_zero, List.set_cons_succ, knows, getV, mixV, List.getD_cons_zero, List.getD_cons_succ, and_true, true_and, forall_const]
        refine ⟨?_, ?_, ?_, ?_, ?_, ?_, ?_, ?_, ?_, ?_, ?_, ?_, ?_, ?_⟩
        · intro xs wq hq R hR
          have f1 := hq.cell hp1; have f2 := hq.cell y1
          go_simp
          exact hR _ _ (Ext.refl _) rfl
        · intro xs wq hq hk R hR
          have f1 := hq.cell hp1; have f2 := hq.cell y1
          go_simp
          exact hR _ _ (Ext.refl _) rfl
        · intro xs wq hq hk R hR
          have f1 := hq.cell hp1; have f2 := hq.cell y1
          go_simp
          exact hR _ _ (Ext.refl _) rfl
        · intro xs wq hq hk R hR
          have f1 := hq.cell hp1; have f2 := hq.cell y1
          go_simp
          exact hR _ _ (Ext.refl _) rfl
        · intro xs wq hq hk R hR
          have f1 := hq.cell hp1; have f2 := hq.cell y1
          go_simp
          exact hR _ _ (Ext.refl _) rfl
        · intro xs wq hq hk R hR
          obtain ⟨hk0, hk1⟩ := hk
          have f1 := hq.cell hp1; have f2 := hq.cell y1
          go_simp
          exact hR _ _ (Ext.refl _) rfl
        · intro xs wq hq hk R hR
          obtain ⟨hk0, hk1, hk2⟩ := hk
          have f1 := hq.cell hp1; have f2 := hq.cell y1
          go_simp
          exact hR _ _ (Ext.refl _) rfl
        · intro xs wq hq hk R hR
          obtain ⟨hk0, hk1⟩ := hk
          have f1 := hq.cell hp1; have f2 := hq.cell y1
          go_simp
          exact hR _ _ (Ext.refl _) rfl
        · intro xs wq hq hk R hR
          have f1 := hq.cell hp1; have f2 := hq.cell y1
          go_simp
          exact hR _ _ (Ext.refl _) rfl
        · intro xs wq hq hk R hR
          have f1 := hq.cell hp1; have f2 := hq.cell y1
          go_simp
          exact hR _ _ (Ext.refl _) rfl
        · intro xs wq hq hk R hR
          obtain ⟨hk0, hk1, hk2⟩ := hk
          have f1 := hq.cell hp1; have f2 := hq.cell y1
          go_simp
          exact hR _ _ (Ext.refl _) rfl
        · intro xs wq hq hk R hR
          obtain ⟨hk0, hk1⟩ := hk
          have f1 := hq.cell hp1; have f2 := hq.cell y1
          go_simp
          exact hR _ _ (Ext.refl _) rfl
        · intro xs wq hq hk R hR
          obtain ⟨hk0, hk1, hk2⟩ := hk
          have f1 := hq.cell hp1; have f2 := hq.cell y1
          go_simp
          exact hR _ _ (Ext.refl _) rfl
        · intro xs wq hq hk R hR
          obtain ⟨hk0, hk1⟩ := hk
          have f1 := hq.cell hp1; have f2 := hq.cell y1
          go_simp
          exact hR _ _ (Ext.refl _) rfl
      intro xs w2 hx2 hk
      simp only [heldV, Nat.zero_add, Nat.reduceAdd, and_true] at hk
      obtain ⟨q0, q1, q2, q3, q4, q5, q6, q7, q8, q9, q10, q11, q12, q13⟩ := hk
      simp (maxSteps := 1000000) only [List.take_succ_cons, List.take_zero, List.drop_succ_cons, List.drop_zero, fillFrom, Act.put, List.setIfInBounds_toArray, List.set_cons_zero, List.set_cons_succ, Nat.zero_add, Nat.reduceAdd, q0, q1, q2, q3, q4, q5, q6, q7, q8, q9, q10, q11, q12, q13]
      clear q0 q1 q2 q3 q4 q5 q6 q7 q8 q9 q10 q11 q12 q13
      have HX2 : Hid (Ext wo w2) := HXO.out.trans hx2
      clear hx2 y1 hp1
      go_wp2_with fail
      go_roundw
      case rel => exact ⟨j, by omega, rfl, HX2, HDX⟩
      case measure => have := HJ.out; simp [intOf]; omega
    case' true =>
      have HST : Hid (∀ y ∈ U.take k, ltB y s = true) := rise_stop HUR.out (.inr ⟨p, by rw [show k - 1 = j by omega]; exact HPE.out, HB.out⟩)
      clear hj
      go_upto_region 6 with fail
      apply wp_region_mix 14 [_, _, _, _, _, .int .i64 (j : Int), _, S8 p, _, _, _, _, .bool false, .bool false] [none, none, none, none, none, none, none, none, none, none, none, none, none, none] [[], [0], [1], [2], [2], [2, 4], [2, 3, 5], [2, 6], [2], [2], [2, 8, 9], [2, 10], [2, 7, 11], [2, 12]] (by kernel_rfl) (by kernel_rfl) (by simp [mixV])
      · trivial
      · simp (maxSteps := 1000000) only [List.take_succ_cons, List.take_zero, oblFrom, stepObl, fillFrom, Act.put, List.setIfInBounds_toArray, List.set_cons_zero, List.set_cons_succ, knows, getV, mixV, List.getD_cons_zero, List.getD_cons_succ, and_true, true_and, forall_const]
        refine ⟨?_, ?_, ?_, ?_, ?_, ?_, ?_, ?_, ?_, ?_, ?_, ?_, ?_, ?_⟩
        · intro xs wq hq R hR
          have f1 := hq.cell hp1; have f2 := hq.cell y1
          go_simp
          exact hR _ _ (Ext.refl _) rfl
        · intro xs wq hq hk R hR
          have f1 := hq.cell hp1; have f2 := hq.cell y1
          go_simp
          exact hR _ _ (Ext.refl _) rfl
        · intro xs wq hq hk R hR
          have f1 := hq.cell hp1; have f2 := hq.cell y1
          go_simp
          exact hR _ _ (Ext.refl _) rfl
        · intro xs wq hq hk R hR
          have f1 := hq.cell hp1; have f2 := hq.cell y1
          go_simp
          exact hR _ _ (Ext.refl _) rfl
        · intro xs wq hq hk R hR
          have f1 := hq.cell hp1; have f2 := hq.cell y1
          go_simp
          exact hR _ _ (Ext.refl _) rfl
        · intro xs wq hq hk R hR
          obtain ⟨hk0, hk1⟩ := hk
          have f1 := hq.cell hp1; have f2 := hq.cell y1
          go_simp
          exact hR _ _ (Ext.refl _) rfl
        · intro xs wq hq hk R hR
          obtain ⟨hk0, hk1, hk2⟩ := hk
          have f1 := hq.cell hp1; have f2 := hq.cell y1
          go_simp
          exact hR _ _ (Ext.refl _) rfl
        · intro xs wq hq hk R hR
          obtain ⟨hk0, hk1⟩ := hk
          have f1 := hq.cell hp1; have f2 := hq.cell y1
          go_simp
          exact hR _ _ (Ext.refl _) rfl
        · intro xs wq hq hk R hR
          have f1 := hq.cell hp1; have f2 := hq.cell y1
          go_simp
          exact hR _ _ (Ext.refl _) rfl
        · intro xs wq hq hk R hR
          have f1 := hq.cell hp1; have f2 := hq.cell y1
          go_simp
          exact hR _ _ (Ext.refl _) rfl
        · intro xs wq hq hk R hR
          obtain ⟨hk0, hk1, hk2⟩ := hk
          have f1 := hq.cell hp1; have f2 := hq.cell y1
          go_simp
          exact hR _ _ (Ext.refl _) rfl
        · intro xs wq hq hk R hR
          obtain ⟨hk0, hk1⟩ := hk
          have f1 := hq.cell hp1; have f2 := hq.cell y1
          go_simp
          exact hR _ _ (Ext.refl _) rfl
        · intro xs wq hq hk R hR
          obtain ⟨hk0, hk1, hk2⟩ := hk
          have f1 := hq.cell hp1; have f2 := hq.cell y1
          go_simp
          exact hR _ _ (Ext.refl _) rfl
        · intro xs wq hq hk R hR
          obtain ⟨hk0, hk1⟩ := hk
          have f1 := hq.cell hp1; have f2 := hq.cell y1
          go_simp
          exact hR _ _ (Ext.refl _) rfl
      intro xs w2 hx2 hk
      simp only [heldV, Nat.zero_add, Nat.reduceAdd, and_true] at hk
      obtain ⟨q0, q1, q2, q3, q4, q5, q6, q7, q8, q9, q10, q11, q12, q13⟩ := hk
      simp (maxSteps := 1000000) only [List.take_succ_cons, List.take_zero, List.drop_succ_cons, List.drop_zero, fillFrom, Act.put, List.setIfInBounds_toArray, List.set_cons_zero, List.set_cons_succ, Nat.zero_add, Nat.reduceAdd, q0, q1, q2, q3, q4, q5, q6, q7, q8, q9, q10, q11, q12, q13]
      clear q0 q1 q2 q3 q4 q5 q6 q7 q8 q9 q10 q11 q12 q13
      clear hp1 hwj
  all_goals
    have HX2 : Hid (Ext wo w2) := HXO.out.trans hx2
    have y2 := hx2.cell y1
    clear hx2 y1 HXO
    by_cases hkn : k < n
    case' neg =>
      have hkk : ¬ (k : Int) < (n : Int) := by omega
      have HAB : Hid (∀ y ∈ U.drop k, ltB s y = true) := fun y hy => by rw [List.drop_of_length_le (by rw [HUN.out]; omega)] at hy; cases hy
      go_upto_region 8 with fail
      apply wp_region_mix 15 [_, _, _, _, _, _, _, _, _, _, _, _, _, _, .bool false] [none, none, none, none, none, none, none, none, none, none, none, none, none, none, none] [[], [], [1], [0, 2], [3], [4], [4], [4, 5, 6], [4, 7], [4], [4], [4, 9, 10], [4, 11], [4, 8, 12], [4, 13]] (by kernel_rfl) (by kernel_rfl) (by simp [mixV])
      · trivial
      · simp (maxSteps := 1000000) only [List.take_succ_cons, List.take_zero, oblFrom, stepObl, fillFrom, Act.put, List.setIfInBounds_toArray, List.set_cons_zero, List.set_cons_succ, knows, getV, mixV, List.getD_cons_zero, List.getD_cons_succ, and_true, true_and, forall_const]
        refine ⟨?_, ?_, ?_, ?_, ?_, ?_, ?_, ?_, ?_, ?_, ?_, ?_, ?_, ?_, ?_⟩
        · intro xs wq hq R hR
          go_simp
          exact hR _ _ (Ext.refl _) rfl
        · intro xs wq hq R hR
          go_simp
          exact hR _ _ (Ext.refl _) rfl
        · intro xs wq hq hk R hR
          go_simp
          exact hR _ _ (Ext.refl _) rfl
        · intro xs wq hq hk R hR
          obtain ⟨hk0, hk1⟩ := hk
          go_simp
          exact hR _ _ (Ext.refl _) rfl
        · intro xs wq hq hk R hR
          go_simp
          exact hR _ _ (Ext.refl _) rfl
        · intro xs wq hq hk R hR
          go_simp
          exact hR _ _ (Ext.refl _) rfl
        · intro xs wq hq hk R hR
          go_simp
          exact hR _ _ (Ext.refl _) rfl
        · intro xs wq hq hk R hR
          obtain ⟨hk0, hk1, hk2⟩ := hk
          go_simp
          exact hR _ _ (Ext.refl _) rfl
        · intro xs wq hq hk R hR
          obtain ⟨hk0, hk1⟩ := hk
          go_simp
          exact hR _ _ (Ext.refl _) rfl
        · intro xs wq hq hk R hR
          go_simp
          exact hR _ _ (Ext.refl _) rfl
        · intro xs wq hq hk R hR
          go_simp
          exact hR _ _ (Ext.refl _) rfl
        · intro xs wq hq hk R hR
          obtain ⟨hk0, hk1, hk2⟩ := hk
          go_simp
          exact hR _ _ (Ext.refl _) rfl
        · intro xs wq hq hk R hR
          obtain ⟨hk0, hk1⟩ := hk
          go_simp
          exact hR _ _ (Ext.refl _) rfl
        · intro xs wq hq hk R hR
          obtain ⟨hk0, hk1, hk2⟩ := hk
          go_simp
          exact hR _ _ (Ext.refl _) rfl
        · intro xs wq hq hk R hR
          obtain ⟨hk0, hk1⟩ := hk
          go_simp
          exact hR _ _ (Ext.refl _) rfl
      intro xs w3 hx3 hk
      simp only [heldV, Nat.zero_add, Nat.reduceAdd, and_true] at hk
      obtain ⟨q0, q1, q2, q3, q4, q5, q6, q7, q8, q9, q10, q11, q12, q13, q14⟩ := hk
      simp (maxSteps := 1000000) only [List.take_succ_cons, List.take_zero, List.drop_succ_cons, List.drop_zero, fillFrom, Act.put, List.setIfInBounds_toArray, List.set_cons_zero, List.set_cons_succ, Nat.zero_add, Nat.reduceAdd, q0, q1, q2, q3, q4, q5, q6, q7, q8, q9, q10, q11, q12, q13, q14]
      clear q0 q1 q2 q3 q4 q5 q6 q7 q8 q9 q10 q11 q12 q13 q14
    case' pos =>
      obtain ⟨qb, qo, hoa, hoc⟩ := HOG.out k hkn
      have hp1 := HX2.out.cell (hoc k hkn)
      cases hoa
      obtain ⟨q, hqe⟩ : ∃ q, U[k]? = some q := ⟨_, List.getElem?_eq_getElem (by rw [HUN.out]; exact hkn)⟩
      rw [show U.getD k [] = q by rw [List.getD_eq_getElem?_getD, hqe]; rfl] at hp1
      have HQE : Hid _ := hqe
      have htq : (⟨q.toArray⟩ : ByteArray).toList = q := Lib.toList_data _
      have hts : (⟨s.toArray⟩ : ByteArray).toList = s := Lib.toList_data _
      have hkk : (k : Int) < (n : Int) := by omega
      clear hoc hqe
      obtain ⟨bq, hbq⟩ : ∃ bq, (q == s) = bq := ⟨_, rfl⟩
      cases bq
      case' true =>
        have HSAME : Hid (uniqT (l.take (i + 1)) = U) := by
          have h9 := uniq_snoc_old HSE.out (by rw [HUU.out]; have h8 : q = s := (by simpa using hbq); rw [← h8]; exact List.mem_of_getElem? HQE.out)
          rw [HUU.out] at h9
          exact h9
        go_upto_region 8 with fail
        apply wp_region_mix 15 [_, _, _, _, _, _, _, _, _, _, _, _, _, _, .bool true] [none, none, none, none, none, none, none, none, none, none, none, none, none, none, none] [[], [], [1], [0, 2], [3], [4], [4], [4, 5, 6], [4, 7], [4], [4], [4, 9, 10], [4, 11], [4, 8, 12], [4, 13]] (by kernel_rfl) (by kernel_rfl) (by simp [mixV])
        · trivial
        · simp (maxSteps := 1000000) only [List.take_succ_cons, List.take_zero, oblFrom, stepObl, fillFrom, Act.put, List.setIfInBounds_toArray, List.set_cons_zero, List.set_cons_succ, knows, getV, mixV, List.getD_cons_zero, List.getD_cons_succ, and_true, true_and, forall_const]
          refine ⟨?_, ?_, ?_, ?_, ?_, ?_, ?_, ?_, ?_, ?_, ?_, ?_, ?_, ?_, ?_⟩
          · intro xs wq hq R hR
            have f1 := hq.cell hp1; have f2 := hq.cell y2
            go_simp
            exact hR _ _ (Ext.refl _) rfl
          · intro xs wq hq R hR
            have f1 := hq.cell hp1; have f2 := hq.cell y2
            go_simp
            exact hR _ _ (Ext.refl _) rfl
          · intro xs wq hq hk R hR
            have f1 := hq.cell hp1; have f2 := hq.cell y2
            go_simp
            exact hR _ _ (Ext.refl _) rfl
          · intro xs wq hq hk R hR
            obtain ⟨hk0, hk1⟩ := hk
            have f1 := hq.cell hp1; have f2 := hq.cell y2
            go_simp
            exact hR _ _ (Ext.refl _) rfl
          · intro xs wq hq hk R hR
            have f1 := hq.cell hp1; have f2 := hq.cell y2
            go_simp
            exact hR _ _ (Ext.refl _) rfl
          · intro xs wq hq hk R hR
            have f1 := hq.cell hp1; have f2 := hq.cell y2
            go_simp
            exact hR _ _ (Ext.refl _) rfl
          · intro xs wq hq hk R hR
            have f1 := hq.cell hp1; have f2 := hq.cell y2
            go_simp
            exact hR _ _ (Ext.refl _) rfl
          · intro xs wq hq hk R hR
            obtain ⟨hk0, hk1, hk2⟩ := hk
            have f1 := hq.cell hp1; have f2 := hq.cell y2
            go_simp
            exact hR _ _ (Ext.refl _) rfl
          · intro xs wq hq hk R hR
            obtain ⟨hk0, hk1⟩ := hk
            have f1 := hq.cell hp1; have f2 := hq.cell y2
            go_simp
            exact hR _ _ (Ext.refl _) rfl
          · intro xs wq hq hk R hR
            have f1 := hq.cell hp1; have f2 := hq.cell y2
            go_simp
            exact hR _ _ (Ext.refl _) rfl
          · intro xs wq hq hk R hR
            have f1 := hq.cell hp1; have f2 := hq.cell y2
            go_simp
            exact hR _ _ (Ext.refl _) rfl
          · intro xs wq hq hk R hR
            obtain ⟨hk0, hk1, hk2⟩ := hk
            have f1 := hq.cell hp1; have f2 := hq.cell y2
            go_simp
            exact hR _ _ (Ext.refl _) rfl
          · intro xs wq hq hk R hR
            obtain ⟨hk0, hk1⟩ := hk
            have f1 := hq.cell hp1; have f2 := hq.cell y2
            go_simp
            exact hR _ _ (Ext.refl _) rfl
          · intro xs wq hq hk R hR
            obtain ⟨hk0, hk1, hk2⟩ := hk
            have f1 := hq.cell hp1; have f2 := hq.cell y2
            go_simp
            exact hR _ _ (Ext.refl _) rfl
          · intro xs wq hq hk R hR
            obtain ⟨hk0, hk1⟩ := hk
            have f1 := hq.cell hp1; have f2 := hq.cell y2
            go_simp
            exact hR _ _ (Ext.refl _) rfl
        intro xs w3 hx3 hk
        simp only [heldV, Nat.zero_add, Nat.reduceAdd, and_true] at hk
        obtain ⟨q0, q1, q2, q3, q4, q5, q6, q7, q8, q9, q10, q11, q12, q13, q14⟩ := hk
        simp (maxSteps := 1000000) only [List.take_succ_cons, List.take_zero, List.drop_succ_cons, List.drop_zero, fillFrom, Act.put, List.setIfInBounds_toArray, List.set_cons_zero, List.set_cons_succ, Nat.zero_add, Nat.reduceAdd, q0, q1, q2, q3, q4, q5, q6, q7, q8, q9, q10, q11, q12, q13, q14]
        clear q0 q1 q2 q3 q4 q5 q6 q7 q8 q9 q10 q11 q12 q13 q14
        have hx13 : Ext wo w3 := HX2.out.trans hx3
        have hown4 : w3.ownsRow w.heap.size 9 1 _ n (U.map S8) := owns_ext HOW.out hx13
        clear hx3 y2 hp1
        go_wp2_with fail
        go_roundw
        case rel => exact ⟨i + 1, by omega, by go_num, (by unfold Hid; rw [HSAME.out, HUN.out]; exact hown4), HX.out.trans hx13⟩
        case measure => simp [intOf]; omega
      case' false =>
        have HAB : Hid (∀ y ∈ U.drop k, ltB s y = true) := drop_above HUR.out HD.out (fun q' hq' => by
          rw [HQE.out] at hq'
          cases hq'
          simpa using hbq)
        go_upto_region 8 with fail
        apply wp_region_mix 15 [_, _, _, _, _, _, _, _, _, _, _, _, _, _, .bool false] [none, none, none, none, none, none, none, none, none, none, none, none, none, none, none] [[], [], [1], [0, 2], [3], [4], [4], [4, 5, 6], [4, 7], [4], [4], [4, 9, 10], [4, 11], [4, 8, 12], [4, 13]] (by kernel_rfl) (by kernel_rfl) (by simp [mixV])
        · trivial
        · simp (maxSteps := 1000000) only [List.take_succ_cons, List.take_zero, oblFrom, stepObl, fillFrom, Act.put, List.setIfInBounds_toArray, List.set_cons_zero, List.set_cons_succ, knows, getV, mixV, List.getD_cons_zero, List.getD_cons_succ, and_true, true_and, forall_const]
          refine ⟨?_, ?_, ?_, ?_, ?_, ?_, ?_, ?_, ?_, ?_, ?_, ?_, ?_, ?_, ?_⟩
          · intro xs wq hq R hR
            have f1 := hq.cell hp1; have f2 := hq.cell y2
            go_simp
            exact hR _ _ (Ext.refl _) rfl
          · intro xs wq hq R hR
            have f1 := hq.cell hp1; have f2 := hq.cell y2
            go_simp
            exact hR _ _ (Ext.refl _) rfl
          · intro xs wq hq hk R hR
            have f1 := hq.cell hp1; have f2 := hq.cell y2
            go_simp
            exact hR _ _ (Ext.refl _) rfl
          · intro xs wq hq hk R hR
            obtain ⟨hk0, hk1⟩ := hk
            have f1 := hq.cell hp1; have f2 := hq.cell y2
            go_simp
            exact hR _ _ (Ext.refl _) rfl
          · intro xs wq hq hk R hR
            have f1 := hq.cell hp1; have f2 := hq.cell y2
            go_simp
            exact hR _ _ (Ext.refl _) rfl
          · intro xs wq hq hk R hR
            have f1 := hq.cell hp1; have f2 := hq.cell y2
            go_simp
            exact hR _ _ (Ext.refl _) rfl
          · intro xs wq hq hk R hR
            have f1 := hq.cell hp1; have f2 := hq.cell y2
            go_simp
            exact hR _ _ (Ext.refl _) rfl
          · intro xs wq hq hk R hR
            obtain ⟨hk0, hk1, hk2⟩ := hk
            have f1 := hq.cell hp1; have f2 := hq.cell y2
            go_simp
            exact hR _ _ (Ext.refl _) rfl
          · intro xs wq hq hk R hR
            obtain ⟨hk0, hk1⟩ := hk
            have f1 := hq.cell hp1; have f2 := hq.cell y2
            go_simp
            exact hR _ _ (Ext.refl _) rfl
          · intro xs wq hq hk R hR
            have f1 := hq.cell hp1; have f2 := hq.cell y2
            go_simp
            exact hR _ _ (Ext.refl _) rfl
          · intro xs wq hq hk R hR
            have f1 := hq.cell hp1; have f2 := hq.cell y2
            go_simp
            exact hR _ _ (Ext.refl _) rfl
          · intro xs wq hq hk R hR
            obtain ⟨hk0, hk1, hk2⟩ := hk
            have f1 := hq.cell hp1; have f2 := hq.cell y2
            go_simp
            exact hR _ _ (Ext.refl _) rfl
          · intro xs wq hq hk R hR
            obtain ⟨hk0, hk1⟩ := hk
            have f1 := hq.cell hp1; have f2 := hq.cell y2
            go_simp
            exact hR _ _ (Ext.refl _) rfl
          · intro xs wq hq hk R hR
            obtain ⟨hk0, hk1, hk2⟩ := hk
            have f1 := hq.cell hp1; have f2 := hq.cell y2
            go_simp
            exact hR _ _ (Ext.refl _) rfl
          · intro xs wq hq hk R hR
            obtain ⟨hk0, hk1⟩ := hk
            have f1 := hq.cell hp1; have f2 := hq.cell y2
            go_simp
            exact hR _ _ (Ext.refl _) rfl
        intro xs w3 hx3 hk
        simp only [heldV, Nat.zero_add, Nat.reduceAdd, and_true] at hk
        obtain ⟨q0, q1, q2, q3, q4, q5, q6, q7, q8, q9, q10, q11, q12, q13, q14⟩ := hk
        simp (maxSteps := 1000000) only [List.take_succ_cons, List.take_zero, List.drop_succ_cons, List.drop_zero, fillFrom, Act.put, List.setIfInBounds_toArray, List.set_cons_zero, List.set_cons_succ, Nat.zero_add, Nat.reduceAdd, q0, q1, q2, q3, q4, q5, q6, q7, q8, q9, q10, q11, q12, q13, q14]
        clear q0 q1 q2 q3 q4 q5 q6 q7 q8 q9 q10 q11 q12 q13 q14
        clear hp1 htq hts hbq
    all_goals
      have HX3 : Hid (Ext wo w3) := HX2.out.trans hx3
      have y3 := hx3.cell y2
      clear hx3 y2
      have HY3 : Hid _ := y3
      have hA : (U.take k).length = k := by rw [List.length_take, HUN.out]; omega
      have hC : (U.drop k).length = n - k := by rw [List.length_drop, HUN.out]
      have HA : Hid _ := hA
      have HC : Hid _ := hC
      have HNEW : Hid (uniqT (l.take (i + 1)) = U.take k ++ s :: U.drop k) := by
        have h9 := uniq_snoc_new (k := k) HSE.out (by rw [HUU.out]; exact HST.out) (by rw [HUU.out]; exact HAB.out)
        rw [HUU.out] at h9
        exact h9
      have HOW3 : Hid (w3.ownsRow w.heap.size 9 1 _ n (U.map S8)) := owns_ext HOW.out HX3.out
      have HRW3 : Hid (Row w3 _ n (U.map S8)) := Row.ext HROW.out HX3.out
      have hkc : k ≤ oc := by omega
      have hfl : (U.map S8).length = n * 1 := by rw [List.length_map, HUN.out]; omega
      have HFL : Hid _ := hfl
      clear hA hC y3 hfl HAB HD
      go_upto_region 9 with fail
      apply wp_region_inv 12 (fun z w' => UJ w3 s (U.drop k) (z 7) (z 11) w') [false, false, false, false, false, false, false, true, false, false, false, true] [_, _, undef, _, _, _, S8 s, undef, _, _, undef, undef] [none, none, some (fun u => w3.ownsRow w.heap.size 9 1 u k ((U.take k).map S8)), none, none, none, none, none, none, none, some (fun u => Row w3 u (U.drop k).length ((U.drop k).map S8)), none] [[], [], [0, 1], [], [], [3, 4], [5], [6], [], [], [8, 9], [7, 10]] (by kernel_rfl) (by kernel_rfl) rfl
      · exact UJ.start ⟨rfl, rfl, rfl, Nat.le_refl _, fun _ _ => rfl⟩
      · simp (maxSteps := 1000000) only [oblI, stepI, knowsI, getP, mixP, List.getD_cons_zero, List.getD_cons_succ, Bool.false_eq_true, if_false, if_true, and_true, true_and, forall_const, Nat.zero_add, Nat.reduceAdd, List.take_succ_cons, List.take_zero, fillFrom, Act.put, List.setIfInBounds_toArray, List.set_cons_zero, List.set_cons_succ]
        refine ⟨?_, ?_, ?_, ?_, ?_, ?_, ?_, ?_, ?_, ?_, ?_, ?_⟩
        · intro xs z wq hj R hR
          go_simp
          exact hR _ _ hj rfl
        · intro xs z wq hj R hR
          go_simp
          exact hR _ _ hj rfl
        · intro xs z wq hj hk R hR
          obtain ⟨hk0, hk1⟩ := hk
          rcases HSH.out with ⟨h9, h0, h8⟩ | ⟨g9, h9⟩
          · first | (exact absurd h9 (by simp)) | (cases h9; subst h8; have hk00 : k = 0 := (by omega); subst hk00; go_simp; exact hR _ _ hj (World.ownsRow_nil _ _ _ _))
          · (cases h9; go_simp; exact hR _ _ hj (by have h8 := own_take HOW3.out hk (fun _ _ => trivial) (by simp); rwa [← List.map_take] at h8))
        · intro xs z wq hj R hR
          go_simp
          exact hR _ _ hj rfl
        · intro xs z wq hj R hR
          go_simp
          exact hR _ _ hj rfl
        · intro xs z wq hj hk R hR
          obtain ⟨hk0, hk1⟩ := hk
          go_simp
          exact hR _ _ hj rfl
        · intro xs z wq hj hk R hR
          have f1 := hj.ext.cell HY3.out
          go_simp
          exact hR _ _ hj rfl
        · intro xs z wq hj hz hk R hR
          go_simp
          exact hR _ _ hj.set7
        · intro xs z wq hj R hR
          go_simp
          exact hR _ _ hj rfl
        · intro xs z wq hj R hR
          go_simp
          exact hR _ _ hj rfl
        · intro xs z wq hj hk R hR
          obtain ⟨hk0, hk1⟩ := hk
          rcases HSH.out with ⟨h9, h0, h8⟩ | ⟨g9, h9⟩
          · first | (exact absurd h9 (by simp)) | (cases h9; subst h8; have hk00 : k = 0 := (by omega); have hU0 : U = [] := List.eq_nil_of_length_eq_zero (HUN.out.trans h0); subst hk00; subst hU0; go_simp; exact hR _ _ hj (Row.nil _))
          · (cases h9; go_simp; exact hR _ _ hj (by have h8 := Row.dropIf 1 HRW3.out hk HFL.out; rw [Nat.mul_one, ← List.map_drop] at h8; rw [HC.out]; exact h8))
        · intro xs z wq hj hz hk R hR
          obtain ⟨hk0, hk1⟩ := hk
          obtain ⟨v', w', hr, hj'⟩ := hj.set11 hk0 hz (xs 10) (hk1.ext hj.ext) (by rw [HC.out]; omega)
          apply rel_append (.tmp 52) (.tmp 55) 23 (v := xs 7) (xv := xs 10) (v' := v') (w' := w')
          · rfl
          · rfl
          · rfl
          · rfl
          · exact hr
          · exact hR _ _ hj'
      intro xs w4 hj4 hk
      simp only [zAll, List.getD_cons_zero, List.getD_cons_succ, Bool.false_eq_true, if_false, if_true] at hj4
      simp only [heldI, Nat.zero_add, Nat.reduceAdd, and_true] at hk
      obtain ⟨q0, q1, q2, q3, q4, q5, q6, q8, q9, q10⟩ := hk
      simp (maxSteps := 1000000) only [List.drop_succ_cons, List.drop_zero, Nat.zero_add, Nat.reduceAdd, List.take_succ_cons, List.take_zero, fillFrom, Act.put, List.setIfInBounds_toArray, List.set_cons_zero, List.set_cons_succ, q0, q1, q3, q4, q5, q6, q8, q9]
      clear q0 q1 q3 q4 q5 q6 q8 q9
      generalize xs 2 = x2 at *
      generalize xs 7 = x7 at *
      generalize xs 10 = x10 at *
      generalize xs 11 = x11 at *
      have HX4 : Hid (Ext w w4) := (HX.out.trans HX3.out).trans hj4.ext
      have hown4 := owns_ext q2 hj4.ext
      have hown6 := hj4.f11 _ rfl
      have hrow6 := Row.of_owns hown6 (by rw [HC.out]; omega)
      have hsz4 := HX4.out.size
      clear q10 q2
      go_wp2_with (at_builtin; go_must (refine appS_op 23 9 (S8 []) 1 16 Tryz.underlying23 info_str rfl (by omega) rfl _ _ rfl rfl w.heap.size _ k _ rfl hown4 _ (1 + (U.drop k).length) _ rfl hrow6 (by simp; omega) (uj_one s (U.drop k)) (by rw [HC.out]; omega) (by rw [HC.out]; omega) hsz4 ?_; intro v' w5 hown5 hg5))
      go_roundw
      case rel =>
        refine ⟨i + 1, by omega, by go_num, ?_, owns_ext_app HX4.out hown4 hg5⟩
        unfold Hid
        rw [HNEW.out, List.length_append, List.length_cons, HA.out, List.map_append, List.map_cons, show k + ((U.drop k).length + 1) = k + (1 + (U.drop k).length) by omega]
        exact hown5
      case measure => simp [intOf]; omega

end Go.Proofs.YtdhgmpibjneplaaGreatDoor
