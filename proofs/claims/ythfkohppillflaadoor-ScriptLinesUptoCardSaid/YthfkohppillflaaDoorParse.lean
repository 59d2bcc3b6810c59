/- script.Parse: a line read as an act. Conditions: a line of at most 3000000 bytes. -/
import Derived.Test.YthfkohppillflaaDoorReadAct
namespace Go.Proofs.YthfkohppillflaaDoor
open Go Go.RowKit

def kindUpto (x : B8) : Nat → Nat
  | 0 => 0
  | k + 1 => if wordsL.getD k [] = x then k + 1 else kindUpto x k
theorem kindUpto_le (x : B8) : ∀ k, kindUpto x k ≤ k
  | 0 => Nat.le_refl _
  | k + 1 => by
    have := kindUpto_le x k
    unfold kindUpto
    split <;> omega
def kindOf (x : B8) : Nat := kindUpto x 8

def zeroA : Ac := ⟨0, 0, 0, 0, [], [], [], []⟩
def parseL (s : B8) : Ac × Int :=
  let l := cut 32 s
  let kind := kindOf (l.getD 0 [])
  if kind = 0 then (zeroA, 6) else if l.length < 8 then (zeroA, 2) else if printL (readL kind l) = s then (readL kind l, 0) else (zeroA, 4)

theorem atoiSat_I64 (l : B8) : I64 (numV l) := by
  unfold numV I64
  split
  · rename_i v h; exact Lib.atoiAll_bounds h
  · omega
  · exact Lib.atoiSat_bounds l

theorem noneL_le (l : B8) : (noneL l).length ≤ l.length := by unfold noneL; split <;> simp
theorem undL_le (l : B8) : (undL l).length ≤ l.length := by
  unfold undL
  split
  · simp
  · rw [undig_length]; omega
theorem readEvL_ok (l : B8) : (readEvL l).ok ∧ (readEvL l).path.length ≤ l.length ∧ (readEvL l).data.length ≤ l.length := by
  unfold readEvL
  simp only
  split
  · rename_i h7
    have hp : ∀ k, k < 7 → ((cut 58 l).getD k []).length ≤ l.length := fun k hk => cut_piece 58 l (getD_mem (by omega))
    exact ⟨⟨atoiSat_I64 _, atoiSat_I64 _, atoiSat_I64 _, atoiSat_I64 _, atoiSat_I64 _⟩, Nat.le_trans (noneL_le _) (hp 5 (by omega)), Nat.le_trans (undL_le _) (hp 6 (by omega))⟩
  · refine ⟨⟨?_, ?_, ?_, ?_, ?_⟩, by simp, by simp⟩ <;> simp [I64]

theorem getD_len {c : UInt8} {s : B8} (k : Nat) : ((cut c s).getD k []).length ≤ s.length := by
  by_cases h : k < (cut c s).length
  · exact cut_piece c s (getD_mem h)
  · simp [List.getD_eq_getElem?_getD, List.getElem?_eq_none (Nat.le_of_not_lt h)]

theorem readL_small {kind : Int} {s : B8} (hk : I64 kind) (hs : s.length ≤ 3000000) : (readL kind (cut 32 s)).small := by
  have hg := fun k => @getD_len 32 s k
  refine ⟨⟨hk, atoiSat_I64 _, atoiSat_I64 _, atoiSat_I64 _, ?_, ?_⟩, ?_, ?_, ?_, ?_, ?_⟩
  · intro f hf
    obtain ⟨x, _, rfl⟩ := List.mem_map.1 hf
    exact atoiSat_I64 _
  · intro e he
    obtain ⟨x, _, rfl⟩ := List.mem_map.1 he
    exact (readEvL_ok x).1
  · have := noneL_le ((cut 32 s).getD 4 []); have := hg 4; simp only [readL]; omega
  · have := undL_le ((cut 32 s).getD 5 []); have := hg 5; simp only [readL]; omega
  · have := listL_len ((cut 32 s).getD 6 []); have := hg 6; simp only [readL, List.length_map]; omega
  · have := listL_len ((cut 32 s).getD 7 []); have := hg 7; simp only [readL, List.length_map]; omega
  · intro e he
    obtain ⟨x, hx, rfl⟩ := List.mem_map.1 he
    have h1 := listL_piece _ x hx
    have h2 := hg 7
    have h3 := readEvL_ok x
    omega

theorem words_ne (x : B8) (k : Nat) (h : k < 8) : wordsL.getD k [] = x ∨ wordsL.getD k [] ≠ x := by
  by_cases hh : wordsL.getD k [] = x
  · exact .inl hh
  · exact .inr hh

set_option maxRecDepth 100000 in
set_option maxHeartbeats 4000000 in
theorem parse_any (s : B8) (w : World) (hE : Env w) (hs : s.length ≤ 3000000) :
    Calls Tryd.prog 9 #[S8 s] w fun e w' => (∃ cs, e = .returned (.tuple #[.agg cs.toArray, .int .i64 (parseL s).2]) ∧ IsAcT w' cs (parseL s).1) ∧ Ext w w' := by
  obtain ⟨w1, hw1⟩ : ∃ w1, w1 = w.alloc (.cells zeroAc.toArray 26) := ⟨_, rfl⟩
  have hx1 : Ext w w1 := by rw [hw1]; exact (Ext.refl _).alloc _
  have hg0 : w1.heap[w.heap.size]? = some (.cells zeroAc.toArray 26 (0, 0)) := by rw [hw1]; exact alloc_at _ _
  have HW1 : Hid _ := hw1
  have HE1 : Hid _ := hE.ext hx1
  obtain ⟨L, hL⟩ : ∃ L, cut 32 s = L := ⟨_, rfl⟩
  have HL : Hid _ := hL
  have hcl := cut_length 32 s
  have HP : Hid (∀ l ∈ L, l.length ≤ 3000000) := fun l hl => Nat.le_trans (cut_piece 32 s (by rw [hL]; exact hl)) (by omega)
  have HS : Hid _ := split_any ⟨s.toArray⟩ 32 w1 HE1.out (Nat.lt_of_le_of_lt hs (by decide))
  rw [show (⟨s.toArray⟩ : ByteArray).data.toList = s from rfl, hL] at HS
  rw [hL] at hcl
  have HSM : Hid (∀ kind, I64 kind → (readL kind L).small) := fun kind hk => by rw [← hL]; exact readL_small hk hs
  obtain ⟨x, hx⟩ : ∃ x, L.getD 0 [] = x := ⟨_, rfl⟩
  have HX : Hid _ := hx
  have hkl : kindOf x ≤ 8 := kindUpto_le x 8
  clear hw1 hE hL hx
  go_enter Tryd.func9, Tryd.ntmps9
  go_wp2_with fail
  rw [show w.alloc (.cells #[.int .i64 0, .int .i64 0, .int .i64 0, .int .i64 0, S8 [], .slice none 0 0, .slice none 0 0, .slice none 0 0] 26) = w1 from HW1.out.symm]
  go_wp2_with (first
    | (go_at_call 20; go_must (refine Calls.mono HS.out ?_; rintro e w2 ⟨v, rfl, hv, -, hx2⟩; obtain ⟨a, cap, rfl, h1, h2, h3, h4⟩ := hv.get; have HV : Hid _ := hv; clear hv))
    | (go_at_call 21; go_must (refine (words_any _).mono ?_; rintro e w3 ⟨⟨v, rfl, hv⟩, hx3⟩; obtain ⟨a', cap', rfl, i1, i2, i3, i4⟩ := hv.get; clear hv)))
  obtain ⟨b, o, rfl, hc⟩ := h4 0 (by omega)
  obtain ⟨b', o', rfl, hcw⟩ := i4 0 (by decide)
  have c0 : w3.cell? ⟨b, o, none⟩ = some (S8 x) := by rw [← HX.out]; exact hx3.cell (hc 0 (by omega))
  have hx13 := hx2.trans hx3
  have hg3 := hx13.row hg0
  have hw8 : wordsL.length = 8 := rfl
  have HCW : Hid _ := hcw
  have hL0 : 0 < L.length := by omega
  have hdx : (⟨x.toArray⟩ : ByteArray).toList = x := Lib.toList_data _
  have HV3 : Hid (IsStrs w3 (.slice (some ⟨b, o, none⟩) L.length cap) L) := IsStrs.ext HV.out hx3
  clear h4 i4 hc hcw HS HV hx2 hx3
  go_loop [5, 13] (fun q i => ∃ k : Nat, k ≤ 8 ∧ i = .int .i64 k ∧ q = .int .i64 (kindUpto x k)) (fun _ i => 8 - (intOf i).toNat)
  case atStart => exact ⟨0, by omega, rfl, rfl⟩
  case round =>
    obtain ⟨k, hk, rfl, rfl⟩ := hrel
    by_cases hlt : k < 8
    · obtain ⟨wd, hwd⟩ : ∃ wd, wordsL.getD k [] = wd := ⟨_, rfl⟩
      have ck := HCW.out k (by rw [hw8]; exact hlt)
      rw [hwd] at ck
      have hdw : (⟨wd.toArray⟩ : ByteArray).toList = wd := Lib.toList_data _
      by_cases hwx : wd = x
      · have hbe : (wd == x) = true := by simpa using hwx
        have hup : kindUpto x (k + 1) = k + 1 := by unfold kindUpto; rw [hwd, if_pos hwx]
        have HU : Hid _ := hup
        clear hwx hup hwd
        go_wp2
        go_round
        case rel => exact ⟨k + 1, by omega, by go_num, by rw [HU.out]; first | rfl | (congr 1; omega)⟩
        case measure => simp [intOf]; omega
      · have hbe : (wd == x) = false := by simpa using hwx
        have hup : kindUpto x (k + 1) = kindUpto x k := by
          rw [kindUpto, hwd, if_neg hwx]
        have HU : Hid _ := hup
        clear hwx hup hwd
        go_wp2
        go_round
        case rel => exact ⟨k + 1, by omega, by go_num, by rw [HU.out]⟩
        case measure => simp [intOf]; omega
    · have hkk : k = 8 := by omega
      subst hkk
      obtain ⟨K, hK⟩ : ∃ K, kindUpto x 8 = K := ⟨_, rfl⟩
      have HK : Hid (kindOf x = K) := hK
      rw [show kindOf x = K from hK] at hkl
      rw [hK]
      clear hK
      have hp : parseL s = if K = 0 then (zeroA, 6) else if L.length < 8 then (zeroA, 2) else if printL (readL K L) = s then (readL K L, 0) else (zeroA, 4) := by
        unfold parseL
        simp only [HL.out, HX.out, HK.out]
      have HPL : Hid _ := hp
      clear hp
      have hz : ∀ w' : World, IsAcT w' zeroAc zeroA := fun w' => ⟨_, _, _, rfl, ⟨Row.nil _, Typed.nil _ _ _ _⟩, ⟨Row.nil _, Typed.nil _ _ _ _⟩, [], Row.nil _, Typed.nil _ _ _ _, rfl, fun i c e hc _ => by simp at hc⟩
      have HZ : Hid _ := hz
      clear hz
      have hret : ∀ (wr : World) (cs : List Value), wr.heap[w.heap.size]? = some (.cells zeroAc.toArray 26 (0, 0)) → Ext w1 wr → Ext w (wr.setRow w.heap.size cs.toArray) := fun wr cs _ h => (hx1.trans h).setRow _ _ (Nat.le_refl _)
      have HRT : Hid _ := hret
      clear hret
      by_cases hK0 : K = 0
      · subst hK0
        go_wp2_with (refine wpList_store_row rfl 26 (.tmp 2) (.tmp 29) rfl w.heap.size zeroAc.toArray rfl rfl 26 _ hg3 sizeAc rfl (by simp [zeroAc, Value.oneCell']) ?_)
        refine bodyPost_ret (results_row_tmp rfl _ _ w.heap.size 26 zeroAc.toArray (0, 0) _ (.int .i64 6) rfl rfl (setRow_heap _ _ _ _ _ _ hg3) Tryd.underlying26 sizeAc) rfl ?_
        rw [HPL.out, if_pos trivial]
        exact ⟨⟨zeroAc, rfl, HZ.out _⟩, HRT.out _ _ hg3 hx13⟩
      · have hK1 : ((K : Int) == 0) = false := by simpa using hK0
        have HK0 : Hid _ := hK0
        clear hK0
        by_cases h8 : L.length < 8
        · have h8i : (L.length : Int) < 8 := by omega
          go_wp2_with (refine wpList_store_row rfl 26 (.tmp 2) (.tmp 34) rfl w.heap.size zeroAc.toArray rfl rfl 26 _ hg3 sizeAc rfl (by simp [zeroAc, Value.oneCell']) ?_)
          refine bodyPost_ret (results_row_tmp rfl _ _ w.heap.size 26 zeroAc.toArray (0, 0) _ (.int .i64 2) rfl rfl (setRow_heap _ _ _ _ _ _ hg3) Tryd.underlying26 sizeAc) rfl ?_
          rw [HPL.out, if_neg HK0.out, if_pos h8]
          exact ⟨⟨zeroAc, rfl, HZ.out _⟩, HRT.out _ _ hg3 hx13⟩
        · have h8i : ¬ (L.length : Int) < 8 := by omega
          have hI : I64 (K : Int) := by unfold I64; omega
          have HSA : Hid _ := HSM.out _ hI
          obtain ⟨pl, hpl⟩ : ∃ pl, printL (readL K L) = pl := ⟨_, rfl⟩
          have HPP : Hid _ := hpl
          have hds : (⟨s.toArray⟩ : ByteArray).toList = s := Lib.toList_data _
          have hdp : (⟨pl.toArray⟩ : ByteArray).toList = pl := Lib.toList_data _
          clear hpl
          by_cases hps : pl = s
          · subst hps
            go_wp2_with (first
              | (go_at_call 22; go_must (refine (read_any K _ L _ (HE1.out.ext hx13) HV3.out (by omega) HP.out).mono ?_; rintro e w4 ⟨⟨cs, rfl, hac⟩, hx4⟩; have hg4 := hx4.row hg3; have HAC : Hid _ := hac; obtain ⟨vd, vf, ve, rfl, ⟨⟨q1, q2, rfl, -⟩, -⟩, ⟨⟨q3, q4, rfl, -⟩, -⟩, ⟨q5, ⟨q6, q7, rfl, -⟩, -⟩⟩ := hac))
              | (go_at_call 11; go_must (refine (print_any (readL K L) _ _ (HE1.out.ext (hx13.trans (hx4.trans ((Ext.refl _).alloc _)))) (IsAc.ext (IsAcT.ac HAC.out) ((Ext.refl _).alloc _)) HSA.out).mono ?_; rw [HPP.out]; rintro e w5 ⟨rfl, hx5⟩; have hga5 := hx5.row (alloc_at _ _); have hg5 := hx5.row (((Ext.refl w4).alloc _).row hg4); have hx45 : Ext w4 w5 := ((Ext.refl w4).alloc _).trans hx5))
              | (refine wpList_load_row rfl 26 (.tmp 8) rfl w4.heap.size rfl 26 _ (0, 0) _ hga5 Tryd.underlying26 rfl sizeAc ?_)
              | (refine wpList_store_row rfl 26 (.tmp 2) (.tmp 43) rfl w.heap.size (acCells K (readL K L).a (readL K L).b (readL K L).n (readL K L).path (.slice q1 (readL K L).data.length q2) (.slice q3 (readL K L).fates.length q4) (.slice q6 (readL K L).events.length q7)) rfl rfl 26 _ hg5 sizeAc rfl (by simp [zeroAc, Value.oneCell']) ?_))
            refine bodyPost_ret (results_row_tmp rfl _ _ w.heap.size 26 (acCells K (readL K L).a (readL K L).b (readL K L).n (readL K L).path (.slice q1 (readL K L).data.length q2) (.slice q3 (readL K L).fates.length q4) (.slice q6 (readL K L).events.length q7)) (0, 0) _ (.int .i64 0) rfl rfl (setRow_heap _ _ _ _ _ _ hg5) Tryd.underlying26 sizeAc) rfl ?_
            rw [HPL.out, if_neg HK0.out, if_neg h8, if_pos HPP.out]
            refine ⟨⟨_, rfl, ?_⟩, (hx1.trans (hx13.trans (hx4.trans hx45))).setRow _ _ (Nat.le_refl _)⟩
            exact IsAcT.setRow (IsAcT.ext HAC.out hx45) hg5 _
          · have hbe : (pl == s) = false := by simpa using hps
            have HPS : Hid _ := hps
            clear hps
            go_wp2_with (first
              | (go_at_call 22; go_must (refine (read_any K _ L _ (HE1.out.ext hx13) HV3.out (by omega) HP.out).mono ?_; rintro e w4 ⟨⟨cs, rfl, hac⟩, hx4⟩; have hg4 := hx4.row hg3; have HAC : Hid _ := hac; obtain ⟨vd, vf, ve, rfl, ⟨⟨q1, q2, rfl, -⟩, -⟩, ⟨⟨q3, q4, rfl, -⟩, -⟩, ⟨q5, ⟨q6, q7, rfl, -⟩, -⟩⟩ := hac))
              | (go_at_call 11; go_must (refine (print_any (readL K L) _ _ (HE1.out.ext (hx13.trans (hx4.trans ((Ext.refl _).alloc _)))) (IsAc.ext (IsAcT.ac HAC.out) ((Ext.refl _).alloc _)) HSA.out).mono ?_; rw [HPP.out]; rintro e w5 ⟨rfl, hx5⟩; have hga5 := hx5.row (alloc_at _ _); have hg5 := hx5.row (((Ext.refl w4).alloc _).row hg4); have hx45 : Ext w4 w5 := ((Ext.refl w4).alloc _).trans hx5))
              | (refine wpList_load_row rfl 26 (.tmp 8) rfl w4.heap.size rfl 26 _ (0, 0) _ hga5 Tryd.underlying26 rfl sizeAc ?_)
              | (refine wpList_store_row rfl 26 (.tmp 2) (.tmp 42) rfl w.heap.size zeroAc.toArray rfl rfl 26 _ hg5 sizeAc rfl (by simp [zeroAc, Value.oneCell']) ?_))
            refine bodyPost_ret (results_row_tmp rfl _ _ w.heap.size 26 zeroAc.toArray (0, 0) _ (.int .i64 4) rfl rfl (setRow_heap _ _ _ _ _ _ hg5) Tryd.underlying26 sizeAc) rfl ?_
            rw [HPL.out, if_neg HK0.out, if_neg h8, if_neg (by rw [HPP.out]; exact HPS.out)]
            exact ⟨⟨zeroAc, rfl, HZ.out _⟩, (hx1.trans (hx13.trans (hx4.trans hx45))).setRow _ _ (Nat.le_refl _)⟩

end Go.Proofs.YthfkohppillflaaDoor
