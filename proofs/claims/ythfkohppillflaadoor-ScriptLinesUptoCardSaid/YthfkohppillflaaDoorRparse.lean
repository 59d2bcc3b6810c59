/- marref24.Parse: a line read as an act, as the program reads it. Conditions: a line of at most 1000000 signs. -/
import Derived.Test.YthfkohppillflaaDoorRprintB
import Derived.Test.YthfkohppillflaaDoorEdit
import Derived.Test.YthfkohppillflaaDoorNum
import Derived.Test.YthfkohppillflaaDoorRunhex
import Derived.Test.YthfkohppillflaaDoorReventOf
import Derived.Test.YthfkohppillflaaDoorRpure
import Derived.Deep.DeepCutAuto
namespace Go.Proofs.YthfkohppillflaaDoor
open Go Go.RowKit

theorem kindUpto_next (x : B8) (k : Nat) : kindUpto x (k + 1) = if wordsL.getD k [] = x then k + 1 else kindUpto x k := rfl

theorem evt_snoc {w w' : World} {css : List (List Value)} {es : List Ev} {k : Nat} {c : List Value} {x : Ev} (hcl : css.length = k) (hel : es.length = k) (h : ∀ (j : Nat) c e, css[j]? = some c → es[j]? = some e → IsEvT w c e) (hk : Keep 5 w w') (hx : IsEvT w' c x) :
    ∀ (j : Nat) d e, (css ++ [c])[j]? = some d → (es ++ [x])[j]? = some e → IsEvT w' d e := by
  intro j d e hd he
  rw [List.getElem?_append] at hd he
  rw [hcl] at hd
  rw [hel] at he
  by_cases hj : j < k
  · rw [if_pos hj] at hd he
    exact (h j d e hd he).keep hk
  · rw [if_neg hj] at hd he
    have h9 := (List.getElem?_eq_some_iff.1 hd).1
    have hz : j - k = 0 := by simp at h9; omega
    rw [hz] at hd he
    have e1 : c = d := by simpa using hd
    have e2 : x = e := by simpa using he
    rw [← e1, ← e2]
    exact hx
theorem evo_snoc {es : List Ev} {x : Ev} (h : ∀ e ∈ es, e.ok ∧ e.path.length ≤ 1000000 ∧ e.data.length ≤ 1000000) (h1 : x.ok) (h2 : x.path.length ≤ 1000000) (h3 : x.data.length ≤ 1000000) : ∀ e ∈ es ++ [x], e.ok ∧ e.path.length ≤ 1000000 ∧ e.data.length ≤ 1000000 := by
  intro e he
  rcases List.mem_append.1 he with he | he
  · exact h e he
  · rw [List.mem_singleton.1 he]; exact ⟨h1, h2, h3⟩
theorem owns_snoc {w w' : World} {base : Nat} {t : TypeId} {size : Nat} {v : Value} {n : Nat} {css : List (List Value)} {c : List Value} {g : Nat} {cs : Array Value} {t2 : TypeId} {fr : Nat × Nat} (h : w.ownsRow base t size v n (css.flatten ++ c)) (hg : w.grownBy w' (some g)) (hb : w.heap[g]? = some (.cells cs t2 fr)) (hne : t2 ≠ t) : w'.ownsRow base t size v n (css ++ [c]).flatten := by
  have : (css ++ [c]).flatten = css.flatten ++ c := by simp
  rw [this]
  exact owns_but h hg hb hne
theorem len_snoc {α : Type} {l : List α} {k : Nat} (h : l.length = k) (x : α) : (l ++ [x]).length = k + 1 := by simp [h]

theorem size_revs : (Tryd.prog.info? 32).map (·.size) = some 1 := by kernel_rfl

theorem set123 {w : World} {g : Nat} {t : TypeId} {k a b n : Int} {p : B8} {vd vf ve : Value} (h : w.heap[g]? = some (.cells (acCells k a b n p vd vf ve) t (0, 0))) (m0 m1 m2 : Int) :
    (((w.setCell ⟨g, 1, none⟩ (.int .i64 m0)).setCell ⟨g, 2, none⟩ (.int .i64 m1)).setCell ⟨g, 3, none⟩ (.int .i64 m2)).drew.heap[g]? = some (.cells (acCells k m0 m1 m2 p vd vf ve) t (0, 0)) := by
  have h1 : (w.setCell ⟨g, 1, none⟩ (.int .i64 m0)).heap[g]? = some (.cells (acCells k m0 b n p vd vf ve) t (0, 0)) := by
    rw [heap_setCell_same _ g 1 _ t _ h]
    simp
  have h2 : ((w.setCell ⟨g, 1, none⟩ (.int .i64 m0)).setCell ⟨g, 2, none⟩ (.int .i64 m1)).heap[g]? = some (.cells (acCells k m0 m1 n p vd vf ve) t (0, 0)) := by
    rw [heap_setCell_same _ g 2 _ t _ h1]
    simp
  have h3 : (((w.setCell ⟨g, 1, none⟩ (.int .i64 m0)).setCell ⟨g, 2, none⟩ (.int .i64 m1)).setCell ⟨g, 3, none⟩ (.int .i64 m2)).heap[g]? = some (.cells (acCells k m0 m1 m2 p vd vf ve) t (0, 0)) := by
    rw [heap_setCell_same _ g 3 _ t _ h2]
    simp
  exact h3

set_option maxRecDepth 100000 in
set_option maxHeartbeats 8000000 in
theorem rparse_any (s : B8) (w : World) (hs : s.length ≤ 1000000) :
    Calls Tryd.prog 10 #[S8 s] w fun e w' => (∃ cs, e = .returned (.tuple #[.agg cs.toArray, .int .i64 (parseL s).2]) ∧ IsAc w' cs (parseL s).1) ∧ Ext w w' := by
  have hx1 : Ext w (w.alloc (.cells zeroAc.toArray 34)) := (Ext.refl _).alloc _
  have hg1 := alloc_at w (.cells zeroAc.toArray 34)
  obtain ⟨L, hL⟩ : ∃ L, cut 32 s = L := ⟨_, rfl⟩
  have HL : Hid _ := hL
  have hcl := cut_length 32 s
  have HCP : Hid (∀ x ∈ L, x.length ≤ s.length) := fun x hx => cut_piece 32 s (by rw [hL]; exact hx)
  rw [hL] at hcl
  clear hL
  go_enter Tryd.func10, Tryd.ntmps10
  go_wp2_with fail
  go_at_call 23
  refine (rsplit_any ⟨s.toArray⟩ 32 _ hs).mono ?_
  rintro e w2 ⟨v, rfl, hv, hty, hx2⟩
  rw [show (⟨s.toArray⟩ : ByteArray).data.toList = s from rfl, HL.out] at hv
  obtain ⟨a, cap, rfl, h1, h2, h3, h4⟩ := hv.get
  obtain ⟨b, o, rfl, hc⟩ := h4 0 (by omega)
  have hg2 := hx2.row hg1
  have hx02 := hx1.trans hx2
  have HC : Hid _ := hc
  have hs2 := hx02.size
  have hbw : b < w2.heap.size := World.block_lt_of_cell? _ _ (hc 0 (by omega))
  clear h4 hv hx1 hx2 hg1
  have hx2a : Ext w2 (w2.alloc (.cells zeroAc.toArray 34)) := (Ext.refl _).alloc _
  have hg5 := alloc_at w2 (.cells zeroAc.toArray 34)
  go_wp2_with (go_at_call 24; go_must (refine (rwords_any _).mono ?_; rintro e w4 ⟨⟨gw, rfl, hgw, hgr⟩, hx4⟩; have hx24 := hx2a.trans hx4; have hg54 := hx4.row hg5))
  obtain ⟨x0, hx0e⟩ : ∃ x0, L.getD 0 [] = x0 := ⟨_, rfl⟩
  have HX0 : Hid _ := hx0e
  have hc0 := hx24.cell (hc 0 (by omega))
  rw [hx0e] at hc0
  have hwl : rwordsL.length = 9 := rfl
  have hdx : (⟨x0.toArray⟩ : ByteArray).toList = x0 := Lib.toList_data _
  have HGR : Hid _ := hgr
  have HX24 : Hid _ := hx24
  have HGW : Hid (gw ≠ w2.heap.size) := fun e => by
    rw [e] at hgw
    simp at hgw
    omega
  have hs24 := hx24.size
  have hL0 : 0 < L.length := by omega
  clear hx0e hc hgr hx2a hg5 hx4
  go_wp2_with fail
  go_loopw [7] (fun i wr => ∃ k : Nat, k ≤ 8 ∧ i = .int .i64 (k + 1) ∧ wr.heap[w2.heap.size]? = some (.cells (acCells (kindUpto x0 k) 0 0 0 [] (.slice none 0 0) (.slice none 0 0) (.slice none 0 0)) 34 (0, 0)) ∧ Ext w2 wr ∧ wr.heap[gw]? = some (.cells (rwordsL.map S8).toArray 9 (0, 0))) (fun i _ => 9 - (intOf i).toNat)
  case atStart => exact ⟨0, by omega, rfl, hg54, hx24, HGR.out⟩
  case round =>
    obtain ⟨k, hk, rfl, hgk, hxr, hgwr⟩ := hrel
    by_cases hlt : k < 8
    ·
      obtain ⟨wd, hwd⟩ : ∃ wd, wordsL.getD k [] = wd := ⟨_, rfl⟩
      have ck : wr.cell? ⟨gw, k + 1, none⟩ = some (S8 wd) := (cell_of_row _ _ (k + 1) _ _ _ hgwr).trans (by
        rw [List.getElem?_toArray, ← hwd]
        have hj : k < wordsL.length := hlt
        simp [rwordsL, List.getD_eq_getElem?_getD, List.getElem?_eq_getElem hj])
      have ck0 : wr.cell? ⟨b, o, none⟩ = some (S8 x0) := by
        have h := hxr.cell (HC.out 0 (by omega))
        rw [HX0.out] at h
        exact h
      have hkn := kindUpto_next x0 k
      rw [hwd] at hkn
      have hdw : (⟨wd.toArray⟩ : ByteArray).toList = wd := Lib.toList_data _
      obtain ⟨bq, hbq⟩ : ∃ bq, (wd == x0) = bq := ⟨_, rfl⟩
      have HKN : Hid _ := hkn
      have HBQ : Hid _ := hbq
      have hk1 : (k : Int) + 1 < 9 := by omega
      have hk2 : (0 : Int) ≤ (k : Int) + 1 := by omega
      have hk3 : ((k : Int) + 1).toNat = k + 1 := by omega
      clear hkn hwd
      go_wp2
      apply wp_region_mix 8 [_, _, _, S8 wd, _, _, S8 x0, .bool bq] [none, none, none, none, none, none, none, none] [[], [], [0, 1], [2], [], [4], [5], [3, 6]] (by kernel_rfl) (by kernel_rfl) (by simp [mixV])
      · trivial
      · simp (maxSteps := 1000000) only [List.take_succ_cons, List.take_zero, oblFrom, stepObl, fillFrom, Act.put, List.setIfInBounds_toArray, List.set_cons_zero, List.set_cons_succ, knows, getV, mixV, List.getD_cons_zero, List.getD_cons_succ, and_true, true_and, forall_const]
        refine ⟨?_, ?_, ?_, ?_, ?_, ?_, ?_, ?_⟩
        · intro xs wq hq R hR
          have f1 := hq.cell ck; have f2 := hq.cell ck0
          go_simp
          exact hR _ _ (Ext.refl _) rfl
        · intro xs wq hq R hR
          have f1 := hq.cell ck; have f2 := hq.cell ck0
          go_simp
          exact hR _ _ (Ext.refl _) rfl
        · intro xs wq hq hk R hR
          obtain ⟨hk0, hk1⟩ := hk
          have f1 := hq.cell ck; have f2 := hq.cell ck0
          go_simp
          exact hR _ _ (Ext.refl _) rfl
        · intro xs wq hq hk R hR
          have f1 := hq.cell ck; have f2 := hq.cell ck0
          go_simp
          exact hR _ _ (Ext.refl _) rfl
        · intro xs wq hq R hR
          have f1 := hq.cell ck; have f2 := hq.cell ck0
          go_simp
          exact hR _ _ (Ext.refl _) rfl
        · intro xs wq hq hk R hR
          have f1 := hq.cell ck; have f2 := hq.cell ck0
          go_simp
          exact hR _ _ (Ext.refl _) rfl
        · intro xs wq hq hk R hR
          have f1 := hq.cell ck; have f2 := hq.cell ck0
          go_simp
          exact hR _ _ (Ext.refl _) rfl
        · intro xs wq hq hk R hR
          obtain ⟨hk0, hk1⟩ := hk
          have f1 := hq.cell ck; have f2 := hq.cell ck0
          go_simp
          exact hR _ _ (Ext.refl _) rfl
      intro xs w6 hx6 hk
      simp only [heldV, Nat.zero_add, Nat.reduceAdd, and_true] at hk
      obtain ⟨q0, q1, q2, q3, q4, q5, q6, q7⟩ := hk
      simp (maxSteps := 1000000) only [List.take_succ_cons, List.take_zero, List.drop_succ_cons, List.drop_zero, fillFrom, Act.put, List.setIfInBounds_toArray, List.set_cons_zero, List.set_cons_succ, Nat.zero_add, Nat.reduceAdd, q0, q1, q2, q3, q4, q5, q6, q7]
      clear q0 q1 q2 q3 q4 q5 q6 q7
      have hg6 := hx6.row hgk
      cases bq with
      | true =>
        have HW : Hid (kindUpto x0 (k + 1) = k + 1) := by unfold Hid; rw [HKN.out, if_pos (by simpa using HBQ.out)]
        go_wp2_with (refine store_field rfl 3 (.tmp 42) (.tmp 41) rfl w2.heap.size 0 rfl (.int .i64 (k + 1)) rfl rfl _ _ hg6 (Nat.le_of_ble_eq_true rfl) size_int (acCells (k + 1) 0 0 0 [] (.slice none 0 0) (.slice none 0 0) (.slice none 0 0)) (by simp) ?_; intro w7 hg7 hgr7)
        go_roundw
        case rel =>
          refine ⟨k + 1, by omega, by go_num, ?_, Ext.but (hxr.trans hx6) hgr7 (Nat.le_refl _), but_row hgr7 (hx6.row hgwr) HGW.out⟩
          rw [HW.out]
          exact hg7
        case measure => simp [intOf]; omega
      | false =>
        have HW : Hid (kindUpto x0 (k + 1) = kindUpto x0 k) := by unfold Hid; rw [HKN.out, if_neg (by simpa using HBQ.out)]
        go_wp2
        go_roundw
        case rel => exact ⟨k + 1, by omega, by go_num, by rw [HW.out]; exact hg6, hxr.trans hx6, hx6.row hgwr⟩
        case measure => simp [intOf]; omega
    · have hkk : k = 8 := by omega
      subst hkk
      obtain ⟨K, hK⟩ : ∃ K, kindUpto x0 8 = K := ⟨_, rfl⟩
      have HK : Hid (kindOf x0 = K) := hK
      have hK8 : K ≤ 8 := by rw [← hK]; exact kindUpto_le x0 8
      rw [hK] at hgk
      have hp : parseL s = if K = 0 then (zeroA, 6) else if L.length < 8 then (zeroA, 2) else if printL (readL K L) = s then (readL K L, 0) else (zeroA, 4) := by
        unfold parseL
        simp only [HL.out, HX0.out, HK.out]
      have HPL : Hid _ := hp
      have hkc : wr.cell? ⟨w2.heap.size, 0, none⟩ = some (.int .i64 K) := (cell_of_row _ _ 0 _ _ _ hgk).trans rfl
      have hg0 := hxr.row hg2
      have hx0r := hx02.trans hxr
      clear hp hK
      by_cases hK0 : K = 0
      ·
        subst hK0
        go_wp2_with (refine wpList_store_row rfl 34 (.tmp 2) (.tmp 46) rfl w.heap.size zeroAc.toArray rfl rfl 34 _ hg0 sizeRc' rfl (by simp [zeroAc, Value.oneCell']) ?_)
        refine bodyPost_ret (results_row_tmp rfl _ _ w.heap.size 34 zeroAc.toArray (0, 0) _ (.int .i64 6) rfl rfl (setRow_heap _ _ _ _ _ _ hg0) Tryd.underlying34 sizeRc') rfl ?_
        rw [HPL.out, if_pos trivial]
        exact ⟨⟨zeroAc, rfl, _, _, _, rfl, Row.nil _, Row.nil _, IsEvs.nil _⟩, hx0r.setRow _ _ (Nat.le_refl _)⟩
      · have hK1 : ((K : Int) == 0) = false := by simpa using hK0
        have HK0 : Hid _ := hK0
        clear hK0
        by_cases h8 : L.length < 8
        ·
          have h8i : (L.length : Int) < 8 := by omega
          go_wp2_with (refine wpList_store_row rfl 34 (.tmp 2) (.tmp 50) rfl w.heap.size zeroAc.toArray rfl rfl 34 _ hg0 sizeRc' rfl (by simp [zeroAc, Value.oneCell']) ?_)
          refine bodyPost_ret (results_row_tmp rfl _ _ w.heap.size 34 zeroAc.toArray (0, 0) _ (.int .i64 2) rfl rfl (setRow_heap _ _ _ _ _ _ hg0) Tryd.underlying34 sizeRc') rfl ?_
          rw [HPL.out, if_neg HK0.out, if_pos h8]
          exact ⟨⟨zeroAc, rfl, _, _, _, rfl, Row.nil _, Row.nil _, IsEvs.nil _⟩, hx0r.setRow _ _ (Nat.le_refl _)⟩
        · have h8i : ¬ (L.length : Int) < 8 := by omega
          have H8 : Hid (8 ≤ L.length) := by unfold Hid; omega
          obtain ⟨wo, rfl⟩ : ∃ wo : World, wo = wr := ⟨_, rfl⟩
          have HSL : Hid (∀ x : Ac, Says s x → L = lineL x) := fun x hx => by rw [← HL.out]; exact hx.line
          obtain ⟨w3, hw3⟩ : ∃ w3, w3 = wo.alloc (.cells #[.int .i64 0, .int .i64 0, .int .i64 0] 58) := ⟨_, rfl⟩
          have hx3 : Ext wo w3 := by rw [hw3]; exact (Ext.refl _).alloc _
          have hg3 : w3.heap[wo.heap.size]? = some (.cells #[.int .i64 0, .int .i64 0, .int .i64 0] 58 (0, 0)) := by rw [hw3]; exact alloc_at _ _
          have HW3 : Hid _ := hw3
          obtain ⟨g0, hgd0⟩ : ∃ g0, ((L.length : Int) == 8) = g0 := ⟨_, rfl⟩
          have HG0 : Hid (∀ x : Ac, Says s x → g0 = true) := fun x hx => by
            rw [← hgd0, HSL.out x hx]
            rfl
          have hlt2 : w2.heap.size < wo.heap.size := (Array.getElem?_eq_some_iff.1 hgk).1
          have HGK : Hid _ := hgk
          have HXR : Hid _ := hxr
          clear hw3 hgk hxr hg0 hx0r hgwr
          go_wp2_with fail
          rw [show wo.alloc (.cells #[.int .i64 0, .int .i64 0, .int .i64 0] 58) = w3 from HW3.out.symm]
          go_loopw [9, 10] (fun gd i wr => ∃ (k : Nat) (good : Bool) (ns : List Int), k ≤ 3 ∧ i = .int .i64 k ∧ gd = .bool good ∧ ns.length = 3 ∧ (∀ n ∈ ns, I64 n) ∧ (∀ x : Ac, Says s x → good = true ∧ ∀ j, j < k → ns[j]? = [x.a, x.b, x.n][j]?) ∧ wr.heap[wo.heap.size]? = some (.cells (ns.map fun n => Value.int .i64 n).toArray 58 (0, 0)) ∧ Ext wo wr) (fun _ i _ => 3 - (intOf i).toNat)
          case atStart => exact ⟨0, g0, [0, 0, 0], by omega, rfl, rfl, rfl, by simp [I64], fun x hx => ⟨HG0.out x hx, fun j hj => by omega⟩, hg3, hx3⟩
          case round =>
            obtain ⟨k, good, ns, hk, rfl, rfl, hns, hi, hcm, hgq, hxq⟩ := hrel
            have HI : Hid _ := hi
            have HCM : Hid _ := hcm
            clear hi hcm hg3
            have h8' := H8.out
            by_cases hlt : k < 3
            ·
              have hk7 : k + 1 < L.length := by omega
              have hk7i : (k : Int) + 1 < (L.length : Int) := by omega
              have hk8 : (0 : Int) ≤ (k : Int) + 1 := by omega
              have hk9 : ((k : Int) + 1).toNat = k + 1 := by omega
              have hck := (Ext.trans HXR.out hxq).cell (HC.out (k + 1) hk7)
              obtain ⟨p, hp⟩ : ∃ p, L.getD (k + 1) [] = p := ⟨_, rfl⟩
              have HP : Hid _ := hp
              rw [hp] at hck
              have hpl : p.length ≤ s.length := by
                rw [← hp]
                exact HCP.out _ (getD_mem hk7)
              clear hp
              cases good with
              | false =>
                go_wp2_with fail
                go_at_call 25
                refine (num_any p _ (by omega)).mono ?_
                rintro e w5 ⟨⟨n, ok, rfl, hn, hc5⟩, hx5⟩
                have hg5 := hx5.row hgq
                have HN : Hid _ := hn
                clear hc5 hn hgq
                go_wp2_with (refine store_field rfl 3 (.tmp 73) (.tmp 68) rfl wo.heap.size k rfl (.int .i64 n) rfl rfl _ _ hg5 (by simp; omega) size_int ((ns.take k ++ [n] ++ ns.drop (k + 1)).map fun n => Value.int .i64 n).toArray (by simp [List.map_take, List.map_drop]) ?_; intro w6 hg6 hgr6)
                go_roundw
                case rel =>
                  refine ⟨k + 1, false, _, by omega, by go_num, rfl, by simp; omega, fun m hm => ?_, fun x' h1 => ?_, hg6, (hxq.trans hx5).but hgr6 (Nat.le_refl _)⟩
                  · rcases List.mem_append.1 hm with hm | hm
                    · rcases List.mem_append.1 hm with hm | hm
                      · exact HI.out m (List.mem_of_mem_take hm)
                      · rw [List.mem_singleton.1 hm]; exact HN.out
                    · exact HI.out m (List.mem_of_mem_drop hm)
                  · have := (HCM.out x' h1).1
                    cases this
                case measure => simp [intOf]; omega
              | true =>
                go_wp2_with fail
                go_at_call 25
                refine (num_any p _ (by omega)).mono ?_
                rintro e w5 ⟨⟨n, ok, rfl, hn, hc5⟩, hx5⟩
                have hg5 := hx5.row hgq
                have HN : Hid _ := hn
                have HC5 : Hid _ := hc5
                clear hc5 hn hgq
                go_wp2_with (refine store_field rfl 3 (.tmp 73) (.tmp 68) rfl wo.heap.size k rfl (.int .i64 n) rfl rfl _ _ hg5 (by simp; omega) size_int ((ns.take k ++ [n] ++ ns.drop (k + 1)).map fun n => Value.int .i64 n).toArray (by simp [List.map_take, List.map_drop]) ?_; intro w6 hg6 hgr6)
                go_roundw
                case rel =>
                  refine ⟨k + 1, ok, _, by omega, by go_num, rfl, by simp; omega, fun m hm => ?_, fun x' h1 => ?_, hg6, (hxq.trans hx5).but hgr6 (Nat.le_refl _)⟩
                  · rcases List.mem_append.1 hm with hm | hm
                    · rcases List.mem_append.1 hm with hm | hm
                      · exact HI.out m (List.mem_of_mem_take hm)
                      · rw [List.mem_singleton.1 hm]; exact HN.out
                    · exact HI.out m (List.mem_of_mem_drop hm)
                  · obtain ⟨m, hm⟩ : ∃ m, [x'.a, x'.b, x'.n][k]? = some m := ⟨_, List.getElem?_eq_getElem (show k < 3 from hlt)⟩
                    have hpm : p = Lib.itoa m := by rw [← HP.out, HSL.out x' h1]; exact line_num hm
                    obtain ⟨hok, hnm⟩ := HC5.out m (line_ok h1.1 hm) hpm
                    refine ⟨hok, fun j hj => ?_⟩
                    rw [put_get n (by omega) hj]
                    by_cases hjk : j = k
                    · rw [if_pos hjk, hjk, hm, hnm]
                    · rw [if_neg hjk]
                      exact (HCM.out x' h1).2 j (by omega)
                case measure => simp [intOf]; omega
            · have hkk : k = 3 := by omega
              subst hkk
              obtain ⟨m0, m1, m2, rfl⟩ := three ns hns
              have HN3 : Hid (∀ x : Ac, Says s x → good = true ∧ m0 = x.a ∧ m1 = x.b ∧ m2 = x.n) := fun x hx => by
                obtain ⟨k1, k2⟩ := HCM.out x hx
                have j0 := k2 0 (by omega)
                have j1 := k2 1 (by omega)
                have j2 := k2 2 (by omega)
                simp only [List.getElem?_cons_zero, List.getElem?_cons_succ, Option.some.injEq] at j0 j1 j2
                exact ⟨k1, j0, j1, j2⟩
              have HM0 : Hid (I64 m0 ∧ I64 m1 ∧ I64 m2) := ⟨HI.out m0 (by simp), HI.out m1 (by simp), HI.out m2 (by simp)⟩
              have hx2q := Ext.trans HXR.out hxq
              have HC4 : Hid _ := HC.out 4 (by omega)
              have HC5 : Hid _ := HC.out 5 (by omega)
              have HC6 : Hid _ := HC.out 6 (by omega)
              have HC7 : Hid _ := HC.out 7 (by omega)
              have hp4l : (L.getD 4 []).length ≤ s.length := HCP.out _ (getD_mem (by omega))
              have hp5l : (L.getD 5 []).length ≤ s.length := HCP.out _ (getD_mem (by omega))
              have hp6l : (L.getD 6 []).length ≤ s.length := HCP.out _ (getD_mem (by omega))
              have hp7l : (L.getD 7 []).length ≤ s.length := HCP.out _ (getD_mem (by omega))
              have HP4 : Hid ((cut 32 s).getD 4 [] = L.getD 4 []) := by unfold Hid; rw [HL.out]
              have HP5 : Hid ((cut 32 s).getD 5 [] = L.getD 5 []) := by unfold Hid; rw [HL.out]
              have HP6 : Hid ((cut 32 s).getD 6 [] = L.getD 6 []) := by unfold Hid; rw [HL.out]
              have HP7 : Hid ((cut 32 s).getD 7 [] = L.getD 7 []) := by unfold Hid; rw [HL.out]
              generalize L.getD 4 [] = p4 at *
              generalize L.getD 5 [] = p5 at *
              generalize L.getD 6 [] = p6 at *
              generalize L.getD 7 [] = p7 at *
              have hj4 : (4 : Int) < (L.length : Int) := by omega
              have hj5 : (5 : Int) < (L.length : Int) := by omega
              have hj6 : (6 : Int) < (L.length : Int) := by omega
              have hj7 : (7 : Int) < (L.length : Int) := by omega
              have hgq3 : wr.heap[wo.heap.size]? = some (.cells #[.int .i64 m0, .int .i64 m1, .int .i64 m2] 58 (0, 0)) := hgq
              obtain ⟨a0, a1, a2⟩ := cellsAt3 hgq3
              have hrow := hxq.row HGK.out
              obtain ⟨e0, e1, e2, e3, e4, e5, e6, e7⟩ := cellsAt8 hrow
              have hfz : ∀ j, wr.frozen? ⟨w2.heap.size, j, none⟩ = false := fun j => by simp [World.frozen?, hrow]
              have f1 := hfz 1
              have f2 := hfz 2
              have f3 := hfz 3
              have hltq := hxq.size
              have HROW : Hid _ := hrow
              have HXQ : Hid _ := hx2q
              clear hfz hrow hgq hgq3 hxq hx2q
              go_wp2_with fail
              go_region
              obtain ⟨w9, hw9⟩ : ∃ w9, w9 = (((wr.setCell ⟨w2.heap.size, 1, none⟩ (.int .i64 m0)).setCell ⟨w2.heap.size, 2, none⟩ (.int .i64 m1)).setCell ⟨w2.heap.size, 3, none⟩ (.int .i64 m2)).drew := ⟨_, rfl⟩
              have hg9 : w9.heap[w2.heap.size]? = some (.cells (acCells K m0 m1 m2 [] (.slice none 0 0) (.slice none 0 0) (.slice none 0 0)) 34 (0, 0)) := by rw [hw9]; exact set123 HROW.out m0 m1 m2
              have hx9 : Ext w2 w9 := by rw [hw9]; exact (Ext.but (Ext.but (Ext.but HXQ.out (setCell_grown _ _ _ _) (Nat.le_refl _)) (setCell_grown _ _ _ _) (Nat.le_refl _)) (setCell_grown _ _ _ _) (Nat.le_refl _)).drew
              have HW9 : Hid _ := hw9
              clear hw9 a0 a1 a2 e0 e1 e2 e3 e4 e5 e6 e7 f1 f2 f3
              rw [show (((wr.setCell ⟨w2.heap.size, 1, none⟩ (.int .i64 m0)).setCell ⟨w2.heap.size, 2, none⟩ (.int .i64 m1)).setCell ⟨w2.heap.size, 3, none⟩ (.int .i64 m2)).drew = w9 from HW9.out.symm]
              have c4 := hx9.cell HC4.out
              have hdp4 : (⟨p4.toArray⟩ : ByteArray).toList = p4 := Lib.toList_data _
              obtain ⟨t4, ht4⟩ : ∃ t4, (p4 == [45]) = t4 := ⟨_, rfl⟩
              go_upto_if 86 with fail
              have HT4 : Hid _ := ht4
              clear ht4
              go_cut [] (fun wx => wx.heap[w2.heap.size]? = some (.cells (acCells K m0 m1 m2 (noneL p4) (.slice none 0 0) (.slice none 0 0) (.slice none 0 0)) 34 (0, 0)) ∧ Ext w2 wx)
              case first =>
                cases t4 with
                | true =>
                  have HNN : Hid (noneL p4 = []) := if_pos (by simpa using HT4.out)
                  go_wp2_with fail
                  go_meet
                  case rel => exact ⟨by rw [HNN.out]; exact hg9, hx9⟩
                | false =>
                  have HNN : Hid (noneL p4 = p4) := if_neg (by simpa using HT4.out)
                  go_wp2_with (refine store_field rfl 9 (.tmp 90) (.tmp 89) rfl w2.heap.size 4 rfl (S8 p4) rfl rfl _ _ hg9 (Nat.le_of_ble_eq_true rfl) size_str (acCells K m0 m1 m2 p4 (.slice none 0 0) (.slice none 0 0) (.slice none 0 0)) (by simp) ?_; intro w10 hg10 hgr10)
                  go_meet
                  case rel => exact ⟨by rw [HNN.out]; exact hg10, Ext.but hx9 hgr10 (Nat.le_refl _)⟩
              case rest =>
                obtain ⟨hg10, hx10⟩ := hcut
                have c5 := hx10.cell HC5.out
                clear c4 hdp4 hg9 hx9
                go_wp2_with fail
                go_at_call 26
                refine (runhex24_any p5 _ (by omega)).mono ?_
                rintro e w11 ⟨⟨v, ok2, bd, rfl, hb, ht, hbl, hc5'⟩, hx11⟩
                have HB : Hid _ := hb
                have HT : Hid _ := ht
                have HCD : Hid _ := hc5'
                obtain ⟨va, vc, rfl, -⟩ := id hb
                have hg11 := hx11.row hg10
                have hx211 := hx10.trans hx11
                clear hb ht hc5' c5 hg10 hx10 hx11
                go_upto_region 24 with fail
                go_cut [9] (fun gd wx => gd = .bool (good && ok2) ∧ wx.heap[w2.heap.size]? = some (.cells (acCells K m0 m1 m2 (noneL p4) (.slice va bd.length vc) (.slice none 0 0) (.slice none 0 0)) 34 (0, 0)) ∧ Ext w2 wx ∧ Keep 5 w11 wx)
                case first =>
                  cases good with
                  | false =>
                    go_wp2_with (refine store_field rfl 22 (.tmp 103) (.tmp 98) rfl w2.heap.size 5 rfl (.slice va bd.length vc) rfl rfl _ _ hg11 (Nat.le_of_ble_eq_true rfl) size_bytes (acCells K m0 m1 m2 (noneL p4) (.slice va bd.length vc) (.slice none 0 0) (.slice none 0 0)) (by simp) ?_; intro w12 hg12 hgr12)
                    go_meet
                    case rel => exact ⟨rfl, hg12, Ext.but hx211 hgr12 (Nat.le_refl _), Keep.of_grown hgr12 hg11 (by decide)⟩
                  | true =>
                    go_wp2_with (refine store_field rfl 22 (.tmp 103) (.tmp 98) rfl w2.heap.size 5 rfl (.slice va bd.length vc) rfl rfl _ _ hg11 (Nat.le_of_ble_eq_true rfl) size_bytes (acCells K m0 m1 m2 (noneL p4) (.slice va bd.length vc) (.slice none 0 0) (.slice none 0 0)) (by simp) ?_; intro w12 hg12 hgr12)
                    go_meet
                    case rel => exact ⟨rfl, hg12, Ext.but hx211 hgr12 (Nat.le_refl _), Keep.of_grown hgr12 hg11 (by decide)⟩
                case rest =>
                  obtain ⟨rfl, hg12, hx12, hk12⟩ := hcut
                  obtain ⟨w12, rfl⟩ : ∃ w12 : World, w12 = wc := ⟨_, rfl⟩
                  have HB12 : Hid (IsBytes w12 (.slice va bd.length vc) bd) := Row.keep HB.out HT.out hk12
                  have HT12 : Hid (Typed 5 w12 (.slice va bd.length vc)) := Typed.keep HT.out hk12
                  have HGD : Hid (∀ x : Ac, Says s x → (good && ok2) = true ∧ m0 = x.a ∧ m1 = x.b ∧ m2 = x.n ∧ bd = x.data) := fun x hx => by
                    obtain ⟨n1, n2, n3, n4⟩ := HN3.out x hx
                    obtain ⟨d1, d2⟩ := HCD.out x.data (HP5.out.symm.trans hx.word.2.2)
                    exact ⟨by rw [n1, d1]; rfl, n2, n3, n4, d2⟩
                  have c6 := hx12.cell HC6.out
                  have c7 := hx12.cell HC7.out
                  obtain ⟨gd, hgde⟩ : ∃ gd, (good && ok2) = gd := ⟨_, rfl⟩
                  rw [hgde] at HGD
                  rw [hgde]
                  clear hgde hk12 hg11 hx211
                  go_wp2_with fail
                  apply wp_region_mix 8 [_, _, _, undef, _, _, _, undef] [none, none, none, some (fun u w' => IsStrs w' u (listL p6) ∧ Typed 9 w' u), none, none, none, some (fun u w' => IsStrs w' u (listL p7) ∧ Typed 9 w' u)] [[], [0], [1], [2], [], [4], [5], [6]] (by kernel_rfl) (by kernel_rfl) (by simp [mixV])
                  · refine ⟨?_, ?_, trivial⟩
                    · exact fun _ _ _ he ⟨h1, h2⟩ => ⟨h1.ext he, h2.keep (Keep.of_ext he)⟩
                    · exact fun _ _ _ he ⟨h1, h2⟩ => ⟨h1.ext he, h2.keep (Keep.of_ext he)⟩
                  · simp (maxSteps := 1000000) only [List.take_succ_cons, List.take_zero, oblFrom, stepObl, fillFrom, Act.put, List.setIfInBounds_toArray, List.set_cons_zero, List.set_cons_succ, knows, getV, mixV, List.getD_cons_zero, List.getD_cons_succ, and_true, true_and, forall_const]
                    refine ⟨?_, ?_, ?_, ?_, ?_, ?_, ?_, ?_⟩
                    · intro xs wq hq R hR
                      have f1 := hq.cell c6; have f2 := hq.cell c7
                      go_simp
                      exact hR _ _ (Ext.refl _) rfl
                    · intro xs wq hq hk R hR
                      have f1 := hq.cell c6; have f2 := hq.cell c7
                      go_simp
                      exact hR _ _ (Ext.refl _) rfl
                    · intro xs wq hq hk R hR
                      have f1 := hq.cell c6; have f2 := hq.cell c7
                      go_simp
                      exact hR _ _ (Ext.refl _) rfl
                    · intro xs wq hq hk R hR
                      go_simp
                      exact (rlist_any p6 _ (by omega)).mono (by rintro e' w4 ⟨⟨u, rfl, hu, ht⟩, h2⟩; exact ⟨_, rfl, hR _ _ h2 ⟨hu, ht⟩⟩)
                    · intro xs wq hq R hR
                      have f1 := hq.cell c6; have f2 := hq.cell c7
                      go_simp
                      exact hR _ _ (Ext.refl _) rfl
                    · intro xs wq hq hk R hR
                      have f1 := hq.cell c6; have f2 := hq.cell c7
                      go_simp
                      exact hR _ _ (Ext.refl _) rfl
                    · intro xs wq hq hk R hR
                      have f1 := hq.cell c6; have f2 := hq.cell c7
                      go_simp
                      exact hR _ _ (Ext.refl _) rfl
                    · intro xs wq hq hk R hR
                      go_simp
                      exact (rlist_any p7 _ (by omega)).mono (by rintro e' w4 ⟨⟨u, rfl, hu, ht⟩, h2⟩; exact ⟨_, rfl, hR _ _ h2 ⟨hu, ht⟩⟩)
                  intro xs w13 hx13 hk
                  simp only [heldV, Nat.zero_add, Nat.reduceAdd, and_true] at hk
                  obtain ⟨q0, q1, q2, q3, q4, q5, q6, q7⟩ := hk
                  simp (maxSteps := 1000000) only [List.take_succ_cons, List.take_zero, List.drop_succ_cons, List.drop_zero, fillFrom, Act.put, List.setIfInBounds_toArray, List.set_cons_zero, List.set_cons_succ, Nat.zero_add, Nat.reduceAdd, q0, q1, q2, q4, q5, q6]
                  clear q0 q1 q2 q4 q5 q6
                  generalize xs 3 = x3 at *
                  generalize xs 7 = x7 at *
                  have HV6 : Hid _ := q3.1
                  have HT6 : Hid _ := q3.2
                  have HV7 : Hid _ := q7.1
                  have HT7 : Hid _ := q7.2
                  obtain ⟨a6, cap6, rfl, y1, y2, y3, -⟩ := q3.1.get
                  obtain ⟨a7, cap7, rfl, z1, z2, z3, -⟩ := q7.1.get
                  have hg13 := hx13.row hg12
                  have hx213 := hx12.trans hx13
                  have HVD : Hid _ := IsBytes.ext HB12.out hx13
                  have HTD : Hid _ := Typed.keep HT12.out (Keep.of_ext hx13)
                  have hM6 : (listL p6).length ≤ 1000001 := by have := listL_len p6; omega
                  have hM7 : (listL p7).length ≤ 1000001 := by have := listL_len p7; omega
                  have HL6 : Hid (∀ x ∈ listL p6, x.length ≤ 1000000) := fun x hx => Nat.le_trans (listL_piece p6 x hx) (by omega)
                  have HL7 : Hid (∀ x ∈ listL p7, x.length ≤ 1000000) := fun x hx => Nat.le_trans (listL_piece p7 x hx) (by omega)
                  have HE6 : Hid (listL ((cut 32 s).getD 6 []) = listL p6) := by unfold Hid; rw [HP6.out]
                  have HE7 : Hid (listL ((cut 32 s).getD 7 []) = listL p7) := by unfold Hid; rw [HP7.out]
                  have hw213 : w2.heap.size < w13.heap.size := (Array.getElem?_eq_some_iff.1 hg13).1
                  generalize listL p6 = M6 at *
                  generalize listL p7 = M7 at *
                  clear q3 q7 c6 c7 hg12 hx12 hx13
                  go_wp2_with fail
                  go_loopw [9, 17] (fun gv i wr => ∃ (k : Nat) (g : Bool) (vf : Value) (fs : List Int), k ≤ M6.length ∧ i = .int .i64 k ∧ gv = .bool g ∧ fs.length = k ∧ (∀ f ∈ fs, I64 f) ∧ (∀ x : Ac, Says s x → g = true ∧ fs = x.fates.take k) ∧ wr.heap[w2.heap.size]? = some (.cells (acCells K m0 m1 m2 (noneL p4) (.slice va bd.length vc) vf (.slice none 0 0)) 34 (0, 0)) ∧ wr.ownsRow w13.heap.size 3 1 vf k (fs.map fun x => .int .i64 x) ∧ Ext w2 wr ∧ Keep 9 w13 wr ∧ Keep 5 w13 wr) (fun _ i _ => M6.length - (intOf i).toNat)
                  case atStart => exact ⟨0, gd, .slice none 0 0, [], Nat.zero_le _, rfl, rfl, rfl, by simp, fun x hx => ⟨(HGD.out x hx).1, rfl⟩, hg13, World.ownsRow_nil _ _ _ _, hx213, Keep.refl _ _, Keep.refl _ _⟩
                  case round =>
                    obtain ⟨k, g, vf, fs, hk, rfl, rfl, hfl, hfi, hcm, hgr, hown, hxr, hk9, hk5⟩ := hrel
                    have HFI : Hid _ := hfi
                    have HCM : Hid _ := hcm
                    have HFL : Hid _ := hfl
                    clear hfi hcm hfl hg13 hx213
                    by_cases hlt : k < M6.length
                    ·
                      obtain ⟨p, hpe⟩ : ∃ p, M6[k]? = some p := ⟨_, List.getElem?_eq_getElem hlt⟩
                      obtain ⟨a6', cap6', he6, -, -, -, y4'⟩ := (IsStrs.get (l := M6) (Row.keep HV6.out HT6.out hk9))
                      obtain ⟨b6, o6, ha6, hc6⟩ := y4' k hlt
                      subst ha6
                      simp only [Value.slice.injEq] at he6
                      obtain ⟨rfl, -, rfl⟩ := he6
                      have hck := hc6 k hlt
                      rw [List.getD_eq_getElem?_getD, hpe, Option.getD_some] at hck
                      have HP : Hid _ := hpe
                      have hpl := HL6.out p (List.mem_of_getElem? hpe)
                      have hsz13 : w13.heap.size ≤ wr.heap.size := hk9.1
                      clear hpe hc6 y4'
                      cases g with
                      | false =>
                        go_wp2_with fail
                        go_at_call 25
                        refine (num_any p _ (by omega)).mono ?_
                        rintro e w14 ⟨⟨n, ok, rfl, hn, hcn⟩, hx14⟩
                        have HN : Hid _ := hn
                        have HCN : Hid _ := hcn
                        have hg14 := hx14.row hgr
                        have hga6 : w14.cell? ⟨w2.heap.size, 6, none⟩ = some vf := (cell_of_row _ _ 6 _ _ _ hg14).trans rfl
                        have hx15 : Ext wr (w14.alloc (.cells #[.int .i64 n] 3)) := hx14.trans ((Ext.refl _).alloc _)
                        have hown15 := owns_ext hown hx15
                        have hg15 := hx15.row hgr
                        have hsz15 := Nat.le_trans hsz13 hx15.size
                        clear hown hgr hcn hn
                        go_wp2_with (first
                          | (at_builtin; refine app_int rfl _ _ rfl w13.heap.size _ k _ rfl hown15 w14.heap.size 1 1 [n] rfl rfl (alloc_at _ _) (by omega) hsz15 ?_; intro v' w16 hown16 hgr16; obtain ⟨gv, cv, rfl⟩ := owns_some hown16 (by omega); have hg16 := (Keep.of_owns (e := 34) hown15 hgr16 (by decide)).2 _ _ _ hg15; have hk916 := (Keep.of_ext hx15).trans (Keep.of_owns (e := 9) hown15 hgr16 (by decide)); have hk516 := (Keep.of_ext hx15).trans (Keep.of_owns (e := 5) hown15 hgr16 (by decide)); have hx216 : Ext w2 w16 := Below.grown (hxr.trans hx15) hgr16 (hxr.trans hx15).size (fun q hq => Nat.le_trans (Nat.le_of_lt hw213) (hown15.lt q hq).1))
                          | (refine store_field rfl 23 (.tmp 135) (.tmp 130) rfl w2.heap.size 6 rfl (.slice (some ⟨gv, 0, none⟩) (k + 1) cv) rfl rfl _ _ hg16 (Nat.le_of_ble_eq_true rfl) size_ints (acCells K m0 m1 m2 (noneL p4) (.slice va bd.length vc) (.slice (some ⟨gv, 0, none⟩) (k + 1) cv) (.slice none 0 0)) (by simp) ?_; intro w17 hg17 hgr17))
                        go_roundw
                        case rel =>
                          refine ⟨k + 1, false, _, fs ++ [n], by omega, by go_num, rfl, by rw [List.length_append, HFL.out]; rfl, fun f hf => ?_, fun x hx => ?_, hg17, owns_but hown16 hgr17 hg16 (by decide), Ext.but hx216 hgr17 (Nat.le_refl _), (hk9.trans hk916).trans (Keep.of_grown hgr17 hg16 (by decide)), (hk5.trans hk516).trans (Keep.of_grown hgr17 hg16 (by decide))⟩
                          · rcases List.mem_append.1 hf with hf | hf
                            · exact HFI.out f hf
                            · rw [List.mem_singleton.1 hf]; exact HN.out
                          · have := (HCM.out x hx).1
                            cases this
                        case measure => simp [intOf]; omega
                      | true =>
                        go_wp2_with fail
                        go_at_call 25
                        refine (num_any p _ (by omega)).mono ?_
                        rintro e w14 ⟨⟨n, ok, rfl, hn, hcn⟩, hx14⟩
                        have HN : Hid _ := hn
                        have HCN : Hid _ := hcn
                        have hg14 := hx14.row hgr
                        have hga6 : w14.cell? ⟨w2.heap.size, 6, none⟩ = some vf := (cell_of_row _ _ 6 _ _ _ hg14).trans rfl
                        have hx15 : Ext wr (w14.alloc (.cells #[.int .i64 n] 3)) := hx14.trans ((Ext.refl _).alloc _)
                        have hown15 := owns_ext hown hx15
                        have hg15 := hx15.row hgr
                        have hsz15 := Nat.le_trans hsz13 hx15.size
                        clear hown hgr hcn hn
                        go_wp2_with (first
                          | (at_builtin; refine app_int rfl _ _ rfl w13.heap.size _ k _ rfl hown15 w14.heap.size 1 1 [n] rfl rfl (alloc_at _ _) (by omega) hsz15 ?_; intro v' w16 hown16 hgr16; obtain ⟨gv, cv, rfl⟩ := owns_some hown16 (by omega); have hg16 := (Keep.of_owns (e := 34) hown15 hgr16 (by decide)).2 _ _ _ hg15; have hk916 := (Keep.of_ext hx15).trans (Keep.of_owns (e := 9) hown15 hgr16 (by decide)); have hk516 := (Keep.of_ext hx15).trans (Keep.of_owns (e := 5) hown15 hgr16 (by decide)); have hx216 : Ext w2 w16 := Below.grown (hxr.trans hx15) hgr16 (hxr.trans hx15).size (fun q hq => Nat.le_trans (Nat.le_of_lt hw213) (hown15.lt q hq).1))
                          | (refine store_field rfl 23 (.tmp 135) (.tmp 130) rfl w2.heap.size 6 rfl (.slice (some ⟨gv, 0, none⟩) (k + 1) cv) rfl rfl _ _ hg16 (Nat.le_of_ble_eq_true rfl) size_ints (acCells K m0 m1 m2 (noneL p4) (.slice va bd.length vc) (.slice (some ⟨gv, 0, none⟩) (k + 1) cv) (.slice none 0 0)) (by simp) ?_; intro w17 hg17 hgr17))
                        go_roundw
                        case rel =>
                          refine ⟨k + 1, ok, _, fs ++ [n], by omega, by go_num, rfl, by rw [List.length_append, HFL.out]; rfl, fun f hf => ?_, fun x hx => ?_, hg17, owns_but hown16 hgr17 hg16 (by decide), Ext.but hx216 hgr17 (Nat.le_refl _), (hk9.trans hk916).trans (Keep.of_grown hgr17 hg16 (by decide)), (hk5.trans hk516).trans (Keep.of_grown hgr17 hg16 (by decide))⟩
                          · rcases List.mem_append.1 hf with hf | hf
                            · exact HFI.out f hf
                            · rw [List.mem_singleton.1 hf]; exact HN.out
                          · obtain ⟨f, h1, h2, h3⟩ := hx.fate (p := p) (k := k) (by rw [HE6.out]; exact HP.out)
                            obtain ⟨h4, h5⟩ := HCN.out f h3 h2
                            exact ⟨h4, take_more (HCM.out x hx).2 h1 h5⟩
                        case measure => simp [intOf]; omega
                    · have hkk : k = M6.length := by omega
                      subst hkk
                      have HFE : Hid (∀ x : Ac, Says s x → g = true ∧ m0 = x.a ∧ m1 = x.b ∧ m2 = x.n ∧ bd = x.data ∧ fs = x.fates) := fun x hx => by
                        obtain ⟨g1, g2⟩ := HCM.out x hx
                        obtain ⟨-, g3⟩ := HGD.out x hx
                        refine ⟨g1, g3.1, g3.2.1, g3.2.2.1, g3.2.2.2, ?_⟩
                        have := hx.fates_len
                        rw [HE6.out] at this
                        rw [g2, this, List.take_length]
                      have hfi0 : IsInts wr vf fs := by
                        unfold IsInts
                        rw [HFL.out]
                        exact Row.of_owns hown (by omega)
                      have hft0 : Typed 3 wr vf := Typed.of_owns hown
                      obtain ⟨af, cf, rfl, -⟩ := id hfi0
                      have HIF : Hid _ := hfi0
                      have HTF : Hid _ := hft0
                      have HVD2 : Hid (IsBytes wr (.slice va bd.length vc) bd) := Row.keep HVD.out HTD.out hk5
                      have HTD2 : Hid (Typed 5 wr (.slice va bd.length vc)) := Typed.keep HTD.out hk5
                      have HV72 : Hid (IsStrs wr (.slice a7 M7.length cap7) M7) := Row.keep HV7.out HT7.out hk9
                      have HT72 : Hid (Typed 9 wr (.slice a7 M7.length cap7)) := Typed.keep HT7.out hk9
                      have hfsl : fs.length ≤ 1000001 := by have := HFL.out; omega
                      clear hown hfi0 hft0 hk9 hk5
                      obtain ⟨wb, rfl⟩ : ∃ wb : World, wb = wr := ⟨_, rfl⟩
                      have hwb : w2.heap.size < wb.heap.size := (Array.getElem?_eq_some_iff.1 hgr).1
                      go_wp2_with fail
                      go_loopw [9, 20] (fun gv i wr => ∃ (k : Nat) (g : Bool) (ve : Value) (css : List (List Value)) (es : List Ev), k ≤ M7.length ∧ i = .int .i64 k ∧ gv = .bool g ∧ es.length = k ∧ css.length = k ∧ (∀ e ∈ es, e.ok ∧ e.path.length ≤ 1000000 ∧ e.data.length ≤ 1000000) ∧ (∀ (j : Nat) c e, css[j]? = some c → es[j]? = some e → IsEvT wr c e) ∧ (∀ x : Ac, Says s x → g = true ∧ es = x.events.take k) ∧ wr.heap[w2.heap.size]? = some (.cells (acCells K m0 m1 m2 (noneL p4) (.slice va bd.length vc) (.slice af fs.length cf) ve) 34 (0, 0)) ∧ wr.ownsRow wb.heap.size 64 7 ve k css.flatten ∧ Ext w2 wr ∧ Keep 9 wb wr ∧ Keep 5 wb wr ∧ Keep 3 wb wr) (fun _ i _ => M7.length - (intOf i).toNat)
                      case atStart => exact ⟨0, g, .slice none 0 0, [], [], Nat.zero_le _, rfl, rfl, rfl, rfl, by simp, fun j c e hc _ => by simp at hc, fun x hx => ⟨(HFE.out x hx).1, rfl⟩, hgr, World.ownsRow_nil _ _ _ _, hxr, Keep.refl _ _, Keep.refl _ _, Keep.refl _ _⟩
                      case round =>
                        obtain ⟨k, g4, ve, css, es, hk, rfl, rfl, hel, hcl, heo, hcs, hcm, hgr4, hown, hxr4, hk9, hk5, hk3⟩ := hrel
                        have HEL : Hid _ := hel
                        have HCL : Hid _ := hcl
                        have HEO : Hid _ := heo
                        have HCS : Hid _ := hcs
                        have HCM4 : Hid _ := hcm
                        clear hel hcl heo hcs hcm hgr hxr
                        by_cases hlt : k < M7.length
                        ·
                          obtain ⟨p, hpe⟩ : ∃ p, M7[k]? = some p := ⟨_, List.getElem?_eq_getElem hlt⟩
                          obtain ⟨a7', cap7', he7, -, -, -, y4'⟩ := (IsStrs.get (l := M7) (Row.keep HV72.out HT72.out hk9))
                          obtain ⟨b7, o7, ha7, hc7⟩ := y4' k hlt
                          subst ha7
                          simp only [Value.slice.injEq] at he7
                          obtain ⟨rfl, -, rfl⟩ := he7
                          have hck := hc7 k hlt
                          rw [List.getD_eq_getElem?_getD, hpe, Option.getD_some] at hck
                          have HP : Hid _ := hpe
                          have hpl := HL7.out p (List.mem_of_getElem? hpe)
                          have hszb : wb.heap.size ≤ wr.heap.size := hk9.1
                          clear hpe hc7 y4'
                          cases g4 with
                          | false =>
                            go_wp2_with fail
                            go_at_call 28
                            refine (reventOf_any p _ (by omega)).mono ?_
                            rintro e w14 ⟨⟨cs, ok, x, rfl, hev, hxo, hxp, hxd, hcn⟩, hx14⟩
                            obtain ⟨vd', rfl, hb', ht'⟩ := hev
                            obtain ⟨ua, uc, rfl, -⟩ := id hb'
                            have HXO : Hid _ := hxo
                            have HBX : Hid _ := hb'
                            have HTX : Hid _ := ht'
                            have HCN : Hid _ := hcn
                            have hx145 : Ext w14 (w14.alloc (.cells #[.int .i64 x.t, .int .i64 x.kind, .int .i64 x.mode, .int .i64 x.keep, .int .i64 x.torn, S8 x.path, .slice ua x.data.length uc] 64)) := (Ext.refl _).alloc _
                            have hx146 : Ext w14 ((w14.alloc (.cells #[.int .i64 x.t, .int .i64 x.kind, .int .i64 x.mode, .int .i64 x.keep, .int .i64 x.torn, S8 x.path, .slice ua x.data.length uc] 64)).alloc (.cells #[.int .i64 x.t, .int .i64 x.kind, .int .i64 x.mode, .int .i64 x.keep, .int .i64 x.torn, S8 x.path, .slice ua x.data.length uc] 64)) := hx145.alloc _
                            have hx15 := hx14.trans hx145
                            have hx16 := hx14.trans hx146
                            obtain ⟨d0, d1, d2, d3, d4, d5, d6⟩ := cellsAt7 (alloc_at w14 (.cells #[.int .i64 x.t, .int .i64 x.kind, .int .i64 x.mode, .int .i64 x.keep, .int .i64 x.torn, S8 x.path, .slice ua x.data.length uc] 64))
                            have hga7 : (w14.alloc (.cells #[.int .i64 x.t, .int .i64 x.kind, .int .i64 x.mode, .int .i64 x.keep, .int .i64 x.torn, S8 x.path, .slice ua x.data.length uc] 64)).cell? ⟨w2.heap.size, 7, none⟩ = some ve := (cell_of_row _ _ 7 _ _ _ (hx15.row hgr4)).trans rfl
                            have hown16 := owns_ext hown hx16
                            have hg16 := hx16.row hgr4
                            have hsz16 := Nat.le_trans hszb hx16.size
                            have HX16 : Hid _ := hx16
                            have HX146 : Hid _ := hx146
                            clear hown hgr4 hcn hxo hb' ht' hx145 hx146 hx15 hx16
                            go_wp2_with (first
                              | (at_builtin; refine app_re rfl _ _ rfl wb.heap.size _ k _ rfl hown16 (w14.heap.size + 1) 1 [.int .i64 x.t, .int .i64 x.kind, .int .i64 x.mode, .int .i64 x.keep, .int .i64 x.torn, S8 x.path, .slice ua x.data.length uc] rfl rfl (alloc_at1 _ _ _) (by simp [Value.oneCell']) (by omega) hsz16 ?_; intro v' w17 hown17 hgr17; obtain ⟨gv, cv, rfl⟩ := owns_some hown17 (by omega); have hg17 := (Keep.of_owns (e := 34) hown16 hgr17 (by decide)).2 _ _ _ hg16; have kk9 := Keep.of_owns (e := 9) hown16 hgr17 (by decide); have kk5 := Keep.of_owns (e := 5) hown16 hgr17 (by decide); have kk3 := Keep.of_owns (e := 3) hown16 hgr17 (by decide); have hx217 : Ext w2 w17 := Below.grown (hxr4.trans HX16.out) hgr17 (hxr4.trans HX16.out).size (fun q hq => Nat.le_trans (Nat.le_of_lt hwb) (hown16.lt q hq).1))
                              | (refine store_field rfl 32 (.tmp 159) (.tmp 154) rfl w2.heap.size 7 rfl (.slice (some ⟨gv, 0, none⟩) (k + 1) cv) rfl rfl _ _ hg17 (Nat.le_of_ble_eq_true rfl) size_revs (acCells K m0 m1 m2 (noneL p4) (.slice va bd.length vc) (.slice af fs.length cf) (.slice (some ⟨gv, 0, none⟩) (k + 1) cv)) (by simp) ?_; intro w18 hg18 hgr18))
                            have kw5 : Keep 5 w17 w18 := Keep.of_grown hgr18 hg17 (by decide)
                            go_roundw
                            case rel =>
                              have k1 : Keep 5 w14 _ := Keep.of_ext HX146.out
                              have k2 : Keep 5 w14 w18 := (k1.trans kk5).trans kw5
                              have k3 : Keep 5 wr _ := Keep.of_ext HX16.out
                              have k4 : Keep 5 wr w18 := (k3.trans kk5).trans kw5
                              have hxe : IsEvT w14 [.int .i64 x.t, .int .i64 x.kind, .int .i64 x.mode, .int .i64 x.keep, .int .i64 x.torn, S8 x.path, .slice ua x.data.length uc] x := ⟨_, rfl, HBX.out, HTX.out⟩
                              have hfin := evt_snoc HCL.out HEL.out HCS.out k4 (IsEvT.keep hxe k2)
                              have heo := evo_snoc HEO.out HXO.out (by omega) (by omega)
                              have hcm : ∀ y : Ac, Says s y → false = true ∧ es ++ [x] = y.events.take (k + 1) := fun y hy => by
                                have := (HCM4.out y hy).1
                                cases this
                              exact ⟨k + 1, false, _, _, _, by omega, by go_num, rfl, len_snoc HEL.out _, len_snoc HCL.out _, heo, hfin, hcm, hg18, owns_snoc hown17 hgr18 hg17 (by decide), Ext.but hx217 hgr18 (Nat.le_refl _), ((hk9.trans (Keep.of_ext HX16.out)).trans kk9).trans (Keep.of_grown hgr18 hg17 (by decide)), ((hk5.trans (Keep.of_ext HX16.out)).trans kk5).trans kw5, ((hk3.trans (Keep.of_ext HX16.out)).trans kk3).trans (Keep.of_grown hgr18 hg17 (by decide))⟩
                            case measure => simp [intOf]; omega
                          | true =>
                            go_wp2_with fail
                            go_at_call 28
                            refine (reventOf_any p _ (by omega)).mono ?_
                            rintro e w14 ⟨⟨cs, ok, x, rfl, hev, hxo, hxp, hxd, hcn⟩, hx14⟩
                            obtain ⟨vd', rfl, hb', ht'⟩ := hev
                            obtain ⟨ua, uc, rfl, -⟩ := id hb'
                            have HXO : Hid _ := hxo
                            have HBX : Hid _ := hb'
                            have HTX : Hid _ := ht'
                            have HCN : Hid _ := hcn
                            have hx145 : Ext w14 (w14.alloc (.cells #[.int .i64 x.t, .int .i64 x.kind, .int .i64 x.mode, .int .i64 x.keep, .int .i64 x.torn, S8 x.path, .slice ua x.data.length uc] 64)) := (Ext.refl _).alloc _
                            have hx146 : Ext w14 ((w14.alloc (.cells #[.int .i64 x.t, .int .i64 x.kind, .int .i64 x.mode, .int .i64 x.keep, .int .i64 x.torn, S8 x.path, .slice ua x.data.length uc] 64)).alloc (.cells #[.int .i64 x.t, .int .i64 x.kind, .int .i64 x.mode, .int .i64 x.keep, .int .i64 x.torn, S8 x.path, .slice ua x.data.length uc] 64)) := hx145.alloc _
                            have hx15 := hx14.trans hx145
                            have hx16 := hx14.trans hx146
                            obtain ⟨d0, d1, d2, d3, d4, d5, d6⟩ := cellsAt7 (alloc_at w14 (.cells #[.int .i64 x.t, .int .i64 x.kind, .int .i64 x.mode, .int .i64 x.keep, .int .i64 x.torn, S8 x.path, .slice ua x.data.length uc] 64))
                            have hga7 : (w14.alloc (.cells #[.int .i64 x.t, .int .i64 x.kind, .int .i64 x.mode, .int .i64 x.keep, .int .i64 x.torn, S8 x.path, .slice ua x.data.length uc] 64)).cell? ⟨w2.heap.size, 7, none⟩ = some ve := (cell_of_row _ _ 7 _ _ _ (hx15.row hgr4)).trans rfl
                            have hown16 := owns_ext hown hx16
                            have hg16 := hx16.row hgr4
                            have hsz16 := Nat.le_trans hszb hx16.size
                            have HX16 : Hid _ := hx16
                            have HX146 : Hid _ := hx146
                            clear hown hgr4 hcn hxo hb' ht' hx145 hx146 hx15 hx16
                            go_wp2_with (first
                              | (at_builtin; refine app_re rfl _ _ rfl wb.heap.size _ k _ rfl hown16 (w14.heap.size + 1) 1 [.int .i64 x.t, .int .i64 x.kind, .int .i64 x.mode, .int .i64 x.keep, .int .i64 x.torn, S8 x.path, .slice ua x.data.length uc] rfl rfl (alloc_at1 _ _ _) (by simp [Value.oneCell']) (by omega) hsz16 ?_; intro v' w17 hown17 hgr17; obtain ⟨gv, cv, rfl⟩ := owns_some hown17 (by omega); have hg17 := (Keep.of_owns (e := 34) hown16 hgr17 (by decide)).2 _ _ _ hg16; have kk9 := Keep.of_owns (e := 9) hown16 hgr17 (by decide); have kk5 := Keep.of_owns (e := 5) hown16 hgr17 (by decide); have kk3 := Keep.of_owns (e := 3) hown16 hgr17 (by decide); have hx217 : Ext w2 w17 := Below.grown (hxr4.trans HX16.out) hgr17 (hxr4.trans HX16.out).size (fun q hq => Nat.le_trans (Nat.le_of_lt hwb) (hown16.lt q hq).1))
                              | (refine store_field rfl 32 (.tmp 159) (.tmp 154) rfl w2.heap.size 7 rfl (.slice (some ⟨gv, 0, none⟩) (k + 1) cv) rfl rfl _ _ hg17 (Nat.le_of_ble_eq_true rfl) size_revs (acCells K m0 m1 m2 (noneL p4) (.slice va bd.length vc) (.slice af fs.length cf) (.slice (some ⟨gv, 0, none⟩) (k + 1) cv)) (by simp) ?_; intro w18 hg18 hgr18))
                            have kw5 : Keep 5 w17 w18 := Keep.of_grown hgr18 hg17 (by decide)
                            go_roundw
                            case rel =>
                              have k1 : Keep 5 w14 _ := Keep.of_ext HX146.out
                              have k2 : Keep 5 w14 w18 := (k1.trans kk5).trans kw5
                              have k3 : Keep 5 wr _ := Keep.of_ext HX16.out
                              have k4 : Keep 5 wr w18 := (k3.trans kk5).trans kw5
                              have hxe : IsEvT w14 [.int .i64 x.t, .int .i64 x.kind, .int .i64 x.mode, .int .i64 x.keep, .int .i64 x.torn, S8 x.path, .slice ua x.data.length uc] x := ⟨_, rfl, HBX.out, HTX.out⟩
                              have hfin := evt_snoc HCL.out HEL.out HCS.out k4 (IsEvT.keep hxe k2)
                              have heo := evo_snoc HEO.out HXO.out (by omega) (by omega)
                              have hcm : ∀ y : Ac, Says s y → ok = true ∧ es ++ [x] = y.events.take (k + 1) := fun y hy => by
                                obtain ⟨f, h1, h2, h3, h4⟩ := hy.event (p := p) (k := k) (by rw [HE7.out]; exact HP.out)
                                obtain ⟨h5, h6⟩ := HCN.out f h3 h4 h2
                                exact ⟨h5, take_more (HCM4.out y hy).2 h1 h6⟩
                              exact ⟨k + 1, ok, _, _, _, by omega, by go_num, rfl, len_snoc HEL.out _, len_snoc HCL.out _, heo, hfin, hcm, hg18, owns_snoc hown17 hgr18 hg17 (by decide), Ext.but hx217 hgr18 (Nat.le_refl _), ((hk9.trans (Keep.of_ext HX16.out)).trans kk9).trans (Keep.of_grown hgr18 hg17 (by decide)), ((hk5.trans (Keep.of_ext HX16.out)).trans kk5).trans kw5, ((hk3.trans (Keep.of_ext HX16.out)).trans kk3).trans (Keep.of_grown hgr18 hg17 (by decide))⟩
                            case measure => simp [intOf]; omega
                        · have hkk : k = M7.length := by omega
                          subst hkk
                          have hrw := Row.of_owns hown (by omega)
                          obtain ⟨ae, ce, rfl, -⟩ := id hrw
                          have hve : IsEvsG 64 wr (.slice ae M7.length ce) es := ⟨css, by rw [HEL.out]; exact hrw, Typed.of_owns hown, by rw [HCL.out, HEL.out], HCS.out⟩
                          have hvd : IsBytes wr (.slice va bd.length vc) bd ∧ Typed 5 wr (.slice va bd.length vc) := ⟨Row.keep HVD2.out HTD2.out hk5, Typed.keep HTD2.out hk5⟩
                          have hvf : IsInts wr (.slice af fs.length cf) fs ∧ Typed 3 wr (.slice af fs.length cf) := ⟨Row.keep HIF.out HTF.out hk3, Typed.keep HTF.out hk3⟩
                          obtain ⟨X, hX⟩ : ∃ X : Ac, X = ⟨K, m0, m1, m2, noneL p4, bd, fs, es⟩ := ⟨_, rfl⟩
                          have hac : IsAcG 64 wr (acCells K m0 m1 m2 (noneL p4) (.slice va bd.length vc) (.slice af fs.length cf) (.slice ae M7.length ce)).toList X := by rw [hX]; exact ⟨_, _, _, rfl, hvd, hvf, hve⟩
                          have hok : X.ok := by rw [hX]; exact ⟨show I64 (K : Int) by unfold I64; omega, HM0.out.1, HM0.out.2.1, HM0.out.2.2, HFI.out, fun e he => (HEO.out e he).1⟩
                          have hnl := noneL_le p4
                          have hXp : X.path.length ≤ 1000000 := by rw [hX]; show (noneL p4).length ≤ _; omega
                          have hXe : ∀ e ∈ X.events, e.path.length ≤ 1000000 := by rw [hX]; exact fun e he => (HEO.out e he).2.1
                          have hsm : X.small := by
                            refine ⟨hok, by omega, ?_, ?_, ?_, ?_⟩
                            · rw [hX]; show bd.length ≤ _; omega
                            · rw [hX]; show fs.length ≤ _; omega
                            · rw [hX]; show es.length ≤ _; have := HEL.out; omega
                            · rw [hX]; intro e he; have := HEO.out e he; omega
                          have hpe := parse_end (s := s) (x := X) (good := g4) hok (by rw [HL.out]; exact H8.out) (by rw [HL.out, HX0.out, HK.out]; exact HK0.out) (fun y hy => by
                            obtain ⟨g1, g2⟩ := HCM4.out y hy
                            obtain ⟨-, f1, f2, f3, f4, f5⟩ := HFE.out y hy
                            obtain ⟨u1, u2, -⟩ := hy.word
                            rw [HL.out, HX0.out, HK.out] at u1
                            rw [HP4.out] at u2
                            have := hy.events_len
                            rw [HE7.out] at this
                            rw [this, List.take_length] at g2
                            refine ⟨g1, ?_⟩
                            rw [hX]
                            obtain ⟨yk, ya, yb, yn, yp, yd, yf, ye⟩ := y
                            simp only at f1 f2 f3 f4 f5 u1 u2 g2
                            rw [f1, f2, f3, f4, f5, u1, u2, g2])
                          have HPE : Hid _ := hpe
                          have HAC : Hid _ := hac
                          have HSM : Hid _ := hsm
                          have HXE : Hid _ := hXe
                          have hg0r := hxr4.row hg2
                          have hx0r := hx02.trans hxr4
                          obtain ⟨e0, e1, e2, e3, e4, e5, e6, e7⟩ := cellsAt8 hgr4
                          clear hrw hve hvd hvf hX hac hok hXe hsm hpe hown hk9 hk5 hk3
                          obtain ⟨wz, rfl⟩ : ∃ wz : World, wz = wr := ⟨_, rfl⟩
                          cases g4 with
                          | false =>
                            go_wp2_with (refine wpList_store_row rfl 34 (.tmp 2) (.tmp 168) rfl w.heap.size zeroAc.toArray rfl rfl 34 _ hg0r sizeRc' rfl (by simp [zeroAc, Value.oneCell']) ?_)
                            refine bodyPost_ret (results_row_tmp rfl _ _ w.heap.size 34 zeroAc.toArray (0, 0) _ (.int .i64 4) rfl rfl (setRow_heap _ _ _ _ _ _ hg0r) Tryd.underlying34 sizeRc') rfl ?_
                            rw [HPE.out, if_neg (by simp)]
                            exact ⟨⟨zeroAc, rfl, _, _, _, rfl, Row.nil _, Row.nil _, IsEvs.nil _⟩, hx0r.setRow _ _ (Nat.le_refl _)⟩
                          | true =>
                            obtain ⟨pl, hpl⟩ : ∃ pl, printL X = pl := ⟨_, rfl⟩
                            have HPP : Hid _ := hpl
                            have hds : (⟨s.toArray⟩ : ByteArray).toList = s := Lib.toList_data _
                            have hdp : (⟨pl.toArray⟩ : ByteArray).toList = pl := Lib.toList_data _
                            obtain ⟨bq, hbq⟩ : ∃ bq, (pl == s) = bq := ⟨_, rfl⟩
                            clear hpl
                            cases bq with
                            | true =>
                              have hps : printL X = s := by rw [HPP.out]; simpa using hbq
                              have HPS : Hid _ := hps
                              clear hps
                              go_wp2_with (first
                                | (go_at_call 12; go_must (refine (rprint_any X (acCells K m0 m1 m2 (noneL p4) (.slice va bd.length vc) (.slice af fs.length cf) (.slice ae M7.length ce)).toList _ (IsAcG.ac HAC.out) HSM.out hXp HXE.out).mono ?_; rw [HPP.out]; rintro e w5 ⟨rfl, hx5⟩; have hga5 := hx5.row hgr4; have hg5 := hx5.row hg0r))
                                | (refine wpList_load_row rfl 34 (.tmp 5) rfl w2.heap.size rfl 34 _ (0, 0) _ hga5 Tryd.underlying34 rfl sizeRc' ?_)
                                | (refine wpList_store_row rfl 34 (.tmp 2) (.tmp 169) rfl w.heap.size (acCells K m0 m1 m2 (noneL p4) (.slice va bd.length vc) (.slice af fs.length cf) (.slice ae M7.length ce)) rfl rfl 34 _ hg5 sizeRc' rfl (by simp [Value.oneCell']) ?_))
                              refine bodyPost_ret (results_row_tmp rfl _ _ w.heap.size 34 (acCells K m0 m1 m2 (noneL p4) (.slice va bd.length vc) (.slice af fs.length cf) (.slice ae M7.length ce)) (0, 0) _ (.int .i64 0) rfl rfl (setRow_heap _ _ _ _ _ _ hg5) Tryd.underlying34 sizeRc') rfl ?_
                              rw [HPE.out, if_pos (by simp [HPS.out])]
                              have hst := setRow_grown w5 w.heap.size (acCells K m0 m1 m2 (noneL p4) (.slice va bd.length vc) (.slice af fs.length cf) (.slice ae M7.length ce))
                              exact ⟨⟨_, rfl, IsAcG.ac ((IsAcG.ext HAC.out hx5).keep (Keep.of_grown hst hg5 (by decide)) (Keep.of_grown hst hg5 (by decide)) (Keep.of_grown hst hg5 (by decide)))⟩, (hx0r.trans hx5).setRow _ _ (Nat.le_refl _)⟩
                            | false =>
                              have hps : printL X ≠ s := by rw [HPP.out]; simpa using hbq
                              have HPS : Hid _ := hps
                              clear hps
                              go_wp2_with (first
                                | (go_at_call 12; go_must (refine (rprint_any X (acCells K m0 m1 m2 (noneL p4) (.slice va bd.length vc) (.slice af fs.length cf) (.slice ae M7.length ce)).toList _ (IsAcG.ac HAC.out) HSM.out hXp HXE.out).mono ?_; rw [HPP.out]; rintro e w5 ⟨rfl, hx5⟩; have hga5 := hx5.row hgr4; have hg5 := hx5.row hg0r))
                                | (refine wpList_store_row rfl 34 (.tmp 2) (.tmp 168) rfl w.heap.size zeroAc.toArray rfl rfl 34 _ hg5 sizeRc' rfl (by simp [zeroAc, Value.oneCell']) ?_))
                              refine bodyPost_ret (results_row_tmp rfl _ _ w.heap.size 34 zeroAc.toArray (0, 0) _ (.int .i64 4) rfl rfl (setRow_heap _ _ _ _ _ _ hg5) Tryd.underlying34 sizeRc') rfl ?_
                              rw [HPE.out, if_neg (fun h => HPS.out h.2)]
                              exact ⟨⟨zeroAc, rfl, _, _, _, rfl, Row.nil _, Row.nil _, IsEvs.nil _⟩, (hx0r.trans hx5).setRow _ _ (Nat.le_refl _)⟩

end Go.Proofs.YthfkohppillflaaDoor
