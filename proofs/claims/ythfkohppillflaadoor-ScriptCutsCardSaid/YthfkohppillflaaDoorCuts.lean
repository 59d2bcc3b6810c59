/- marlaw26.ScriptCuts: true at any bytes and any number. Conditions: the library's variables. -/
import Derived.Test.YthfkohppillflaaDoorPlain
namespace Go.Proofs.YthfkohppillflaaDoor
open Go Go.RowKit

/-- What an act of four bytes is good for. -/
structure Ac.good (x : Ac) : Prop where
  small : x.small
  k1 : 1 ≤ x.kind
  k8 : x.kind ≤ 8
  a0 : 0 ≤ x.a
  a1 : x.a ≤ 1
  told : printL x ≠ [63]

theorem textL_length (y z : Nat) : (textL y z).length ≤ 8 := by
  unfold textL; rw [textP_length]; omega

theorem paths_plain (k : Nat) : plainB (pathsL.getD k []) = true := by
  rcases k with _ | _ | _ | _ | _ | _ | k
  · decide
  · decide
  · decide
  · decide
  · decide
  · decide
  · rfl

theorem paths_short (k : Nat) : (pathsL.getD k []).length ≤ 5 := by
  rcases k with _ | _ | _ | _ | _ | _ | k
  · decide
  · decide
  · decide
  · decide
  · decide
  · decide
  · simp [pathsL]

theorem plain_nil : plainB [] = true := by decide

theorem join8_ne (a b c d e f g h : B8) : Lib.join [a, b, c, d, e, f, g, h] [32] ≠ [63] := by
  intro hh
  have := congrArg List.length hh
  rw [Lib.join_cons] at this
  simp [Lib.joinTail] at this
  omega

theorem print_told {x : Ac} (h : tellsB x = true) : printL x ≠ [63] := by
  unfold printL
  rw [if_pos h]
  exact join8_ne _ _ _ _ _ _ _ _

theorem good_of {kind a b n : Int} {p d : B8} {fs : List Int} {es : List Ev} (h1 : 1 ≤ kind) (h2 : kind ≤ 8) (h3 : 0 ≤ a) (h4 : a ≤ 1) (h5 : I64 b) (h6 : I64 n) (h7 : p.length ≤ 100) (h8 : d.length ≤ 100) (h9 : ∀ f ∈ fs, I64 f) (h10 : fs.length ≤ 1) (h11 : es.length ≤ 1) (h12 : ∀ e ∈ es, e.ok ∧ e.path = [] ∧ e.data = []) (h13 : plainB p = true) : Ac.good ⟨kind, a, b, n, p, d, fs, es⟩ := by
  refine ⟨⟨⟨?_, ?_, h5, h6, h9, fun e he => (h12 e he).1⟩, by simp only; omega, by simp only; omega, by simp only; omega, by simp only; omega, fun e he => ?_⟩, h1, h2, h3, h4, print_told ?_⟩
  · unfold I64; simp only; omega
  · unfold I64; simp only; omega
  · rw [(h12 e he).2.1, (h12 e he).2.2]; simp
  · unfold tellsB
    simp only [h13, Bool.and_true, Bool.and_eq_true, List.all_eq_true, decide_eq_true_eq]
    refine ⟨fun e he => ?_, h1, h2⟩
    unfold evTold
    rw [(h12 e he).2.1]
    decide

theorem actL_good (m x y z : Nat) : (actL m x y z).good := by
  have hx : ((x % 2 : Nat) : Int) ≤ 1 := by omega
  have hx0 : (0 : Int) ≤ ((x % 2 : Nat) : Int) := by omega
  have nof : ∀ f ∈ ([] : List Int), I64 f := fun f hf => by simp at hf
  have noe : ∀ e ∈ ([] : List Ev), e.ok ∧ e.path = [] ∧ e.data = [] := fun f hf => by simp at hf
  have i0 : I64 0 := by unfold I64; omega
  unfold actL
  split
  · exact good_of (by omega) (by omega) hx0 hx i0 i0 (by simp) (by simp) nof (by simp) (by simp) noe plain_nil
  split
  · refine good_of (by omega) (by omega) hx0 hx (by unfold I64; omega) (by unfold I64; omega) (by simp) (by simp) ?_ ?_ (by simp) noe plain_nil
    · split
      · intro f hf
        have : f = ((y % 5 : Nat) : Int) := by simpa using hf
        subst this
        unfold I64; omega
      · exact nof
    · split <;> simp
  split
  · exact good_of (by omega) (by omega) hx0 hx i0 i0 (by simp) (by simp) nof (by simp) (by simp) noe plain_nil
  split
  · refine good_of (by omega) (by omega) hx0 hx i0 i0 (by simp) (by simp) nof (by simp) (by simp) ?_ plain_nil
    intro e he
    have : e = ⟨1 + (y % 60 : Nat), 1 + (z % 3 : Nat), 0, (z % 9 : Nat), (y % 7 : Nat), [], []⟩ := by simpa using he
    subst this
    refine ⟨⟨?_, ?_, ?_, ?_, ?_⟩, rfl, rfl⟩ <;> (unfold I64; simp only; omega)
  split
  · split
    · exact good_of (by omega) (by omega) hx0 hx i0 i0 (by simp) (by simp) nof (by simp) (by simp) noe plain_nil
    · exact good_of (by omega) (by omega) hx0 hx (by unfold I64; omega) (by unfold I64; omega) (by simp) (by simp) nof (by simp) (by simp) noe plain_nil
  unfold editL
  split
  · have := textL_length y z
    have := paths_short (y % 6)
    exact good_of (by omega) (by omega) hx0 hx i0 (by unfold I64; split <;> omega) (by omega) (by omega) nof (by simp) (by simp) noe (paths_plain _)
  · have := paths_short (y % 6)
    exact good_of (by omega) (by omega) hx0 hx i0 i0 (by omega) (by simp) nof (by simp) (by simp) noe (paths_plain _)

theorem actsN_take {l : B8} {n : Nat} (h : n ≤ l.length) : actsN (l.take n) = min (n / 4) 500 := by
  unfold actsN; rw [List.length_take, Nat.min_eq_left h]

theorem getD_take {l : B8} {n i : Nat} (h : i < n) : (l.take n).getD i 0 = l.getD i 0 := by
  simp only [List.getD_eq_getElem?_getD, List.getElem?_take_of_lt h]

theorem actsL_take {l : B8} {n k : Nat} {x : Ac} (hn : n ≤ l.length) (h : (actsL (l.take n))[k]? = some x) : (actsL l)[k]? = some x := by
  have hk : k < actsN (l.take n) := by
    have := (List.getElem?_eq_some_iff.1 h).1
    rwa [actsL_length] at this
  rw [actsL_get _ _ hk] at h
  rw [actsN_take hn] at hk
  rw [actsL_get l k (by unfold actsN; omega), ← h]
  congr 1
  unfold actAt
  rw [getD_take (by omega), getD_take (by omega), getD_take (by omega), getD_take (by omega)]

theorem acts_good (l : B8) : ∀ x ∈ actsL l, x.good := by
  intro x hx
  unfold actsL at hx
  obtain ⟨k, _, rfl⟩ := List.mem_map.1 hx
  exact actL_good _ _ _ _

theorem IsBytes.take {w : World} {a : Option Addr} {l : B8} {cap n : Nat} (h : IsBytes w (.slice a l.length cap) l) (hn : n ≤ l.length) : IsBytes w (.slice a n cap) (l.take n) := by
  obtain ⟨a', cap', he, h1, h2, h3, h4⟩ := h
  simp only [Value.slice.injEq, true_and] at he
  obtain ⟨rfl, rfl⟩ := he
  have hl : (l.take n).length = n := by rw [List.length_take]; omega
  refine ⟨a, cap, by rw [hl], by omega, h2, by omega, fun hne => ?_⟩
  obtain ⟨b, o, rfl, hc⟩ := h4 (by
    intro h0
    have : l = [] := by simpa using h0
    subst this
    simp at hne)
  refine ⟨b, o, rfl, fun i u hu => hc i u ?_⟩
  rw [List.getElem?_map] at hu ⊢
  obtain ⟨x, hx, rfl⟩ := Option.map_eq_some_iff.1 hu
  rw [List.getElem?_take] at hx
  split at hx
  · rw [hx]; rfl
  · simp at hx

set_option maxRecDepth 100000 in
set_option maxHeartbeats 400000 in
theorem scriptCuts_no (v : Value) (l : B8) (n : Int) (w : World) (hE : Env w) (hv : IsBytes w v l) (hn : I64 n) (h : 6000 < l.length ∨ n < 0 ∨ (l.length : Int) < n) :
    Calls Tryd.prog 6 #[v, .int .i64 n] w fun e w' => e = .returned (.bool true) ∧ Ext w w' := by
  have HE : Hid _ := hE
  have HV : Hid _ := hv
  obtain ⟨a, cap, rfl, h1, h2, h3, -⟩ := hv.get
  unfold I64 at hn
  clear hE hv
  by_cases hbig : 6000 < l.length
  · have hbi : (6000 : Int) < (l.length : Int) := by omega
    clear h
    go_enter Tryd.func6, Tryd.ntmps6
    go_wp2_with fail
    go_at_call 7
    refine (first_any _ HE.out).mono ?_
    rintro e w2 ⟨rfl, hx2⟩
    go_wp2_with fail
    go_at_call 7
    refine (first_any _ (HE.out.ext hx2)).mono ?_
    rintro e w3 ⟨rfl, hx3⟩
    go_wp2
    go_ret
    exact ⟨rfl, hx2.trans hx3⟩
  · have hbi : ¬ (6000 : Int) < (l.length : Int) := by omega
    by_cases h0 : n < 0
    · clear h hbig
      go_enter Tryd.func6, Tryd.ntmps6
      go_wp2_with fail
      go_at_call 7
      refine (first_any _ HE.out).mono ?_
      rintro e w2 ⟨rfl, hx2⟩
      go_wp2_with fail
      go_at_call 7
      refine (first_any _ (HE.out.ext hx2)).mono ?_
      rintro e w3 ⟨rfl, hx3⟩
      go_wp2
      go_ret
      exact ⟨rfl, hx2.trans hx3⟩
    · have hl : (l.length : Int) < n := by omega
      clear h hbig
      go_enter Tryd.func6, Tryd.ntmps6
      go_wp2_with fail
      go_at_call 7
      refine (first_any _ HE.out).mono ?_
      rintro e w2 ⟨rfl, hx2⟩
      go_wp2_with fail
      go_at_call 7
      refine (first_any _ (HE.out.ext hx2)).mono ?_
      rintro e w3 ⟨rfl, hx3⟩
      go_wp2
      go_ret
      exact ⟨rfl, hx2.trans hx3⟩

set_option maxRecDepth 100000 in
set_option maxHeartbeats 8000000 in
theorem scriptCuts_yes (v : Value) (l : B8) (n : Nat) (w : World) (hE : Env w) (hv : IsBytes w v l) (h6 : l.length ≤ 6000) (hnl : n ≤ l.length) :
    Calls Tryd.prog 6 #[v, .int .i64 n] w fun e w' => e = .returned (.bool true) ∧ Ext w w' := by
  have HE : Hid _ := hE
  have HV : Hid _ := hv
  obtain ⟨a, cap, rfl, h1, h2, h3, -⟩ := hv.get
  clear hE hv
  have hbi : ¬ (6000 : Int) < (l.length : Int) := by omega
  have hn0 : ¬ (n : Int) < 0 := by omega
  have hn1 : ¬ (l.length : Int) < (n : Int) := by omega
  have hn2 : (0 : Int) ≤ (n : Int) := by omega
  have hn3 : (n : Int) ≤ (cap : Int) := by omega
  have hd1 : decide (l.length < n) = false := by simp; omega
  have HNL : Hid _ := hnl
  have HL6 : Hid _ := h6
  go_enter Tryd.func6, Tryd.ntmps6
  go_wp2_with fail
  go_at_call 7
  refine (first_any _ HE.out).mono ?_
  rintro e w2 ⟨rfl, hx2⟩
  go_wp2
  apply wp_region_mix 6 [_, undef, _, _, _, undef] [none, some (fun u w' => IsActs 43 26 w' u (actsL l)), none, none, none, some (fun u w' => IsActs 43 26 w' u (actsL (l.take n)))] [[], [0], [], [], [2, 3], [4]] (by kernel_rfl) (by kernel_rfl) (by simp [mixV])
  · refine ⟨?_, ?_, trivial⟩
    · exact fun _ _ _ he h => h.ext he
    · exact fun _ _ _ he h => h.ext he
  · simp (maxSteps := 1000000) only [List.take_succ_cons, List.take_zero, oblFrom, stepObl, fillFrom, Act.put, List.setIfInBounds_toArray, List.set_cons_zero, List.set_cons_succ, knows, getV, mixV, List.getD_cons_zero, List.getD_cons_succ, and_true, true_and, forall_const]
    refine ⟨?_, ?_, ?_, ?_, ?_, ?_⟩
    · intro xs wq hq R hR
      go_simp
      exact hR _ _ (Ext.refl _) rfl
    · intro xs wq hq hk R hR
      go_simp
      exact (acts_any _ l _ (IsBytes.ext HV.out (hx2.trans hq)) (by have := HL6.out; omega)).mono (by rintro e' w4 ⟨⟨u, rfl, hu⟩, h2⟩; exact ⟨_, rfl, hR _ _ h2 hu⟩)
    · intro xs wq hq R hR
      go_simp
      exact hR _ _ (Ext.refl _) rfl
    · intro xs wq hq R hR
      go_simp
      exact hR _ _ (Ext.refl _) rfl
    · intro xs wq hq hk R hR
      obtain ⟨hk0, hk1⟩ := hk
      go_simp
      exact hR _ _ (Ext.refl _) rfl
    · intro xs wq hq hk R hR
      go_simp
      exact (acts_any _ (l.take n) _ (IsBytes.take (IsBytes.ext HV.out (hx2.trans hq)) HNL.out) (by rw [List.length_take]; have := HL6.out; omega)).mono (by rintro e' w4 ⟨⟨u, rfl, hu⟩, h2⟩; exact ⟨_, rfl, hR _ _ h2 hu⟩)
  intro xs w3 hx3 hk
  simp only [heldV, Nat.zero_add, Nat.reduceAdd, and_true] at hk
  obtain ⟨q0, q1, q2, q3, q4, q5⟩ := hk
  simp (maxSteps := 1000000) only [List.take_succ_cons, List.take_zero, List.drop_succ_cons, List.drop_zero, fillFrom, Act.put, List.setIfInBounds_toArray, List.set_cons_zero, List.set_cons_succ, Nat.zero_add, Nat.reduceAdd, q0, q2, q3, q4]
  clear q0 q2 q3 q4
  generalize xs 1 = x1 at *
  generalize xs 5 = x5 at *
  have hyx := fun k x => @actsL_take l n k x hnl
  have hlen : (actsL (l.take n)).length = min (n / 4) 500 := by rw [actsL_length, actsN_take hnl]
  have hle : (actsL (l.take n)).length ≤ (actsL l).length := by rw [hlen, actsL_length]; unfold actsN; omega
  have hgood := acts_good (l.take n)
  generalize hX : actsL l = xs0 at *
  generalize hY : actsL (l.take n) = ys0 at *
  have HYX : Hid _ := hyx
  have HG : Hid _ := hgood
  have HLEN : Hid _ := hlen
  have hmin : min ((n : Int) / 4) 500 = (ys0.length : Int) := by omega
  obtain ⟨a1, p1, rfl, -, -, -, h4⟩ := q1.get
  obtain ⟨a2, p2, rfl, -, -, -, h5⟩ := q5.get
  have H4 : Hid _ := h4
  have H5 : Hid _ := h5
  have hy5 : ys0.length ≤ 500 := by omega
  have hd2 : decide (xs0.length < ys0.length) = false := by simp; omega
  clear h4 h5 hyx hgood hlen hX hY q1 q5
  have hx03 := hx2.trans hx3
  go_wp2
  go_loopw [7] (fun i wr => ∃ k : Nat, k ≤ ys0.length ∧ i = .int .i64 k ∧ Ext w3 wr) (fun i _ => ys0.length - (intOf i).toNat)
  case atStart => exact ⟨0, Nat.zero_le _, rfl, Ext.refl _⟩
  case round =>
    obtain ⟨k, hk, rfl, hx⟩ := hrel
    by_cases hlt : k < ys0.length
    · have hltx : k < xs0.length := by omega
      have he' : ys0[k]? = some ys0[k] := List.getElem?_eq_getElem hlt
      have he := HYX.out k _ he'
      obtain ⟨b, o, vd, vf, ve, rfl, hac, c0, c1, c2, c3, c4, c5, c6, c7⟩ := H4.out k _ he
      obtain ⟨b', o', vd', vf', ve', rfl, hac', d0, d1, d2, d3, d4, d5, d6, d7⟩ := H5.out k _ he'
      have hgd := HG.out _ (List.getElem_mem hlt)
      generalize ys0[k] = X at *
      have HSM : Hid _ := hgd.small
      have k1 : ¬ X.kind < 1 := by have := hgd.k1; omega
      have k8 : ¬ 8 < X.kind := by have := hgd.k8; omega
      have ka0 : ¬ X.a < 0 := by have := hgd.a0; omega
      have ka1 : ¬ 1 < X.a := by have := hgd.a1; omega
      have hne : printL X ≠ [63] := hgd.told
      obtain ⟨pl, hpl⟩ : ∃ pl, printL X = pl := ⟨_, rfl⟩
      have HPL : Hid _ := hpl
      rw [hpl] at hne
      have hdl : (⟨pl.toArray⟩ : ByteArray).toList = pl := Lib.toList_data _
      have hbe : (pl == [63]) = false := by simpa using hne
      have HAC : Hid _ := (hac.ext hx).ac
      have HAC' : Hid _ := (hac'.ext hx).ac
      obtain ⟨_, _, _, heq, ⟨⟨s1, s2, rfl, -⟩, -⟩, ⟨⟨s3, s4, rfl, -⟩, -⟩, ⟨s5, ⟨s6, s7, rfl, -⟩, -⟩⟩ := hac
      obtain ⟨_, _, _, heq', ⟨⟨t1, t2, rfl, -⟩, -⟩, ⟨⟨t3, t4, rfl, -⟩, -⟩, ⟨t5, ⟨t6, t7, rfl, -⟩, -⟩⟩ := hac'
      simp only [List.cons.injEq, true_and, and_true] at heq heq'
      obtain ⟨rfl, rfl, rfl⟩ := heq
      obtain ⟨rfl, rfl, rfl⟩ := heq'
      clear he he' hpl hne hgd
      replace c0 := hx.cell c0
      replace c1 := hx.cell c1
      replace c2 := hx.cell c2
      replace c3 := hx.cell c3
      replace c4 := hx.cell c4
      replace c5 := hx.cell c5
      replace c6 := hx.cell c6
      replace c7 := hx.cell c7
      replace d0 := hx.cell d0
      replace d1 := hx.cell d1
      replace d2 := hx.cell d2
      replace d3 := hx.cell d3
      replace d4 := hx.cell d4
      replace d5 := hx.cell d5
      replace d6 := hx.cell d6
      replace d7 := hx.cell d7
      go_wp2
      apply wp_region_mix 51 [_, _, _, .agg (acCells X.kind X.a X.b X.n X.path (.slice s1 X.data.length s2) (.slice s3 X.fates.length s4) (.slice s6 X.events.length s7)), _, _, _, .agg (acCells X.kind X.a X.b X.n X.path (.slice t1 X.data.length t2) (.slice t3 X.fates.length t4) (.slice t6 X.events.length t7)), undef, .bool true, _, _, _, _, _, _, _, _, _, _, _, _, _, _, _, _, _, _, _, _, _, _, _, _, _, _, _, _, _, _, _, _, _, _, _, _, _, .agg (acCells X.kind X.a X.b X.n X.path (.slice t1 X.data.length t2) (.slice t3 X.fates.length t4) (.slice t6 X.events.length t7)), S8 pl, .bool false, _] [none, none, none, none, none, none, none, none, some (fun u w' => ∃ cs, u = .agg cs.toArray ∧ IsAc w' cs X), none, none, none, none, none, none, none, none, none, none, none, none, none, none, none, none, none, none, none, none, none, none, none, none, none, none, none, none, none, none, none, none, none, none, none, none, none, none, none, none, none, none] [[], [], [0, 1], [2], [], [], [4, 5], [6], [7], [3, 8], [9], [10], [11], [11], [11, 12, 13], [11, 14], [11, 15], [11, 16], [11, 17], [18], [19], [19], [19, 20, 21], [19, 22], [19, 23], [19, 24], [19, 25], [26], [27], [27], [27, 28, 29], [27, 30], [27, 31], [27, 32], [27, 33], [34], [35], [35], [35, 36, 37], [35, 38], [35, 39], [35, 40], [35, 41], [42], [43], [43], [43, 44, 45], [43, 46], [43, 47], [43, 48], [43, 49]] (by kernel_rfl) (by kernel_rfl) (by simp [mixV])
      · refine ⟨?_, trivial⟩
        · exact fun _ _ _ he ⟨cs, h1, h2⟩ => ⟨cs, h1, h2.ext he⟩
      · simp (maxSteps := 1000000) only [List.take_succ_cons, List.take_zero, oblFrom, stepObl, fillFrom, Act.put, List.setIfInBounds_toArray, List.set_cons_zero, List.set_cons_succ, knows, getV, mixV, List.getD_cons_zero, List.getD_cons_succ, and_true, true_and, forall_const]
        refine ⟨?_, ?_, ?_, ?_, ?_, ?_, ?_, ?_, ?_, ?_, ?_, ?_, ?_, ?_, ?_, ?_, ?_, ?_, ?_, ?_, ?_, ?_, ?_, ?_, ?_, ?_, ?_, ?_, ?_, ?_, ?_, ?_, ?_, ?_, ?_, ?_, ?_, ?_, ?_, ?_, ?_, ?_, ?_, ?_, ?_, ?_, ?_, ?_, ?_, ?_, ?_⟩
        · intro xs wq hq R hR
          have f0q := hq.cell c0; have f1q := hq.cell c1; have f2q := hq.cell c2; have f3q := hq.cell c3; have f4q := hq.cell c4; have f5q := hq.cell c5; have f6q := hq.cell c6; have f7q := hq.cell c7; have g0q := hq.cell d0; have g1q := hq.cell d1; have g2q := hq.cell d2; have g3q := hq.cell d3; have g4q := hq.cell d4; have g5q := hq.cell d5; have g6q := hq.cell d6; have g7q := hq.cell d7
          go_simp
          exact hR _ _ (Ext.refl _) rfl
        · intro xs wq hq R hR
          have f0q := hq.cell c0; have f1q := hq.cell c1; have f2q := hq.cell c2; have f3q := hq.cell c3; have f4q := hq.cell c4; have f5q := hq.cell c5; have f6q := hq.cell c6; have f7q := hq.cell c7; have g0q := hq.cell d0; have g1q := hq.cell d1; have g2q := hq.cell d2; have g3q := hq.cell d3; have g4q := hq.cell d4; have g5q := hq.cell d5; have g6q := hq.cell d6; have g7q := hq.cell d7
          go_simp
          exact hR _ _ (Ext.refl _) rfl
        · intro xs wq hq hk R hR
          obtain ⟨hk0, hk1⟩ := hk
          have f0q := hq.cell c0; have f1q := hq.cell c1; have f2q := hq.cell c2; have f3q := hq.cell c3; have f4q := hq.cell c4; have f5q := hq.cell c5; have f6q := hq.cell c6; have f7q := hq.cell c7; have g0q := hq.cell d0; have g1q := hq.cell d1; have g2q := hq.cell d2; have g3q := hq.cell d3; have g4q := hq.cell d4; have g5q := hq.cell d5; have g6q := hq.cell d6; have g7q := hq.cell d7
          go_simp
          exact hR _ _ (Ext.refl _) rfl
        · intro xs wq hq hk R hR
          have f0q := hq.cell c0; have f1q := hq.cell c1; have f2q := hq.cell c2; have f3q := hq.cell c3; have f4q := hq.cell c4; have f5q := hq.cell c5; have f6q := hq.cell c6; have f7q := hq.cell c7; have g0q := hq.cell d0; have g1q := hq.cell d1; have g2q := hq.cell d2; have g3q := hq.cell d3; have g4q := hq.cell d4; have g5q := hq.cell d5; have g6q := hq.cell d6; have g7q := hq.cell d7
          go_simp
          exact hR _ _ (Ext.refl _) rfl
        · intro xs wq hq R hR
          have f0q := hq.cell c0; have f1q := hq.cell c1; have f2q := hq.cell c2; have f3q := hq.cell c3; have f4q := hq.cell c4; have f5q := hq.cell c5; have f6q := hq.cell c6; have f7q := hq.cell c7; have g0q := hq.cell d0; have g1q := hq.cell d1; have g2q := hq.cell d2; have g3q := hq.cell d3; have g4q := hq.cell d4; have g5q := hq.cell d5; have g6q := hq.cell d6; have g7q := hq.cell d7
          go_simp
          exact hR _ _ (Ext.refl _) rfl
        · intro xs wq hq R hR
          have f0q := hq.cell c0; have f1q := hq.cell c1; have f2q := hq.cell c2; have f3q := hq.cell c3; have f4q := hq.cell c4; have f5q := hq.cell c5; have f6q := hq.cell c6; have f7q := hq.cell c7; have g0q := hq.cell d0; have g1q := hq.cell d1; have g2q := hq.cell d2; have g3q := hq.cell d3; have g4q := hq.cell d4; have g5q := hq.cell d5; have g6q := hq.cell d6; have g7q := hq.cell d7
          go_simp
          exact hR _ _ (Ext.refl _) rfl
        · intro xs wq hq hk R hR
          obtain ⟨hk0, hk1⟩ := hk
          have f0q := hq.cell c0; have f1q := hq.cell c1; have f2q := hq.cell c2; have f3q := hq.cell c3; have f4q := hq.cell c4; have f5q := hq.cell c5; have f6q := hq.cell c6; have f7q := hq.cell c7; have g0q := hq.cell d0; have g1q := hq.cell d1; have g2q := hq.cell d2; have g3q := hq.cell d3; have g4q := hq.cell d4; have g5q := hq.cell d5; have g6q := hq.cell d6; have g7q := hq.cell d7
          go_simp
          exact hR _ _ (Ext.refl _) rfl
        · intro xs wq hq hk R hR
          have f0q := hq.cell c0; have f1q := hq.cell c1; have f2q := hq.cell c2; have f3q := hq.cell c3; have f4q := hq.cell c4; have f5q := hq.cell c5; have f6q := hq.cell c6; have f7q := hq.cell c7; have g0q := hq.cell d0; have g1q := hq.cell d1; have g2q := hq.cell d2; have g3q := hq.cell d3; have g4q := hq.cell d4; have g5q := hq.cell d5; have g6q := hq.cell d6; have g7q := hq.cell d7
          go_simp
          exact hR _ _ (Ext.refl _) rfl
        · intro xs wq hq hk R hR
          go_simp
          exact (plainAct_any _ X _ (IsAc.ext HAC'.out hq) (Nat.le_trans HSM.out.ne (by decide))).mono (by rintro e' w8 ⟨⟨cs, rfl, h3⟩, h2⟩; exact ⟨_, rfl, hR _ _ h2 ⟨cs, rfl, h3⟩⟩)
        · intro xs wq hq hk R hR
          obtain ⟨hk0, hk1⟩ := hk
          obtain ⟨cs, hcs, hac9⟩ := hk1
          go_simp
          exact (same_any _ _ X _ (IsAc.ext HAC.out hq) hac9).mono (by rintro e' w8 ⟨rfl, h2⟩; exact ⟨_, rfl, hR _ _ h2 rfl⟩)
        · intro xs wq hq hk R hR
          have f0q := hq.cell c0; have f1q := hq.cell c1; have f2q := hq.cell c2; have f3q := hq.cell c3; have f4q := hq.cell c4; have f5q := hq.cell c5; have f6q := hq.cell c6; have f7q := hq.cell c7; have g0q := hq.cell d0; have g1q := hq.cell d1; have g2q := hq.cell d2; have g3q := hq.cell d3; have g4q := hq.cell d4; have g5q := hq.cell d5; have g6q := hq.cell d6; have g7q := hq.cell d7
          go_simp
          exact hR _ _ (Ext.refl _) rfl
        · intro xs wq hq hk R hR
          have f0q := hq.cell c0; have f1q := hq.cell c1; have f2q := hq.cell c2; have f3q := hq.cell c3; have f4q := hq.cell c4; have f5q := hq.cell c5; have f6q := hq.cell c6; have f7q := hq.cell c7; have g0q := hq.cell d0; have g1q := hq.cell d1; have g2q := hq.cell d2; have g3q := hq.cell d3; have g4q := hq.cell d4; have g5q := hq.cell d5; have g6q := hq.cell d6; have g7q := hq.cell d7
          go_simp
          exact hR _ _ (Ext.refl _) rfl
        · intro xs wq hq hk R hR
          have f0q := hq.cell c0; have f1q := hq.cell c1; have f2q := hq.cell c2; have f3q := hq.cell c3; have f4q := hq.cell c4; have f5q := hq.cell c5; have f6q := hq.cell c6; have f7q := hq.cell c7; have g0q := hq.cell d0; have g1q := hq.cell d1; have g2q := hq.cell d2; have g3q := hq.cell d3; have g4q := hq.cell d4; have g5q := hq.cell d5; have g6q := hq.cell d6; have g7q := hq.cell d7
          go_simp
          exact hR _ _ (Ext.refl _) rfl
        · intro xs wq hq hk R hR
          have f0q := hq.cell c0; have f1q := hq.cell c1; have f2q := hq.cell c2; have f3q := hq.cell c3; have f4q := hq.cell c4; have f5q := hq.cell c5; have f6q := hq.cell c6; have f7q := hq.cell c7; have g0q := hq.cell d0; have g1q := hq.cell d1; have g2q := hq.cell d2; have g3q := hq.cell d3; have g4q := hq.cell d4; have g5q := hq.cell d5; have g6q := hq.cell d6; have g7q := hq.cell d7
          go_simp
          exact hR _ _ (Ext.refl _) rfl
        · intro xs wq hq hk R hR
          obtain ⟨hk0, hk1, hk2⟩ := hk
          have f0q := hq.cell c0; have f1q := hq.cell c1; have f2q := hq.cell c2; have f3q := hq.cell c3; have f4q := hq.cell c4; have f5q := hq.cell c5; have f6q := hq.cell c6; have f7q := hq.cell c7; have g0q := hq.cell d0; have g1q := hq.cell d1; have g2q := hq.cell d2; have g3q := hq.cell d3; have g4q := hq.cell d4; have g5q := hq.cell d5; have g6q := hq.cell d6; have g7q := hq.cell d7
          go_simp
          exact hR _ _ (Ext.refl _) rfl
        · intro xs wq hq hk R hR
          obtain ⟨hk0, hk1⟩ := hk
          have f0q := hq.cell c0; have f1q := hq.cell c1; have f2q := hq.cell c2; have f3q := hq.cell c3; have f4q := hq.cell c4; have f5q := hq.cell c5; have f6q := hq.cell c6; have f7q := hq.cell c7; have g0q := hq.cell d0; have g1q := hq.cell d1; have g2q := hq.cell d2; have g3q := hq.cell d3; have g4q := hq.cell d4; have g5q := hq.cell d5; have g6q := hq.cell d6; have g7q := hq.cell d7
          go_simp
          exact hR _ _ (Ext.refl _) rfl
        · intro xs wq hq hk R hR
          obtain ⟨hk0, hk1⟩ := hk
          have f0q := hq.cell c0; have f1q := hq.cell c1; have f2q := hq.cell c2; have f3q := hq.cell c3; have f4q := hq.cell c4; have f5q := hq.cell c5; have f6q := hq.cell c6; have f7q := hq.cell c7; have g0q := hq.cell d0; have g1q := hq.cell d1; have g2q := hq.cell d2; have g3q := hq.cell d3; have g4q := hq.cell d4; have g5q := hq.cell d5; have g6q := hq.cell d6; have g7q := hq.cell d7
          go_simp
          exact hR _ _ (Ext.refl _) rfl
        · intro xs wq hq hk R hR
          obtain ⟨hk0, hk1⟩ := hk
          have f0q := hq.cell c0; have f1q := hq.cell c1; have f2q := hq.cell c2; have f3q := hq.cell c3; have f4q := hq.cell c4; have f5q := hq.cell c5; have f6q := hq.cell c6; have f7q := hq.cell c7; have g0q := hq.cell d0; have g1q := hq.cell d1; have g2q := hq.cell d2; have g3q := hq.cell d3; have g4q := hq.cell d4; have g5q := hq.cell d5; have g6q := hq.cell d6; have g7q := hq.cell d7
          go_simp
          exact hR _ _ (Ext.refl _) rfl
        · intro xs wq hq hk R hR
          obtain ⟨hk0, hk1⟩ := hk
          have f0q := hq.cell c0; have f1q := hq.cell c1; have f2q := hq.cell c2; have f3q := hq.cell c3; have f4q := hq.cell c4; have f5q := hq.cell c5; have f6q := hq.cell c6; have f7q := hq.cell c7; have g0q := hq.cell d0; have g1q := hq.cell d1; have g2q := hq.cell d2; have g3q := hq.cell d3; have g4q := hq.cell d4; have g5q := hq.cell d5; have g6q := hq.cell d6; have g7q := hq.cell d7
          go_simp
          exact hR _ _ (Ext.refl _) rfl
        · intro xs wq hq hk R hR
          have f0q := hq.cell c0; have f1q := hq.cell c1; have f2q := hq.cell c2; have f3q := hq.cell c3; have f4q := hq.cell c4; have f5q := hq.cell c5; have f6q := hq.cell c6; have f7q := hq.cell c7; have g0q := hq.cell d0; have g1q := hq.cell d1; have g2q := hq.cell d2; have g3q := hq.cell d3; have g4q := hq.cell d4; have g5q := hq.cell d5; have g6q := hq.cell d6; have g7q := hq.cell d7
          go_simp
          exact hR _ _ (Ext.refl _) rfl
        · intro xs wq hq hk R hR
          have f0q := hq.cell c0; have f1q := hq.cell c1; have f2q := hq.cell c2; have f3q := hq.cell c3; have f4q := hq.cell c4; have f5q := hq.cell c5; have f6q := hq.cell c6; have f7q := hq.cell c7; have g0q := hq.cell d0; have g1q := hq.cell d1; have g2q := hq.cell d2; have g3q := hq.cell d3; have g4q := hq.cell d4; have g5q := hq.cell d5; have g6q := hq.cell d6; have g7q := hq.cell d7
          go_simp
          exact hR _ _ (Ext.refl _) rfl
        · intro xs wq hq hk R hR
          have f0q := hq.cell c0; have f1q := hq.cell c1; have f2q := hq.cell c2; have f3q := hq.cell c3; have f4q := hq.cell c4; have f5q := hq.cell c5; have f6q := hq.cell c6; have f7q := hq.cell c7; have g0q := hq.cell d0; have g1q := hq.cell d1; have g2q := hq.cell d2; have g3q := hq.cell d3; have g4q := hq.cell d4; have g5q := hq.cell d5; have g6q := hq.cell d6; have g7q := hq.cell d7
          go_simp
          exact hR _ _ (Ext.refl _) rfl
        · intro xs wq hq hk R hR
          obtain ⟨hk0, hk1, hk2⟩ := hk
          have f0q := hq.cell c0; have f1q := hq.cell c1; have f2q := hq.cell c2; have f3q := hq.cell c3; have f4q := hq.cell c4; have f5q := hq.cell c5; have f6q := hq.cell c6; have f7q := hq.cell c7; have g0q := hq.cell d0; have g1q := hq.cell d1; have g2q := hq.cell d2; have g3q := hq.cell d3; have g4q := hq.cell d4; have g5q := hq.cell d5; have g6q := hq.cell d6; have g7q := hq.cell d7
          go_simp
          exact hR _ _ (Ext.refl _) rfl
        · intro xs wq hq hk R hR
          obtain ⟨hk0, hk1⟩ := hk
          have f0q := hq.cell c0; have f1q := hq.cell c1; have f2q := hq.cell c2; have f3q := hq.cell c3; have f4q := hq.cell c4; have f5q := hq.cell c5; have f6q := hq.cell c6; have f7q := hq.cell c7; have g0q := hq.cell d0; have g1q := hq.cell d1; have g2q := hq.cell d2; have g3q := hq.cell d3; have g4q := hq.cell d4; have g5q := hq.cell d5; have g6q := hq.cell d6; have g7q := hq.cell d7
          go_simp
          exact hR _ _ (Ext.refl _) rfl
        · intro xs wq hq hk R hR
          obtain ⟨hk0, hk1⟩ := hk
          have f0q := hq.cell c0; have f1q := hq.cell c1; have f2q := hq.cell c2; have f3q := hq.cell c3; have f4q := hq.cell c4; have f5q := hq.cell c5; have f6q := hq.cell c6; have f7q := hq.cell c7; have g0q := hq.cell d0; have g1q := hq.cell d1; have g2q := hq.cell d2; have g3q := hq.cell d3; have g4q := hq.cell d4; have g5q := hq.cell d5; have g6q := hq.cell d6; have g7q := hq.cell d7
          go_simp
          exact hR _ _ (Ext.refl _) rfl
        · intro xs wq hq hk R hR
          obtain ⟨hk0, hk1⟩ := hk
          have f0q := hq.cell c0; have f1q := hq.cell c1; have f2q := hq.cell c2; have f3q := hq.cell c3; have f4q := hq.cell c4; have f5q := hq.cell c5; have f6q := hq.cell c6; have f7q := hq.cell c7; have g0q := hq.cell d0; have g1q := hq.cell d1; have g2q := hq.cell d2; have g3q := hq.cell d3; have g4q := hq.cell d4; have g5q := hq.cell d5; have g6q := hq.cell d6; have g7q := hq.cell d7
          go_simp
          exact hR _ _ (Ext.refl _) rfl
        · intro xs wq hq hk R hR
          obtain ⟨hk0, hk1⟩ := hk
          have f0q := hq.cell c0; have f1q := hq.cell c1; have f2q := hq.cell c2; have f3q := hq.cell c3; have f4q := hq.cell c4; have f5q := hq.cell c5; have f6q := hq.cell c6; have f7q := hq.cell c7; have g0q := hq.cell d0; have g1q := hq.cell d1; have g2q := hq.cell d2; have g3q := hq.cell d3; have g4q := hq.cell d4; have g5q := hq.cell d5; have g6q := hq.cell d6; have g7q := hq.cell d7
          go_simp
          exact hR _ _ (Ext.refl _) rfl
        · intro xs wq hq hk R hR
          have f0q := hq.cell c0; have f1q := hq.cell c1; have f2q := hq.cell c2; have f3q := hq.cell c3; have f4q := hq.cell c4; have f5q := hq.cell c5; have f6q := hq.cell c6; have f7q := hq.cell c7; have g0q := hq.cell d0; have g1q := hq.cell d1; have g2q := hq.cell d2; have g3q := hq.cell d3; have g4q := hq.cell d4; have g5q := hq.cell d5; have g6q := hq.cell d6; have g7q := hq.cell d7
          go_simp
          exact hR _ _ (Ext.refl _) rfl
        · intro xs wq hq hk R hR
          have f0q := hq.cell c0; have f1q := hq.cell c1; have f2q := hq.cell c2; have f3q := hq.cell c3; have f4q := hq.cell c4; have f5q := hq.cell c5; have f6q := hq.cell c6; have f7q := hq.cell c7; have g0q := hq.cell d0; have g1q := hq.cell d1; have g2q := hq.cell d2; have g3q := hq.cell d3; have g4q := hq.cell d4; have g5q := hq.cell d5; have g6q := hq.cell d6; have g7q := hq.cell d7
          go_simp
          exact hR _ _ (Ext.refl _) rfl
        · intro xs wq hq hk R hR
          have f0q := hq.cell c0; have f1q := hq.cell c1; have f2q := hq.cell c2; have f3q := hq.cell c3; have f4q := hq.cell c4; have f5q := hq.cell c5; have f6q := hq.cell c6; have f7q := hq.cell c7; have g0q := hq.cell d0; have g1q := hq.cell d1; have g2q := hq.cell d2; have g3q := hq.cell d3; have g4q := hq.cell d4; have g5q := hq.cell d5; have g6q := hq.cell d6; have g7q := hq.cell d7
          go_simp
          exact hR _ _ (Ext.refl _) rfl
        · intro xs wq hq hk R hR
          obtain ⟨hk0, hk1, hk2⟩ := hk
          have f0q := hq.cell c0; have f1q := hq.cell c1; have f2q := hq.cell c2; have f3q := hq.cell c3; have f4q := hq.cell c4; have f5q := hq.cell c5; have f6q := hq.cell c6; have f7q := hq.cell c7; have g0q := hq.cell d0; have g1q := hq.cell d1; have g2q := hq.cell d2; have g3q := hq.cell d3; have g4q := hq.cell d4; have g5q := hq.cell d5; have g6q := hq.cell d6; have g7q := hq.cell d7
          go_simp
          exact hR _ _ (Ext.refl _) rfl
        · intro xs wq hq hk R hR
          obtain ⟨hk0, hk1⟩ := hk
          have f0q := hq.cell c0; have f1q := hq.cell c1; have f2q := hq.cell c2; have f3q := hq.cell c3; have f4q := hq.cell c4; have f5q := hq.cell c5; have f6q := hq.cell c6; have f7q := hq.cell c7; have g0q := hq.cell d0; have g1q := hq.cell d1; have g2q := hq.cell d2; have g3q := hq.cell d3; have g4q := hq.cell d4; have g5q := hq.cell d5; have g6q := hq.cell d6; have g7q := hq.cell d7
          go_simp
          exact hR _ _ (Ext.refl _) rfl
        · intro xs wq hq hk R hR
          obtain ⟨hk0, hk1⟩ := hk
          have f0q := hq.cell c0; have f1q := hq.cell c1; have f2q := hq.cell c2; have f3q := hq.cell c3; have f4q := hq.cell c4; have f5q := hq.cell c5; have f6q := hq.cell c6; have f7q := hq.cell c7; have g0q := hq.cell d0; have g1q := hq.cell d1; have g2q := hq.cell d2; have g3q := hq.cell d3; have g4q := hq.cell d4; have g5q := hq.cell d5; have g6q := hq.cell d6; have g7q := hq.cell d7
          go_simp
          exact hR _ _ (Ext.refl _) rfl
        · intro xs wq hq hk R hR
          obtain ⟨hk0, hk1⟩ := hk
          have f0q := hq.cell c0; have f1q := hq.cell c1; have f2q := hq.cell c2; have f3q := hq.cell c3; have f4q := hq.cell c4; have f5q := hq.cell c5; have f6q := hq.cell c6; have f7q := hq.cell c7; have g0q := hq.cell d0; have g1q := hq.cell d1; have g2q := hq.cell d2; have g3q := hq.cell d3; have g4q := hq.cell d4; have g5q := hq.cell d5; have g6q := hq.cell d6; have g7q := hq.cell d7
          go_simp
          exact hR _ _ (Ext.refl _) rfl
        · intro xs wq hq hk R hR
          obtain ⟨hk0, hk1⟩ := hk
          have f0q := hq.cell c0; have f1q := hq.cell c1; have f2q := hq.cell c2; have f3q := hq.cell c3; have f4q := hq.cell c4; have f5q := hq.cell c5; have f6q := hq.cell c6; have f7q := hq.cell c7; have g0q := hq.cell d0; have g1q := hq.cell d1; have g2q := hq.cell d2; have g3q := hq.cell d3; have g4q := hq.cell d4; have g5q := hq.cell d5; have g6q := hq.cell d6; have g7q := hq.cell d7
          go_simp
          exact hR _ _ (Ext.refl _) rfl
        · intro xs wq hq hk R hR
          have f0q := hq.cell c0; have f1q := hq.cell c1; have f2q := hq.cell c2; have f3q := hq.cell c3; have f4q := hq.cell c4; have f5q := hq.cell c5; have f6q := hq.cell c6; have f7q := hq.cell c7; have g0q := hq.cell d0; have g1q := hq.cell d1; have g2q := hq.cell d2; have g3q := hq.cell d3; have g4q := hq.cell d4; have g5q := hq.cell d5; have g6q := hq.cell d6; have g7q := hq.cell d7
          go_simp
          exact hR _ _ (Ext.refl _) rfl
        · intro xs wq hq hk R hR
          have f0q := hq.cell c0; have f1q := hq.cell c1; have f2q := hq.cell c2; have f3q := hq.cell c3; have f4q := hq.cell c4; have f5q := hq.cell c5; have f6q := hq.cell c6; have f7q := hq.cell c7; have g0q := hq.cell d0; have g1q := hq.cell d1; have g2q := hq.cell d2; have g3q := hq.cell d3; have g4q := hq.cell d4; have g5q := hq.cell d5; have g6q := hq.cell d6; have g7q := hq.cell d7
          go_simp
          exact hR _ _ (Ext.refl _) rfl
        · intro xs wq hq hk R hR
          have f0q := hq.cell c0; have f1q := hq.cell c1; have f2q := hq.cell c2; have f3q := hq.cell c3; have f4q := hq.cell c4; have f5q := hq.cell c5; have f6q := hq.cell c6; have f7q := hq.cell c7; have g0q := hq.cell d0; have g1q := hq.cell d1; have g2q := hq.cell d2; have g3q := hq.cell d3; have g4q := hq.cell d4; have g5q := hq.cell d5; have g6q := hq.cell d6; have g7q := hq.cell d7
          go_simp
          exact hR _ _ (Ext.refl _) rfl
        · intro xs wq hq hk R hR
          obtain ⟨hk0, hk1, hk2⟩ := hk
          have f0q := hq.cell c0; have f1q := hq.cell c1; have f2q := hq.cell c2; have f3q := hq.cell c3; have f4q := hq.cell c4; have f5q := hq.cell c5; have f6q := hq.cell c6; have f7q := hq.cell c7; have g0q := hq.cell d0; have g1q := hq.cell d1; have g2q := hq.cell d2; have g3q := hq.cell d3; have g4q := hq.cell d4; have g5q := hq.cell d5; have g6q := hq.cell d6; have g7q := hq.cell d7
          go_simp
          exact hR _ _ (Ext.refl _) rfl
        · intro xs wq hq hk R hR
          obtain ⟨hk0, hk1⟩ := hk
          have f0q := hq.cell c0; have f1q := hq.cell c1; have f2q := hq.cell c2; have f3q := hq.cell c3; have f4q := hq.cell c4; have f5q := hq.cell c5; have f6q := hq.cell c6; have f7q := hq.cell c7; have g0q := hq.cell d0; have g1q := hq.cell d1; have g2q := hq.cell d2; have g3q := hq.cell d3; have g4q := hq.cell d4; have g5q := hq.cell d5; have g6q := hq.cell d6; have g7q := hq.cell d7
          go_simp
          exact hR _ _ (Ext.refl _) rfl
        · intro xs wq hq hk R hR
          obtain ⟨hk0, hk1⟩ := hk
          have f0q := hq.cell c0; have f1q := hq.cell c1; have f2q := hq.cell c2; have f3q := hq.cell c3; have f4q := hq.cell c4; have f5q := hq.cell c5; have f6q := hq.cell c6; have f7q := hq.cell c7; have g0q := hq.cell d0; have g1q := hq.cell d1; have g2q := hq.cell d2; have g3q := hq.cell d3; have g4q := hq.cell d4; have g5q := hq.cell d5; have g6q := hq.cell d6; have g7q := hq.cell d7
          go_simp
          exact hR _ _ (Ext.refl _) rfl
        · intro xs wq hq hk R hR
          obtain ⟨hk0, hk1⟩ := hk
          have f0q := hq.cell c0; have f1q := hq.cell c1; have f2q := hq.cell c2; have f3q := hq.cell c3; have f4q := hq.cell c4; have f5q := hq.cell c5; have f6q := hq.cell c6; have f7q := hq.cell c7; have g0q := hq.cell d0; have g1q := hq.cell d1; have g2q := hq.cell d2; have g3q := hq.cell d3; have g4q := hq.cell d4; have g5q := hq.cell d5; have g6q := hq.cell d6; have g7q := hq.cell d7
          go_simp
          exact hR _ _ (Ext.refl _) rfl
        · intro xs wq hq hk R hR
          obtain ⟨hk0, hk1⟩ := hk
          have f0q := hq.cell c0; have f1q := hq.cell c1; have f2q := hq.cell c2; have f3q := hq.cell c3; have f4q := hq.cell c4; have f5q := hq.cell c5; have f6q := hq.cell c6; have f7q := hq.cell c7; have g0q := hq.cell d0; have g1q := hq.cell d1; have g2q := hq.cell d2; have g3q := hq.cell d3; have g4q := hq.cell d4; have g5q := hq.cell d5; have g6q := hq.cell d6; have g7q := hq.cell d7
          go_simp
          exact hR _ _ (Ext.refl _) rfl
        · intro xs wq hq hk R hR
          have f0q := hq.cell c0; have f1q := hq.cell c1; have f2q := hq.cell c2; have f3q := hq.cell c3; have f4q := hq.cell c4; have f5q := hq.cell c5; have f6q := hq.cell c6; have f7q := hq.cell c7; have g0q := hq.cell d0; have g1q := hq.cell d1; have g2q := hq.cell d2; have g3q := hq.cell d3; have g4q := hq.cell d4; have g5q := hq.cell d5; have g6q := hq.cell d6; have g7q := hq.cell d7
          go_simp
          exact hR _ _ (Ext.refl _) rfl
        · intro xs wq hq hk R hR
          have f0q := hq.cell c0; have f1q := hq.cell c1; have f2q := hq.cell c2; have f3q := hq.cell c3; have f4q := hq.cell c4; have f5q := hq.cell c5; have f6q := hq.cell c6; have f7q := hq.cell c7; have g0q := hq.cell d0; have g1q := hq.cell d1; have g2q := hq.cell d2; have g3q := hq.cell d3; have g4q := hq.cell d4; have g5q := hq.cell d5; have g6q := hq.cell d6; have g7q := hq.cell d7
          go_simp
          exact hR _ _ (Ext.refl _) rfl
        · intro xs wq hq hk R hR
          have f0q := hq.cell c0; have f1q := hq.cell c1; have f2q := hq.cell c2; have f3q := hq.cell c3; have f4q := hq.cell c4; have f5q := hq.cell c5; have f6q := hq.cell c6; have f7q := hq.cell c7; have g0q := hq.cell d0; have g1q := hq.cell d1; have g2q := hq.cell d2; have g3q := hq.cell d3; have g4q := hq.cell d4; have g5q := hq.cell d5; have g6q := hq.cell d6; have g7q := hq.cell d7
          go_simp
          exact hR _ _ (Ext.refl _) rfl
        · intro xs wq hq hk R hR
          obtain ⟨hk0, hk1, hk2⟩ := hk
          have f0q := hq.cell c0; have f1q := hq.cell c1; have f2q := hq.cell c2; have f3q := hq.cell c3; have f4q := hq.cell c4; have f5q := hq.cell c5; have f6q := hq.cell c6; have f7q := hq.cell c7; have g0q := hq.cell d0; have g1q := hq.cell d1; have g2q := hq.cell d2; have g3q := hq.cell d3; have g4q := hq.cell d4; have g5q := hq.cell d5; have g6q := hq.cell d6; have g7q := hq.cell d7
          go_simp
          exact hR _ _ (Ext.refl _) rfl
        · intro xs wq hq hk R hR
          obtain ⟨hk0, hk1⟩ := hk
          have f0q := hq.cell c0; have f1q := hq.cell c1; have f2q := hq.cell c2; have f3q := hq.cell c3; have f4q := hq.cell c4; have f5q := hq.cell c5; have f6q := hq.cell c6; have f7q := hq.cell c7; have g0q := hq.cell d0; have g1q := hq.cell d1; have g2q := hq.cell d2; have g3q := hq.cell d3; have g4q := hq.cell d4; have g5q := hq.cell d5; have g6q := hq.cell d6; have g7q := hq.cell d7
          go_simp
          exact hR _ _ (Ext.refl _) rfl
        · intro xs wq hq hk R hR
          obtain ⟨hk0, hk1⟩ := hk
          go_simp
          exact (print_any X _ _ (HE.out.ext (hx03.trans (hx.trans hq))) (IsAc.ext HAC'.out hq) HSM.out).mono (by rw [HPL.out]; rintro e' w8 ⟨rfl, h2⟩; exact ⟨_, rfl, hR _ _ h2 rfl⟩)
        · intro xs wq hq hk R hR
          obtain ⟨hk0, hk1⟩ := hk
          have f0q := hq.cell c0; have f1q := hq.cell c1; have f2q := hq.cell c2; have f3q := hq.cell c3; have f4q := hq.cell c4; have f5q := hq.cell c5; have f6q := hq.cell c6; have f7q := hq.cell c7; have g0q := hq.cell d0; have g1q := hq.cell d1; have g2q := hq.cell d2; have g3q := hq.cell d3; have g4q := hq.cell d4; have g5q := hq.cell d5; have g6q := hq.cell d6; have g7q := hq.cell d7
          go_simp
          exact hR _ _ (Ext.refl _) rfl
        · intro xs wq hq hk R hR
          obtain ⟨hk0, hk1⟩ := hk
          have f0q := hq.cell c0; have f1q := hq.cell c1; have f2q := hq.cell c2; have f3q := hq.cell c3; have f4q := hq.cell c4; have f5q := hq.cell c5; have f6q := hq.cell c6; have f7q := hq.cell c7; have g0q := hq.cell d0; have g1q := hq.cell d1; have g2q := hq.cell d2; have g3q := hq.cell d3; have g4q := hq.cell d4; have g5q := hq.cell d5; have g6q := hq.cell d6; have g7q := hq.cell d7
          go_simp
          exact hR _ _ (Ext.refl _) rfl
      intro xs w7 hx7 hk
      simp only [heldV, Nat.zero_add, Nat.reduceAdd, and_true] at hk
      obtain ⟨q0, q1, q2, q3, q4, q5, q6, q7, q8, q9, q10, q11, q12, q13, q14, q15, q16, q17, q18, q19, q20, q21, q22, q23, q24, q25, q26, q27, q28, q29, q30, q31, q32, q33, q34, q35, q36, q37, q38, q39, q40, q41, q42, q43, q44, q45, q46, q47, q48, q49, q50⟩ := hk
      simp (maxSteps := 1000000) only [List.take_succ_cons, List.take_zero, List.drop_succ_cons, List.drop_zero, fillFrom, Act.put, List.setIfInBounds_toArray, List.set_cons_zero, List.set_cons_succ, Nat.zero_add, Nat.reduceAdd, q0, q1, q2, q3, q4, q5, q6, q7, q9, q10, q11, q12, q13, q14, q15, q16, q17, q18, q19, q20, q21, q22, q23, q24, q25, q26, q27, q28, q29, q30, q31, q32, q33, q34, q35, q36, q37, q38, q39, q40, q41, q42, q43, q44, q45, q46, q47, q48, q49, q50]
      clear q0 q1 q2 q3 q4 q5 q6 q7 q9 q10 q11 q12 q13 q14 q15 q16 q17 q18 q19 q20 q21 q22 q23 q24 q25 q26 q27 q28 q29 q30 q31 q32 q33 q34 q35 q36 q37 q38 q39 q40 q41 q42 q43 q44 q45 q46 q47 q48 q49 q50
      generalize xs 8 = x8 at *
      refine wpList_nil ?_
      go_wp2
      go_roundw
      case rel => exact ⟨k + 1, by omega, by go_num, hx.trans hx7⟩
      case measure => simp [intOf]; omega
    · have hkk : k = ys0.length := by omega
      subst hkk
      go_wp2_with fail
      go_at_call 7
      refine (first_any _ (HE.out.ext (hx03.trans hx))).mono ?_
      rintro e w7 ⟨rfl, hx7⟩
      go_wp2
      go_ret
      exact ⟨rfl, hx03.trans (hx.trans hx7)⟩

theorem scriptCuts_any (v : Value) (l : B8) (n : Int) (w : World) (hE : Env w) (hv : IsBytes w v l) (hn : I64 n) :
    Calls Tryd.prog 6 #[v, .int .i64 n] w fun e w' => e = .returned (.bool true) ∧ Ext w w' := by
  by_cases h : 6000 < l.length ∨ n < 0 ∨ (l.length : Int) < n
  · exact scriptCuts_no v l n w hE hv hn h
  · obtain ⟨m, rfl⟩ : ∃ m : Nat, n = m := ⟨n.toNat, by omega⟩
    exact scriptCuts_yes v l m w hE hv (by omega) (by omega)

end Go.Proofs.YthfkohppillflaaDoor
