/- script.Print: an act as a line. Conditions: numbers of 64 bits, paths and data of at most 3000000 bytes, at most 3000001 fates and events. -/
import Derived.Test.YthfkohppillflaaDoorTells
namespace Go.Proofs.YthfkohppillflaaDoor
open Go Go.RowKit

def printL (x : Ac) : B8 :=
  if tellsB x then Lib.join [wordsL.getD (x.kind - 1).toNat [], Lib.itoa x.a, Lib.itoa x.b, Lib.itoa x.n, orL x.path, orL (hexL x.data), orL (Lib.join (x.fates.map Lib.itoa) [44]), orL (Lib.join (x.events.map evS) [44])] [32] else [63]

structure Ac.small (x : Ac) : Prop where
  ok : x.ok
  path : x.path.length ≤ 3000000
  data : x.data.length ≤ 3000000
  nf : x.fates.length ≤ 3000001
  ne : x.events.length ≤ 3000001
  ep : ∀ e ∈ x.events, e.path.length ≤ 3000000 ∧ e.data.length ≤ 3000000

theorem sum_le_of {α : Type} (f : α → Nat) (c : Nat) : ∀ l : List α, (∀ x ∈ l, f x ≤ c) → (l.map f).sum ≤ c * l.length
  | [], _ => by simp
  | x :: l, h => by
    have h1 := h x (by simp)
    have h2 := sum_le_of f c l (fun y hy => h y (by simp [hy]))
    simp only [List.map_cons, List.sum_cons, List.length_cons, Nat.mul_add]
    omega

theorem fates_len {x : Ac} (h : x.small) : (Lib.join (x.fates.map Lib.itoa) [44]).length ≤ 100000000 := by
  have h1 := join_len [44] (x.fates.map Lib.itoa)
  have h2 := sum_le_of (fun n => (Lib.itoa n).length) 21 x.fates (fun n hn => itoa_len n (h.ok.2.2.2.2.1 n hn))
  have h3 := h.nf
  rw [List.map_map] at h1
  have e : (List.map (List.length ∘ Lib.itoa) x.fates) = x.fates.map fun n => (Lib.itoa n).length := rfl
  rw [e] at h1
  simp only [List.length_map, List.length_cons, List.length_nil] at h1
  omega
theorem events_len {x : Ac} (h : x.small) : (Lib.join (x.events.map evS) [44]).length ≤ 30000000000000 := by
  have h1 := join_len [44] (x.events.map evS)
  have h2 := sum_le_of (fun e => (evS e).length) 9200000 x.events (fun e he => evS_len e (h.ok.2.2.2.2.2 e he) (h.ep e he).1 (h.ep e he).2)
  have h3 := h.ne
  rw [List.map_map] at h1
  have e : (List.map (List.length ∘ evS) x.events) = x.events.map fun n => (evS n).length := rfl
  rw [e] at h1
  simp only [List.length_map, List.length_cons, List.length_nil] at h1
  omega

/-- The words of a line. -/
def lineL (x : Ac) : List B8 := [wordsL.getD (x.kind - 1).toNat [], Lib.itoa x.a, Lib.itoa x.b, Lib.itoa x.n] ++ [orL x.path, orL (hexL x.data), orL (Lib.join (x.fates.map Lib.itoa) [44]), orL (Lib.join (x.events.map evS) [44])]

theorem line_len {x : Ac} (h : x.small) : (Lib.join (lineL x) [32]).length ≤ 140737488355328 := by
  have h1 := join_len [32] (lineL x)
  have k1 := itoa_len _ h.ok.2.1
  have k2 := itoa_len _ h.ok.2.2.1
  have k3 := itoa_len _ h.ok.2.2.2.1
  have k4 := orL_le x.path
  have k5 := orL_le (hexL x.data)
  have k6 := hexL_length x.data
  have k7 := orL_le (Lib.join (x.fates.map Lib.itoa) [44])
  have k8 := orL_le (Lib.join (x.events.map evS) [44])
  have k9 := fates_len h
  have k10 := events_len h
  have k11 : (wordsL.getD (x.kind - 1).toNat []).length ≤ 7 := by
    generalize (x.kind - 1).toNat = n
    rcases n with _ | _ | _ | _ | _ | _ | _ | _ | n <;> simp [wordsL]
  have h2 := h.path
  have h3 := h.data
  simp only [lineL, List.cons_append, List.nil_append, List.map_cons, List.map_nil, List.sum_cons, List.sum_nil, List.length_cons, List.length_nil] at h1 ⊢
  omega

theorem owns_block {w : World} {g base : Nat} {e : TypeId} {cs : Array Value} {n : Nat} (h : w.heap[g]? = some (.cells cs e (0, 0))) (hb : base ≤ g) (hn : cs.size = n) (hm : n ≤ 3000000) :
    w.ownsRow base e 1 (.slice (some ⟨g, 0, none⟩) n n) n cs.toList := by
  refine ⟨by simp [hn], .inr ⟨g, n, cs, rfl, hb, h, Nat.le_refl _, by unfold maxLen; omega, by omega, ?_⟩⟩
  rw [List.take_of_length_le (by simp [hn])]

set_option maxRecDepth 100000 in
set_option maxHeartbeats 1000000 in
theorem print_no (x : Ac) (cs : List Value) (w : World) (hE : Env w) (hx : IsAc w cs x) (hs : x.small) (hT : tellsB x = false) :
    Calls Tryd.prog 11 #[.agg cs.toArray] w fun e w' => e = .returned (S8 (printL x)) ∧ Ext w w' := by
  have hp : printL x = [63] := by simp [printL, hT]
  rw [hp]
  have H := tells_any x cs (w.alloc (.cells cs.toArray 26)) (hE.ext ((Ext.refl w).alloc _)) (hx.ext ((Ext.refl w).alloc _)) hs.path (fun e he => (hs.ep e he).1)
  rw [hT] at H
  obtain ⟨vd, vf, ve, rfl, ⟨a1, n1, rfl, -⟩, ⟨a2, n2, rfl, -⟩, ⟨css, ⟨a3, n3, rfl, -⟩, -⟩⟩ := hx
  have HH : Hid _ := H
  clear H hE hs hp
  go_enter Tryd.func11, Tryd.ntmps11
  go_wp2_with (go_at_call 29; go_must (refine Calls.mono HH.out ?_; rintro e w' ⟨rfl, hx⟩))
  go_ret
  exact ⟨rfl, ((Ext.refl _).alloc _).trans hx⟩

set_option maxRecDepth 100000 in
set_option maxHeartbeats 4000000 in
theorem print_yes (x : Ac) (cs : List Value) (w : World) (hE : Env w) (hx : IsAc w cs x) (hs : x.small) (hT : tellsB x = true) :
    Calls Tryd.prog 11 #[.agg cs.toArray] w fun e w' => e = .returned (S8 (Lib.join (lineL x) [32])) ∧ Ext w w' := by
  have H := tells_any x cs (w.alloc (.cells cs.toArray 26)) (hE.ext ((Ext.refl w).alloc _)) (hx.ext ((Ext.refl w).alloc _)) hs.path (fun e he => (hs.ep e he).1)
  rw [hT] at H
  have hk : 1 ≤ x.kind ∧ x.kind ≤ 8 := by simp [tellsB] at hT; exact ⟨hT.2.1, hT.2.2.1⟩
  obtain ⟨hk1, hk8⟩ := hk
  obtain ⟨vd, vf, ve, rfl, hd, hf, he⟩ := hx
  obtain ⟨a1, n1, rfl, -⟩ := id hd
  obtain ⟨a2, n2, rfl, g1, g2, g3, g4⟩ := hf.get
  obtain ⟨a3, n3, rfl, m1, m2, m3, m4⟩ := he.get
  have HH : Hid _ := H
  have G4 : Hid _ := g4
  have M4 : Hid _ := m4
  have HD : Hid _ := hd
  have HE : Hid _ := hE
  have HS : Hid _ := hs
  obtain ⟨kk, hkk⟩ : ∃ kk : Nat, (x.kind - 1).toNat = kk := ⟨_, rfl⟩
  obtain ⟨wd, hwd⟩ : ∃ wd, wordsL.getD kk [] = wd := ⟨_, rfl⟩
  have hwr : IntKind.i64.wrap (x.kind - 1) = ((kk : Nat) : Int) := by rw [IntWalk.i64_in _ (by omega)]; omega
  have HW : Hid _ := hwr
  have HD2 : Hid _ := hwd
  have HL : Hid (lineL x = [wd, Lib.itoa x.a, Lib.itoa x.b, Lib.itoa x.n] ++ [orL x.path, orL (hexL x.data), orL (Lib.join (x.fates.map Lib.itoa) [44]), orL (Lib.join (x.events.map evS) [44])]) := by
    show lineL x = _
    unfold lineL
    rw [hkk, hwd]
  have hk7 : kk < 8 := by omega
  clear hkk hwd
  have hnf := hs.nf
  have hne := hs.ne
  clear H hE hs hd hf he g4 m4 hwr hT
  go_enter Tryd.func11, Tryd.ntmps11
  go_wp2_with (go_at_call 29; go_must (refine Calls.mono HH.out ?_; rintro e w2 ⟨rfl, hx2⟩))
  have hx02 : Ext w w2 := ((Ext.refl _).alloc _).trans hx2
  have c0 : w2.cell? ⟨w.heap.size, 0, none⟩ = some (.int .i64 x.kind) := hx2.cell (by simp)
  have c1 : w2.cell? ⟨w.heap.size, 1, none⟩ = some (.int .i64 x.a) := hx2.cell (by simp)
  have c2 : w2.cell? ⟨w.heap.size, 2, none⟩ = some (.int .i64 x.b) := hx2.cell (by simp)
  have c3 : w2.cell? ⟨w.heap.size, 3, none⟩ = some (.int .i64 x.n) := hx2.cell (by simp)
  have c4 : w2.cell? ⟨w.heap.size, 4, none⟩ = some (S8 x.path) := hx2.cell (by simp)
  have c5 : w2.cell? ⟨w.heap.size, 5, none⟩ = some (.slice a1 x.data.length n1) := hx2.cell (by simp)
  have c6 : w2.cell? ⟨w.heap.size, 6, none⟩ = some (.slice a2 x.fates.length n2) := hx2.cell (by simp)
  have c7 : w2.cell? ⟨w.heap.size, 7, none⟩ = some (.slice a3 x.events.length n3) := hx2.cell (by simp)
  clear hx2 HH
  go_wp2
  apply wp_region_mix 16 [undef, _, _, .int .i64 (kk : Int), undef, S8 wd, _, _, S8 (Lib.itoa x.a), _, _, S8 (Lib.itoa x.b), _, _, S8 (Lib.itoa x.n), undef] [some (fun u w' => IsStrs w' u wordsL), none, none, none, some (fun u w' => ∃ p, u = .pointer (some p) ∧ w'.cell? p = some (S8 wd)), none, none, none, none, none, none, none, none, none, none, some (fun u w' => ∃ g, u = .slice (some ⟨g, 0, none⟩) 4 4 ∧ w2.heap.size ≤ g ∧ w'.heap[g]? = some (.cells #[S8 wd, S8 (Lib.itoa x.a), S8 (Lib.itoa x.b), S8 (Lib.itoa x.n)] 9 (0, 0)))] [[], [], [1], [2], [0, 3], [4], [], [6], [7], [], [9], [10], [], [12], [13], [5, 8, 11, 14]] (by kernel_rfl) (by kernel_rfl) (by simp [mixV])
  · refine ⟨?_, ?_, ?_, trivial⟩
    · exact fun _ _ _ he hu => hu.ext he
    · exact fun _ _ _ he ⟨p, h1, h2⟩ => ⟨p, h1, he.cell h2⟩
    · exact fun u w w' he ⟨g, h1, h2, h3⟩ => ⟨g, h1, h2, (he.block g (Array.getElem?_eq_some_iff.1 h3).1).trans h3⟩
  · simp (maxSteps := 1000000) only [List.take_succ_cons, List.take_zero, oblFrom, stepObl, fillFrom, Act.put, List.setIfInBounds_toArray, List.set_cons_zero, List.set_cons_succ, knows, getV, mixV, List.getD_cons_zero, List.getD_cons_succ, and_true, true_and, forall_const]
    refine ⟨?_, ?_, ?_, ?_, ?_, ?_, ?_, ?_, ?_, ?_, ?_, ?_, ?_, ?_, ?_, ?_⟩
    · intro xs wq hq R hR
      go_simp
      exact (words_any _).mono (by rintro e' w3 ⟨⟨v, rfl, hv⟩, hx3⟩; exact ⟨_, rfl, hR _ _ hx3 hv⟩)
    · intro xs wq hq R hR
      have f0 := hq.cell c0; have f1 := hq.cell c1; have f2 := hq.cell c2; have f3 := hq.cell c3
      go_simp
      exact hR _ _ (Ext.refl _) rfl
    · intro xs wq hq hk R hR
      have f0 := hq.cell c0; have f1 := hq.cell c1; have f2 := hq.cell c2; have f3 := hq.cell c3
      go_simp
      exact hR _ _ (Ext.refl _) rfl
    · intro xs wq hq hk R hR
      go_simp
      rw [HW.out]
      exact hR _ _ (Ext.refl _) rfl
    · intro xs wq hq hk R hR
      obtain ⟨hk0, hk1⟩ := hk
      obtain ⟨a, cap, hv0, k0, k1, k2, h6⟩ := hk0.get
      obtain ⟨b, o, rfl, hc⟩ := h6 kk hk7
      have hc1 := hc kk hk7
      rw [HD2.out] at hc1
      have hl8 : wordsL.length = 8 := rfl
      clear h6 hc hk0
      go_simp
      rw [if_pos (by omega)]
      exact hR _ _ (Ext.refl _) ⟨_, rfl, hc1⟩
    · intro xs wq hq hk R hR
      obtain ⟨p, hp1, hp2⟩ := hk
      go_simp
      exact hR _ _ (Ext.refl _) rfl
    · intro xs wq hq R hR
      have f0 := hq.cell c0; have f1 := hq.cell c1; have f2 := hq.cell c2; have f3 := hq.cell c3
      go_simp
      exact hR _ _ (Ext.refl _) rfl
    · intro xs wq hq hk R hR
      have f0 := hq.cell c0; have f1 := hq.cell c1; have f2 := hq.cell c2; have f3 := hq.cell c3
      go_simp
      exact hR _ _ (Ext.refl _) rfl
    · intro xs wq hq hk R hR
      go_simp
      exact (itoa_any _ _ (HE.out.ext (hx02.trans hq)) HS.out.ok.2.1.1 HS.out.ok.2.1.2).mono (by rintro e' w3 ⟨rfl, h2⟩; exact ⟨_, rfl, hR _ _ h2 rfl⟩)
    · intro xs wq hq R hR
      have f0 := hq.cell c0; have f1 := hq.cell c1; have f2 := hq.cell c2; have f3 := hq.cell c3
      go_simp
      exact hR _ _ (Ext.refl _) rfl
    · intro xs wq hq hk R hR
      have f0 := hq.cell c0; have f1 := hq.cell c1; have f2 := hq.cell c2; have f3 := hq.cell c3
      go_simp
      exact hR _ _ (Ext.refl _) rfl
    · intro xs wq hq hk R hR
      go_simp
      exact (itoa_any _ _ (HE.out.ext (hx02.trans hq)) HS.out.ok.2.2.1.1 HS.out.ok.2.2.1.2).mono (by rintro e' w3 ⟨rfl, h2⟩; exact ⟨_, rfl, hR _ _ h2 rfl⟩)
    · intro xs wq hq R hR
      have f0 := hq.cell c0; have f1 := hq.cell c1; have f2 := hq.cell c2; have f3 := hq.cell c3
      go_simp
      exact hR _ _ (Ext.refl _) rfl
    · intro xs wq hq hk R hR
      have f0 := hq.cell c0; have f1 := hq.cell c1; have f2 := hq.cell c2; have f3 := hq.cell c3
      go_simp
      exact hR _ _ (Ext.refl _) rfl
    · intro xs wq hq hk R hR
      go_simp
      exact (itoa_any _ _ (HE.out.ext (hx02.trans hq)) HS.out.ok.2.2.2.1.1 HS.out.ok.2.2.2.1.2).mono (by rintro e' w3 ⟨rfl, h2⟩; exact ⟨_, rfl, hR _ _ h2 rfl⟩)
    · intro xs wq hq hk R hR
      obtain ⟨hk0, hk1, hk2, hk3⟩ := hk
      go_simp
      exact hR _ _ ((Ext.refl _).alloc _) ⟨_, rfl, hq.size, alloc_at _ _⟩
  intro xs w3 hx3 hk
  simp only [heldV, Nat.zero_add, Nat.reduceAdd, and_true] at hk
  obtain ⟨q0, q1, q2, q3, q4, q5, q6, q7, q8, q9, q10, q11, q12, q13, q14, q15⟩ := hk
  simp (maxSteps := 1000000) only [List.take_succ_cons, List.take_zero, List.drop_succ_cons, List.drop_zero, fillFrom, Act.put, List.setIfInBounds_toArray, List.set_cons_zero, List.set_cons_succ, Nat.zero_add, Nat.reduceAdd, q1, q2, q3, q5, q6, q7, q8, q9, q10, q11, q12, q13, q14]
  clear q1 q2 q3 q5 q6 q7 q8 q9 q10 q11 q12 q13 q14
  generalize xs 0 = x0 at *
  generalize xs 4 = x4 at *
  generalize xs 15 = x15 at *
  obtain ⟨g, rfl, hg1, hg2⟩ := q15
  have hx03 := hx02.trans hx3
  have hown3 := owns_block (base := w.heap.size) (n := 4) hg2 (Nat.le_trans hx02.size hg1) rfl (by omega)
  have d4 := hx3.cell c4
  have d5 := hx3.cell c5
  have d6 := hx3.cell c6
  have d7 := hx3.cell c7
  clear q0 q4 c0 c1 c2 c3 c4 c5 c6 c7 hg1 hg2
  go_wp2
  go_loopw [4, 32] (fun v i wr => ∃ k : Nat, k ≤ x.fates.length ∧ i = .int .i64 k ∧ wr.ownsRow w3.heap.size 9 1 v k (((x.fates.take k).map Lib.itoa).map S8) ∧ Ext w3 wr) (fun _ i _ => x.fates.length - (intOf i).toNat)
  case atStart => exact ⟨0, Nat.zero_le _, rfl, World.ownsRow_nil _ _ _ _, Ext.refl _⟩
  case round =>
    obtain ⟨k, hk, rfl, hown, hx⟩ := hrel
    by_cases hlt : k < x.fates.length
    · obtain ⟨f, hfe⟩ : ∃ f, x.fates[k]? = some f := ⟨_, List.getElem?_eq_getElem hlt⟩
      obtain ⟨b, o, rfl, hc⟩ := G4.out k hlt
      have hck := (hx03.trans hx).cell (hc k hlt)
      rw [List.getD_eq_getElem?_getD, hfe, Option.getD_some] at hck
      have hfo := HS.out.ok.2.2.2.2.1 f (List.mem_of_getElem? hfe)
      have HF : Hid _ := hfe
      have HFo : Hid _ := hfo
      clear hfe hc hfo
      go_wp2_with (first | (go_at_call 30; go_must (refine (itoa_any f _ (HE.out.ext (hx03.trans hx)) HFo.out.1 HFo.out.2).mono ?_; rintro e' w4 ⟨rfl, hx4⟩; have hown4 := owns_ext hown hx4; have hsz := (hx.trans hx4).size)) | (at_builtin; go_must (refine app_str rfl _ _ rfl w3.heap.size _ k _ rfl (hown4.alloc _) w4.heap.size 1 1 [Lib.itoa f] rfl rfl (alloc_at _ _) (by omega) (by simp; omega) ?_; intro v' w5 hown5 hg5)))
      go_roundw
      case rel => exact ⟨k + 1, by omega, by go_num, by rw [List.take_add_one, HF.out, Option.toList_some, List.map_append]; exact hown5, owns_ext_app ((hx.trans hx4).alloc _) (hown4.alloc _) hg5⟩
      case measure => simp [intOf]; omega
    · have hkk : k = x.fates.length := by omega
      subst hkk
      rw [List.take_length] at hown
      have e7 := hx.cell d7
      have e4 := hx.cell d4
      have e5 := hx.cell d5
      have hown0 := owns_ext hown3 hx
      have hx0 := hx03.trans hx
      have hfl : ((x.fates.map Lib.itoa).map S8).length = x.fates.length := by simp
      have HF : Hid (IsStrs wr u4 (x.fates.map Lib.itoa)) := by
        show Row _ _ _ _
        rw [List.length_map]
        exact Row.of_owns hown (by omega)
      clear d4 d5 d6 d7 hown hown3 hfl
      obtain ⟨wb, rfl⟩ : ∃ wb : World, wb = wr := ⟨_, rfl⟩
      go_wp2_with fail
      go_loopw [5, 45] (fun v i wr => ∃ k : Nat, k ≤ x.events.length ∧ i = .int .i64 k ∧ wr.ownsRow wb.heap.size 9 1 v k (((x.events.take k).map evS).map S8) ∧ Ext wb wr) (fun _ i _ => x.events.length - (intOf i).toNat)
      case atStart => exact ⟨0, Nat.zero_le _, rfl, World.ownsRow_nil _ _ _ _, Ext.refl _⟩
      case round =>
        obtain ⟨k, hk, rfl, hown, hxr⟩ := hrel
        by_cases hlt : k < x.events.length
        · obtain ⟨e, hee⟩ : ∃ e, x.events[k]? = some e := ⟨_, List.getElem?_eq_getElem hlt⟩
          obtain ⟨b, o, vd', rfl, hb, y0, y1, y2, y3, y4, y5, y6⟩ := M4.out k e hee
          have HEE : Hid _ := hee
          have HEO : Hid _ := HS.out.ok.2.2.2.2.2 e (List.mem_of_getElem? hee)
          have hep := HS.out.ep e (List.mem_of_getElem? hee)
          have hxx := hx0.trans hxr
          have f0 := hxx.cell y0
          have f1 := hxx.cell y1
          have f2 := hxx.cell y2
          have f3 := hxx.cell y3
          have f4 := hxx.cell y4
          have f5 := hxx.cell y5
          have f6 := hxx.cell y6
          have HB : Hid _ := hb.ext hxx
          obtain ⟨va, vc, rfl, -⟩ := hb
          clear hee y0 y1 y2 y3 y4 y5 y6
          go_wp2_with (first | (go_at_call 31; go_must (refine (event_any e [.int .i64 e.t, .int .i64 e.kind, .int .i64 e.mode, .int .i64 e.keep, .int .i64 e.torn, S8 e.path, .slice va e.data.length vc] _ (HE.out.ext (hxx.trans ((Ext.refl _).alloc _))) ⟨_, rfl, IsBytes.ext HB.out ((Ext.refl _).alloc _)⟩ HEO.out hep.1 hep.2).mono ?_; rintro e' w4 ⟨rfl, hx4⟩; have hown4 := owns_ext (hown.alloc _) hx4; have hx5 := (hxr.alloc _).trans hx4; have hsz := hx5.size)) | (at_builtin; go_must (refine app_str rfl _ _ rfl wb.heap.size _ k _ rfl (hown4.alloc _) w4.heap.size 1 1 [evS e] rfl rfl (alloc_at _ _) (by omega) (by simp; omega) ?_; intro v' w5 hown5 hg5)))
          go_roundw
          case rel => exact ⟨k + 1, by omega, by go_num, by rw [List.take_add_one, HEE.out, Option.toList_some, List.map_append]; exact hown5, owns_ext_app (hx5.alloc _) (hown4.alloc _) hg5⟩
          case measure => simp [intOf]; omega
        · have hkk : k = x.events.length := by omega
          subst hkk
          rw [List.take_length] at hown
          have e4 := hxr.cell e4
          have e5 := hxr.cell e5
          have hown0 := owns_ext hown0 hxr
          have hx0 := hx0.trans hxr
          have HF : Hid (IsStrs wr u4 (x.fates.map Lib.itoa)) := IsStrs.ext HF.out hxr
          have HV : Hid (IsStrs wr u5 (x.events.map evS)) := by
            show Row _ _ _ _
            rw [List.length_map]
            exact Row.of_owns hown (by omega)
          clear hown
          go_wp2
          apply wp_region_mix 15 [_, _, _, S8 (orL x.path), _, _, S8 (hexL x.data), S8 (orL (hexL x.data)), _, S8 (Lib.join (x.fates.map Lib.itoa) [44]), S8 (orL (Lib.join (x.fates.map Lib.itoa) [44])), _, S8 (Lib.join (x.events.map evS) [44]), S8 (orL (Lib.join (x.events.map evS) [44])), undef] [none, none, none, none, none, none, none, none, none, none, none, none, none, none, some (fun u w' => ∃ g, u = .slice (some ⟨g, 0, none⟩) 4 4 ∧ w'.heap[g]? = some (.cells #[S8 (orL x.path), S8 (orL (hexL x.data)), S8 (orL (Lib.join (x.fates.map Lib.itoa) [44])), S8 (orL (Lib.join (x.events.map evS) [44]))] 9 (0, 0)))] [[], [], [1], [2], [], [4], [5], [6], [], [8], [9], [], [11], [12], [3, 7, 10, 13]] (by kernel_rfl) (by kernel_rfl) (by simp [mixV])
          · refine ⟨?_, trivial⟩
            · exact fun u w w' he ⟨g, h1, h3⟩ => ⟨g, h1, (he.block g (Array.getElem?_eq_some_iff.1 h3).1).trans h3⟩
          · simp (maxSteps := 1000000) only [List.take_succ_cons, List.take_zero, oblFrom, stepObl, fillFrom, Act.put, List.setIfInBounds_toArray, List.set_cons_zero, List.set_cons_succ, knows, getV, mixV, List.getD_cons_zero, List.getD_cons_succ, and_true, true_and, forall_const]
            refine ⟨?_, ?_, ?_, ?_, ?_, ?_, ?_, ?_, ?_, ?_, ?_, ?_, ?_, ?_, ?_⟩
            · intro xs wq hq R hR
              have f4 := hq.cell e4; have f5 := hq.cell e5
              go_simp
              exact hR _ _ (Ext.refl _) rfl
            · intro xs wq hq R hR
              have f4 := hq.cell e4; have f5 := hq.cell e5
              go_simp
              exact hR _ _ (Ext.refl _) rfl
            · intro xs wq hq hk R hR
              have f4 := hq.cell e4; have f5 := hq.cell e5
              go_simp
              exact hR _ _ (Ext.refl _) rfl
            · intro xs wq hq hk R hR
              go_simp
              exact (or_any _ _).mono (by rintro e' w4 ⟨rfl, rfl⟩; exact ⟨_, rfl, hR _ _ (Ext.refl _) rfl⟩)
            · intro xs wq hq R hR
              have f4 := hq.cell e4; have f5 := hq.cell e5
              go_simp
              exact hR _ _ (Ext.refl _) rfl
            · intro xs wq hq hk R hR
              have f4 := hq.cell e4; have f5 := hq.cell e5
              go_simp
              exact hR _ _ (Ext.refl _) rfl
            · intro xs wq hq hk R hR
              go_simp
              exact (digits_any _ _ _ (IsBytes.ext HD.out (hx0.trans hq)) HS.out.data).mono (by rintro e' w4 ⟨rfl, h2⟩; exact ⟨_, rfl, hR _ _ h2 rfl⟩)
            · intro xs wq hq hk R hR
              go_simp
              exact (or_any _ _).mono (by rintro e' w4 ⟨rfl, rfl⟩; exact ⟨_, rfl, hR _ _ (Ext.refl _) rfl⟩)
            · intro xs wq hq R hR
              have f4 := hq.cell e4; have f5 := hq.cell e5
              go_simp
              exact hR _ _ (Ext.refl _) rfl
            · intro xs wq hq hk R hR
              go_simp
              exact (join_any _ _ [44] _ (IsStrs.ext HF.out hq) (Nat.le_trans (fates_len HS.out) (by decide))).mono (by rintro e' w4 ⟨rfl, h2⟩; exact ⟨_, rfl, hR _ _ h2 rfl⟩)
            · intro xs wq hq hk R hR
              go_simp
              exact (or_any _ _).mono (by rintro e' w4 ⟨rfl, rfl⟩; exact ⟨_, rfl, hR _ _ (Ext.refl _) rfl⟩)
            · intro xs wq hq R hR
              have f4 := hq.cell e4; have f5 := hq.cell e5
              go_simp
              exact hR _ _ (Ext.refl _) rfl
            · intro xs wq hq hk R hR
              go_simp
              exact (join_any _ _ [44] _ (IsStrs.ext HV.out hq) (Nat.le_trans (events_len HS.out) (by decide))).mono (by rintro e' w4 ⟨rfl, h2⟩; exact ⟨_, rfl, hR _ _ h2 rfl⟩)
            · intro xs wq hq hk R hR
              go_simp
              exact (or_any _ _).mono (by rintro e' w4 ⟨rfl, rfl⟩; exact ⟨_, rfl, hR _ _ (Ext.refl _) rfl⟩)
            · intro xs wq hq hk R hR
              obtain ⟨hk0, hk1, hk2, hk3⟩ := hk
              go_simp
              exact hR _ _ ((Ext.refl _).alloc _) ⟨_, rfl, alloc_at _ _⟩
          intro xs wz hz hk
          simp only [heldV, Nat.zero_add, Nat.reduceAdd, and_true] at hk
          obtain ⟨q0, q1, q2, q3, q4, q5, q6, q7, q8, q9, q10, q11, q12, q13, q14⟩ := hk
          simp (maxSteps := 1000000) only [List.take_succ_cons, List.take_zero, List.drop_succ_cons, List.drop_zero, fillFrom, Act.put, List.setIfInBounds_toArray, List.set_cons_zero, List.set_cons_succ, Nat.zero_add, Nat.reduceAdd, q0, q1, q2, q3, q4, q5, q6, q7, q8, q9, q10, q11, q12, q13]
          clear q0 q1 q2 q3 q4 q5 q6 q7 q8 q9 q10 q11 q12 q13
          generalize xs 14 = x14 at *
          obtain ⟨gg, rfl, hgg⟩ := q14
          have hown2 : wz.ownsRow w.heap.size 9 1 (.slice (some ⟨g, 0, none⟩) 4 4) 4 ([wd, Lib.itoa x.a, Lib.itoa x.b, Lib.itoa x.n].map S8) := owns_ext hown0 hz
          have hxz := hx0.trans hz
          have hsz := hxz.size
          go_wp2_with (first | (at_builtin; go_must (refine app_str rfl _ _ rfl w.heap.size _ 4 _ rfl hown2 gg 4 4 [orL x.path, orL (hexL x.data), orL (Lib.join (x.fates.map Lib.itoa) [44]), orL (Lib.join (x.events.map evS) [44])] rfl rfl hgg (by omega) hsz ?_; intro v' w5 hown5 hg5; have hx5 := owns_ext_app hxz hown2 hg5)) | (go_at_call 32; go_must (refine (join_any _ (lineL x) [32] _ (by rw [HL.out]; exact Row.of_owns (n := 8) hown5 (by decide)) (line_len HS.out)).mono ?_; rintro e' w6 ⟨rfl, hx6⟩)))
          go_ret
          exact ⟨rfl, hx5.trans hx6⟩

end Go.Proofs.YthfkohppillflaaDoor
