/- marlaw5.FewEvents, marlaw26.few: are events, is an act, few and small? Conditions: what is read lies as the theorems state. -/
import Derived.Test.YthfkohppillflaaDoorAct
namespace Go.Proofs.YthfkohppillflaaDoor
open Go Go.RowKit

def evW (n : Nat) (e : Ev) : Nat := min (n + min e.data.length 40000 + min e.path.length 1000) 160000
def fewEv (es : List Ev) : Bool := decide (es.length ≤ 60) && (es.all (fun e => decide (e.path.length ≤ 400)) && decide (es.foldl evW 0 ≤ 40000))
def fewAc (x : Ac) : Bool := decide (x.path.length ≤ 400) && (decide (x.data.length ≤ 3000) && (decide (x.fates.length ≤ 200) && fewEv x.events))

theorem evW_snoc {l : List Ev} {k : Nat} {e : Ev} (h : l[k]? = some e) : (l.take (k + 1)).foldl evW 0 = evW ((l.take k).foldl evW 0) e := by
  have hk := (List.getElem?_eq_some_iff.1 h)
  obtain ⟨hlt, rfl⟩ := hk
  rw [List.take_succ_eq_append_getElem hlt, List.foldl_append]
  rfl
theorem few_snoc {l : List Ev} {k : Nat} {e : Ev} (h : l[k]? = some e) (h0 : (l.take k).all (fun e => decide (e.path.length ≤ 400)) = true) (h1 : e.path.length ≤ 400) : (l.take (k + 1)).all (fun e => decide (e.path.length ≤ 400)) = true := by
  obtain ⟨hlt, rfl⟩ := (List.getElem?_eq_some_iff.1 h)
  rw [List.take_succ_eq_append_getElem hlt]
  simp only [List.all_append, h0, List.all_cons, List.all_nil, Bool.and_true, Bool.true_and, decide_eq_true_eq]
  exact h1
theorem few_no {l : List Ev} {k : Nat} {e : Ev} (h : l[k]? = some e) (h1 : ¬ e.path.length ≤ 400) : fewEv l = false := by
  have : l.all (fun e => decide (e.path.length ≤ 400)) = false := by
    rw [List.all_eq_false]
    exact ⟨e, List.mem_of_getElem? h, by simpa using h1⟩
  unfold fewEv
  rw [this]
  simp

set_option maxRecDepth 100000 in
set_option maxHeartbeats 1000000 in
theorem fewEvents_any (v : Value) (l : List Ev) (w : World) (hv : IsEvs w v l) :
    Calls Tryd.prog 19 #[v] w fun e w' => e = .returned (.bool (fewEv l)) ∧ Ext w w' := by
  obtain ⟨a, cap, rfl, h1, h2, h3, h4⟩ := hv.get
  have H4 : Hid _ := h4
  clear h4 hv
  go_enter Tryd.func19, Tryd.ntmps19
  go_wp2
  go_loopw [3, 4] (fun n i wr => ∃ k m : Nat, Ext w wr ∧ k ≤ l.length ∧ k ≤ 60 ∧ i = .int .i64 k ∧ n = .int .i64 m ∧ m ≤ 160000 ∧ (l.take k).foldl evW 0 = m ∧ (l.take k).all (fun e => decide (e.path.length ≤ 400)) = true) (fun _ i _ => l.length - (intOf i).toNat)
  case atStart => exact ⟨0, 0, Ext.refl _, Nat.zero_le _, by omega, rfl, rfl, by omega, rfl, rfl⟩
  case round =>
    obtain ⟨k, m, hx, hk, hk6, rfl, rfl, hm, hfd, hal⟩ := hrel
    have HX : Hid _ := hx
    have HF : Hid _ := hfd
    have HA : Hid _ := hal
    clear hfd hal
    by_cases hlt : k < l.length
    · by_cases h60 : k < 60
      · have he : l[k]? = some l[k] := List.getElem?_eq_getElem hlt
        obtain ⟨b, o, vd, rfl, hd, c0, c1, c2, c3, c4, c5, c6⟩ := H4.out k _ he
        generalize l[k] = E at *
        replace c5 := hx.cell c5
        replace c6 := hx.cell c6
        have HE : Hid _ := he
        obtain ⟨s1, s2, rfl, -⟩ := id hd
        obtain ⟨d', hd'⟩ : ∃ d', min E.data.length 40000 = d' := ⟨_, rfl⟩
        obtain ⟨p', hp'⟩ : ∃ p', min E.path.length 1000 = p' := ⟨_, rfl⟩
        obtain ⟨n', hn'⟩ : ∃ n', min (m + d' + p') 160000 = n' := ⟨_, rfl⟩
        have hmd : min (E.data.length : Int) 40000 = (d' : Int) := by omega
        have hmp : min (E.path.length : Int) 1000 = (p' : Int) := by omega
        have hmn : min ((m : Int) + d' + p') 160000 = (n' : Int) := by omega
        have hdl : d' ≤ 40000 := by omega
        have hpl : p' ≤ 1000 := by omega
        have hnl : n' ≤ 160000 := by omega
        have HN : Hid (evW m E = n') := by unfold Hid evW; rw [hd', hp', hn']
        clear c0 c1 c2 c3 c4 hd he hd' hp' hn'
        by_cases h4 : E.path.length ≤ 400
        · have h4i : ¬ (400 : Int) < (E.path.length : Int) := by omega
          have H40 : Hid _ := h4
          clear h4
          go_wp2
          go_region
          all_goals (
            go_wp2
            go_roundw
            case rel => exact ⟨k + 1, n', HX.out.drew, by omega, by omega, by go_num, rfl, hnl, by rw [evW_snoc HE.out, HF.out, HN.out], few_snoc HE.out HA.out H40.out⟩
            case measure => simp [intOf]; omega)
        · have h4i : (400 : Int) < (E.path.length : Int) := by omega
          have H40 : Hid _ := few_no HE.out h4
          clear h4
          go_wp2
          go_region
          all_goals (
            go_wp2
            go_ret
            exact ⟨by rw [H40.out]; rfl, HX.out.drew⟩)
      · have hkk : k = 60 := by omega
        subst hkk
        have hl60 : ¬ (l.length : Int) ≤ 60 := by omega
        have HB : Hid (fewEv l = false) := by
          unfold Hid fewEv
          rw [decide_eq_false (by omega)]
          rfl
        go_wp2
        go_ret
        exact ⟨by rw [HB.out]; rfl, HX.out⟩
    · have hkk : k = l.length := by omega
      subst hkk
      have hfd := HF.out
      have hal := HA.out
      rw [List.take_length] at hfd hal
      have hl60 : (l.length : Int) ≤ 60 := by omega
      have HB : Hid (fewEv l = decide ((m : Int) ≤ 40000)) := by
        unfold Hid fewEv
        rw [decide_eq_true hk6, hal, hfd]
        simp only [Bool.true_and, decide_eq_decide]
        omega
      clear hfd hal
      go_wp2
      go_ret
      exact ⟨by rw [HB.out]; rfl, HX.out⟩

set_option maxRecDepth 100000 in
set_option maxHeartbeats 1000000 in
theorem few_any (cs : List Value) (x : Ac) (w : World) (hx : IsAc w cs x) :
    Calls Tryd.prog 8 #[.agg cs.toArray] w fun e w' => e = .returned (.bool (fewAc x)) ∧ Ext w w' := by
  obtain ⟨vd, vf, ve, rfl, hd, hf, he⟩ := hx
  have HE : Hid _ := he
  obtain ⟨d1, d2, rfl, -⟩ := id hd
  obtain ⟨f1, f2, rfl, -⟩ := id hf
  obtain ⟨q1, ⟨e1, e2, rfl, -⟩, -⟩ := id he
  clear hd hf he
  have hxa : Ext w (w.alloc (.cells #[.int .i64 x.kind, .int .i64 x.a, .int .i64 x.b, .int .i64 x.n, S8 x.path, .slice d1 x.data.length d2, .slice f1 x.fates.length f2, .slice e1 x.events.length e2] 26)) := (Ext.refl _).alloc _
  have HX : Hid _ := hxa
  by_cases h1 : (x.path.length : Int) ≤ 400
  · by_cases h2 : (x.data.length : Int) ≤ 3000
    · by_cases h3 : (x.fates.length : Int) ≤ 200
      · have HB : Hid (fewAc x = fewEv x.events) := by
          unfold Hid fewAc
          rw [decide_eq_true (by omega), decide_eq_true (by omega), decide_eq_true (by omega)]
          rfl
        clear hxa
        go_enter Tryd.func8, Tryd.ntmps8
        go_wp2_with (go_at_call 19; go_must (refine (fewEvents_any _ _ _ (IsEvs.ext HE.out HX.out)).mono ?_; rintro e w3 ⟨rfl, hx3⟩))
        go_ret
        exact ⟨by rw [HB.out]; rfl, Ext.trans HX.out hx3⟩
      · have HB : Hid (fewAc x = false) := by
          unfold Hid fewAc
          rw [decide_eq_false (p := x.fates.length ≤ 200) (by omega)]
          simp
        clear hxa
        go_enter Tryd.func8, Tryd.ntmps8
        go_wp2
        go_ret
        exact ⟨by rw [HB.out]; rfl, HX.out⟩
    · have HB : Hid (fewAc x = false) := by
        unfold Hid fewAc
        rw [decide_eq_false (p := x.data.length ≤ 3000) (by omega)]
        simp
      clear hxa
      go_enter Tryd.func8, Tryd.ntmps8
      go_wp2
      go_ret
      exact ⟨by rw [HB.out]; rfl, HX.out⟩
  · have HB : Hid (fewAc x = false) := by
      unfold Hid fewAc
      rw [decide_eq_false (p := x.path.length ≤ 400) (by omega)]
      simp
    clear hxa
    go_enter Tryd.func8, Tryd.ntmps8
    go_wp2
    go_ret
    exact ⟨by rw [HB.out]; rfl, HX.out⟩

/- what it says of the lengths -/
theorem evW_ge {n : Nat} {e : Ev} (h : n ≤ 160000) : n ≤ evW n e ∧ evW n e ≤ 160000 := by unfold evW; omega
theorem fold_ge : ∀ (l : List Ev) (n : Nat), n ≤ 160000 → n ≤ l.foldl evW n
  | [], n, _ => Nat.le_refl _
  | e :: l, n, h => by
    have h1 := @evW_ge n e h
    have h2 := fold_ge l (evW n e) h1.2
    simp only [List.foldl_cons]
    omega
theorem fold_sum : ∀ (l : List Ev) (n : Nat), n ≤ 160000 → l.foldl evW n ≤ 40000 → n + (l.map fun e => min e.data.length 40000).sum ≤ 40000
  | [], n, _, h => by simpa using h
  | e :: l, n, hn, h => by
    simp only [List.foldl_cons] at h
    have h1 := @evW_ge n e hn
    have h2 := fold_ge l (evW n e) h1.2
    have h3 := fold_sum l (evW n e) h1.2 h
    have h4 : n + min e.data.length 40000 ≤ evW n e := by unfold evW at *; omega
    simp only [List.map_cons, List.sum_cons]
    omega
theorem min_sum : ∀ l : List Nat, (l.map fun d => min d 40000).sum < 40000 → l.sum = (l.map fun d => min d 40000).sum
  | [], _ => rfl
  | d :: l, h => by
    simp only [List.map_cons, List.sum_cons] at h ⊢
    have := min_sum l (by omega)
    omega
theorem max_sum {M : Nat} (hM : 40000 ≤ M) : ∀ l : List Nat, (∀ d ∈ l, d ≤ M) → (l.map fun d => min d 40000).sum ≤ 40000 → l.sum ≤ M
  | [], _, _ => Nat.zero_le _
  | d :: l, hd, h => by
    have h0 := hd d (by simp)
    simp only [List.map_cons, List.sum_cons] at h ⊢
    by_cases hz : d = 0
    · have := max_sum hM l (fun x hx => hd x (by simp [hx])) (by omega)
      omega
    · have := min_sum l (by omega)
      omega

end Go.Proofs.YthfkohppillflaaDoor
