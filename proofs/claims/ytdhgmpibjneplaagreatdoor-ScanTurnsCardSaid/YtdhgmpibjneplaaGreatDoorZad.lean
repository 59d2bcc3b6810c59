/- What holds of the files behind any operations, crashes among them: no file under another one, modes, times, the room: in plain Lean. Conditions: as each theorem states. -/
import Derived.Test.YtdhgmpibjneplaaGreatDoorZac
import Derived.Sort.OwnSorted
import Derived.Sort.KeysCollected
import Derived.Shelf.SlicesE.DeleteFunc
import Derived.Lib.SliceRun

set_option linter.unusedVariables false
set_option linter.unusedSimpArgs false

/-! fsim.FS: call: a call is counted, and its events happen. Conditions: at most 8000000 ticks, 1000 events; no block of the plan is written. -/
namespace Go.Proofs.YtdhgmpibjneplaaGreatDoor
open Go Go.RowKit

structure PlanOk (m : Fs) : Prop where
  len : m.plan.length ≤ 1000
  ev : ∀ e ∈ m.plan, I64 e.keep ∧ I64 e.torn ∧ e.path.length ≤ 400
theorem hap_plan (m : Fs) (e : Ev) : (hapM m e).plan = m.plan ∧ (hapM m e).calls = m.calls ∧ (hapM m e).room = m.room := by
  unfold hapM
  split
  · unfold crash; split <;> exact ⟨rfl, rfl, rfl⟩
  · split
    · unfold userWrite
      split
      · exact ⟨rfl, rfl, rfl⟩
      · split
        · exact ⟨rfl, rfl, rfl⟩
        · split
          · unfold putsM; split
            · exact ⟨rfl, rfl, rfl⟩
            · split <;> exact ⟨rfl, rfl, rfl⟩
          · simp only [settle]; unfold putsM; split
            · exact ⟨rfl, rfl, rfl⟩
            · split <;> exact ⟨rfl, rfl, rfl⟩
    · split
      · unfold userRemove
        split
        · exact ⟨rfl, rfl, rfl⟩
        · split
          · unfold removesM; split
            · exact ⟨rfl, rfl, rfl⟩
            · split <;> exact ⟨rfl, rfl, rfl⟩
          · simp only [settle]; unfold removesM; split
            · exact ⟨rfl, rfl, rfl⟩
            · split <;> exact ⟨rfl, rfl, rfl⟩
      · exact ⟨rfl, rfl, rfl⟩
theorem fold_filter {α β : Type} (f : β → α → β) (p : α → Bool) : ∀ (l : List α) (x : β), (∀ y e, p e = false → f y e = y) → (l.filter p).foldl f x = l.foldl f x
  | [], _, _ => rfl
  | e :: l, x, h => by
    by_cases hp : p e = true
    · rw [List.filter_cons_of_pos hp, List.foldl_cons, List.foldl_cons, fold_filter f p l _ h]
    · rw [List.filter_cons_of_neg hp, List.foldl_cons, h x e (by simpa using hp), fold_filter f p l _ h]
theorem hapE_cases (e : Ev) : hapE e = 0 ∨ hapE e = 10 ∨ hapE e = 11 := by
  unfold hapE
  split
  · exact .inr (.inl rfl)
  · split
    · exact .inr (.inr rfl)
    · exact .inl rfl
/-- What holds of a state in the midst of a call. -/
structure Mid (m : Fs) (n : Nat) (x : Fs × Bool × Bool) : Prop where
  ok : OkM x.1
  time : x.1.time ≤ m.time + n
  time0 : m.time ≤ x.1.time
  plan : x.1.plan = m.plan
  calls : x.1.calls = m.calls + 1
  room : x.1.room = m.room
theorem Mid.next {m : Fs} {n k : Nat} {x : Fs × Bool × Bool} (h : Mid m n x) (e : Ev) : Mid m (n + if e.t = (k : Int) then 1 else 0) (happen k x e) := by
  rw [happen_eq]
  by_cases ht : e.t ≠ (k : Int)
  · rw [if_pos ht, if_neg ht]
    exact h
  · rw [if_neg ht, if_pos (by simpa using ht)]
    have h1 := hap_time x.1 e
    have h2 := hap_plan x.1 e
    have := h.time
    have := h.time0
    exact ⟨ok_hap h.ok e, by simp only; omega, by simp only; omega, h2.1.trans h.plan, h2.2.1.trans h.calls, h2.2.2.trans h.room⟩
theorem Mid.fold {m : Fs} (k : Nat) : ∀ (l : List Ev) {n : Nat} {x : Fs × Bool × Bool}, Mid m n x → Mid m (n + l.length) (l.foldl (happen k) x)
  | [], n, x, h => h
  | e :: l, n, x, h => by
    have h1 := Mid.fold k l (h.next (k := k) e)
    refine ⟨h1.ok, ?_, h1.time0, h1.plan, h1.calls, h1.room⟩
    have := h1.time
    simp only [List.length_cons, List.foldl_cons]
    split at this <;> omega
def calledM (m : Fs) : Fs := { m with calls := m.calls + 1 }
theorem Mid.start {m : Fs} (h : OkM m) : Mid m 0 (calledM m, false, false) := ⟨h.same rfl rfl rfl h.lusers (Nat.le_refl _), Nat.le_refl _, Nat.le_refl _, rfl, rfl, rfl⟩
theorem call_mid {m : Fs} (h : OkM m) : ∃ x : Fs × Bool × Bool, Mid m m.plan.length x ∧ (callM m).1 = x.1 := by
  have := Mid.fold (m.calls + 1) m.plan (Mid.start h)
  rw [Nat.zero_add] at this
  exact ⟨_, this, rfl⟩

/-- An event of a plan, in its cells. -/
theorem plan_get {R : Nat → Prop} {w : World} {v : Value} {l : List Ev} (h : ReadL w 108 (IsEvR R w) v l) : ∃ a cap, v = .slice a l.length cap ∧ l.length ≤ cap ∧ l.length ≤ 140737488355328 ∧ cap ≤ 9223372036854775807 ∧
    ∀ (k : Nat) e, l[k]? = some e → ∃ b o cs, a = some ⟨b, o, none⟩ ∧ IsEvR R w cs e ∧ ∀ j u, cs[j]? = some u → w.cell? ⟨b, o + k * 7 + j, none⟩ = some u := by
  obtain ⟨css, ⟨a, cap, rfl, h1, h2, h3, h4⟩, ht, he⟩ := h
  refine ⟨a, cap, rfl, h1, h3, h2, fun k e hk => ?_⟩
  have h7 : ∀ c ∈ css, c.length = 7 := fun c hc => by
    obtain ⟨i, hi, rfl⟩ := List.mem_iff_getElem.1 hc
    have hi2 : i < l.length := by rw [← he.1]; exact hi
    exact (he.2 i css[i] l[i] (List.getElem?_eq_getElem hi) (List.getElem?_eq_getElem hi2)).length.1
  have hkl : k < css.length := by rw [he.1]; exact (List.getElem?_eq_some_iff.1 hk).1
  have hev := he.2 k _ e (List.getElem?_eq_getElem hkl) hk
  have hf := fun j u hu => flat_get 7 css k j _ u h7 (List.getElem?_eq_getElem hkl) hu
  obtain ⟨b, o, rfl, hc⟩ := h4 (by
    intro hn
    have h0 : (css[k])[0]? = some ((css[k])[0]'(by rw [hev.length.1]; omega)) := List.getElem?_eq_getElem _
    have := hf 0 _ h0
    rw [hn] at this
    simp at this)
  refine ⟨b, o, css[k], rfl, hev, fun j u hu => ?_⟩
  have := hc _ _ (hf j u hu)
  rwa [Nat.add_assoc, Nat.mul_comm k 7]

theorem add_run {w : World} {g : Nat} {c : Int} (hc : w.cell? ⟨g, 5, none⟩ = some (.int .i64 c)) (hz : w.frozen? ⟨g, 5, none⟩ = false) (h0 : 0 ≤ c) (h1 : c ≤ 1000000000) :
    (callFunc 160 #[.pointer (some ⟨g, 5, none⟩), .int .i64 1]).run Tryz.prog w = .ok (.value (.int .i64 (c + 1))) (w.setCell ⟨g, 5, none⟩ (.int .i64 (c + 1))) :=
  run_call_add (P := Tryz.prog) Tryz.func160 (by kernel_rfl) (by kernel_rfl) (by kernel_rfl) .i64 (by kernel_rfl) (y := 1) (s := c + 1) hc hz (by
    have := IntWalk.i64_in (c + 1) (by omega)
    simp [go_sem, this])
set_option maxRecDepth 100000 in
theorem add_any {w : World} {g : Nat} {c : Int} (hc : w.cell? ⟨g, 5, none⟩ = some (.int .i64 c)) (hz : w.frozen? ⟨g, 5, none⟩ = false) (h0 : 0 ≤ c) (h1 : c ≤ 1000000000) :
    Calls Tryz.prog 124 #[.pointer (some ⟨g, 5, none⟩), .int .i64 1] w fun e w' => e = .returned (.int .i64 (c + 1)) ∧ w' = w.setCell ⟨g, 5, none⟩ (.int .i64 (c + 1)) := by
  have hl := add_run hc hz h0 h1
  go_enter Tryz.func124, Tryz.ntmps124
  go_wp2
  go_ret
  exact ⟨rfl, rfl⟩

end Go.Proofs.YtdhgmpibjneplaaGreatDoor

/-! fsim.FS: call: the walk. Conditions: at most 8000000 ticks, 1000 events; no block of the plan is written. -/
namespace Go.Proofs.YtdhgmpibjneplaaGreatDoor
open Go Go.RowKit

/-- No block of the plan is written by a call. -/
def Apart (S O : Nat → Prop) (w : World) : Prop := ∀ k, S k → ¬ O k ∧ k < w.heap.size
theorem Apart.next {S O : Nat → Prop} {w w' : World} (h : Apart S O w) (hs : w.heap.size ≤ w'.heap.size) : Apart S (Nw O w w') w' := fun k hk => ⟨fun hn => by
  rcases hn with hn | hn
  · exact (h k hk).1 hn
  · have := (h k hk).2; omega, by have := (h k hk).2; omega⟩
def NoG (O : Nat → Prop) : Prop := ∀ k, O k → k ≠ 0

theorem filt_take {n c0 : Nat} {L : List Ev} {k : Nat} {e : Ev} (h : L[k]? = some e) (hc : c0 < n) : ((L.take (k + 1)).filter fun e => decide ((c0 : Int) < e.t)).length = ((L.take k).filter fun e => decide ((c0 : Int) < e.t)).length + (if (c0 : Int) < e.t then 1 else 0) := by
  rw [List.take_add_one, h, Option.toList_some, List.filter_append, List.length_append]
  congr 1
  by_cases h0 : (c0 : Int) < e.t
  · rw [if_pos h0, List.filter_cons_of_pos (by simpa using h0)]; rfl
  · rw [if_neg h0, List.filter_cons_of_neg (by simpa using h0)]; rfl

set_option maxRecDepth 100000 in
set_option maxHeartbeats 4000000 in
theorem call_any {S O R : Nat → Prop} {w : World} {p : Value} {m : Fs} (hE : Env w) (h : IsFs S O R w p m) (hok : OkM m) (hpo : PlanOk m) (ht : m.time ≤ 8000000) (hcl : m.calls ≤ 10000000) (hG : NoG O) (hA : Apart S O w) :
    Calls Tryz.prog 74 #[p] w fun e w' => e = .returned (.tuple #[.bool (callM m).2.1, .int .i64 (callM m).2.2]) ∧ FsPost S O R w p (callM m).1 w' := by
  have HH : Hid _ := h
  obtain ⟨g, gm, gd, vp, vl, vu, L, c0, rfl, hg, hO, hP, hpl, hc0, hL0⟩ := h
  obtain ⟨d0, d1, d2, d3, d4, d5, d6, d7, d8⟩ := cellsAt9 hg
  have hfz : w.frozen? ⟨g, 5, none⟩ = false := by simp [World.frozen?, hg]
  have HG : Hid _ := hg
  have HP : Hid _ := hP
  have HE : Hid _ := hE
  have HA : Hid _ := hA
  have HNG : Hid _ := hG
  have HPO : Hid _ := hpo
  have HOK : Hid _ := hok
  have HPL : Hid _ := hpl
  obtain ⟨a, cap, rfl, l1, l2, l3, hget⟩ := plan_get hP.plan
  have HGET : Hid _ := hget
  have hsl : ∀ b o, a = some ⟨b, o, none⟩ → S b := fun b o hh => hP.ol b (by rw [hh]; rfl)
  have HSL : Hid _ := hsl
  obtain ⟨w1, hw1⟩ : ∃ w1, w1 = w.setCell ⟨g, 5, none⟩ (.int .i64 ((m.calls : Int) + 1)) := ⟨_, rfl⟩
  have hg1 : w1.heap[g]? = some (.cells (fsCells m.room gm gd vp (.slice a L.length cap) (m.calls + 1) vu m.time m.down) 84 (0, 0)) := by
    rw [hw1, heap_setCell_same w g 5 _ _ _ hg]
    simp
  have hgr1 : w.grownBy w1 (some g) := by rw [hw1]; exact setCell_grown _ _ _ _
  have hf1 : FsPost S O R w (.pointer (some ⟨g, 0, none⟩)) (calledM m) w1 := by
    refine ⟨⟨g, gm, gd, vp, _, vu, L, c0, rfl, hg1, .inl hO, (hP.own hg hgr1).mono (fun k hk => .inl hk) (fun k hk => .inl hk), hpl, Nat.le_succ_of_le hc0, hL0⟩, (Fr.refl O w).step hgr1 (fun k hk => by cases hk; exact .inl hO) (by rintro k hk; cases hk; exact cells_u8 hg (by kernel_rfl))⟩
  have HW1 : Hid _ := hw1
  have HF1 : Hid _ := hf1
  obtain ⟨x0, x1, x2, x3, x4, x5, x6, x7, x8⟩ := cellsAt9 hg1
  have HPE : Hid (callM m = ((L.foldl (happen (m.calls + 1)) (calledM m, false, false)).1, (L.foldl (happen (m.calls + 1)) (calledM m, false, false)).2.1, if (L.foldl (happen (m.calls + 1)) (calledM m, false, false)).1.down then 12 else if (L.foldl (happen (m.calls + 1)) (calledM m, false, false)).2.2 then 11 else 0)) := by
    have hfe : m.plan.foldl (happen (m.calls + 1)) (calledM m, false, false) = L.foldl (happen (m.calls + 1)) (calledM m, false, false) := by
      rw [hpl, fold_filter (happen (m.calls + 1)) _ L _ (fun y e he => by
        rw [happen_eq, if_pos]
        intro h0
        simp only [decide_eq_false_iff_not] at he
        omega)]
    rw [← hfe]
    rfl
  clear hg hP hE hA hG hpo hok hpl hget hsl hw1 hf1 hg1
  go_enter Tryz.func74, Tryz.ntmps74
  go_wp2_with (go_at_call 124; go_must (refine (add_any d5 hfz (by omega) (by omega)).mono ?_; rintro e w' ⟨rfl, rfl⟩; rw [show w.setCell ⟨g, 5, none⟩ (.int .i64 ((m.calls : Int) + 1)) = w1 from HW1.out.symm]))
  go_loopw [5, 6, 18] (fun fu br i wr => ∃ (k : Nat) (x : Fs × Bool × Bool), k ≤ L.length ∧ i = .int .i64 k ∧ fu = .bool x.2.1 ∧ br = .bool x.2.2 ∧ x = (L.take k).foldl (happen (m.calls + 1)) (calledM m, false, false) ∧ FsPost S O R w (.pointer (some ⟨g, 0, none⟩)) x.1 wr ∧ Mid m ((L.take k).filter fun e => decide ((c0 : Int) < e.t)).length x) (fun _ _ i _ => L.length - (intOf i).toNat)
  case atStart => exact ⟨0, (calledM m, false, false), Nat.zero_le _, rfl, rfl, rfl, rfl, HF1.out, Mid.start HOK.out⟩
  case round =>
    obtain ⟨k, ⟨mx, fx, bx⟩, hk, rfl, rfl, rfl, hx, hf, hmid⟩ := hrel
    have HXE : Hid _ := hx
    have HF : Hid _ := hf
    have HMID : Hid _ := hmid
    clear hx hf hmid
    by_cases hlt : k < L.length
    ·
      obtain ⟨e, hke⟩ : ∃ e, L[k]? = some e := ⟨_, List.getElem?_eq_getElem hlt⟩
      obtain ⟨b, o, cs, rfl, hev, hcell⟩ := HGET.out k e hke
      have hsb := HSL.out b o rfl
      have hcr : ∀ j u, cs[j]? = some u → wr.cell? ⟨b, o + k * 7 + j, none⟩ = some u := fun j u hu => by
        have hcu := hcell j u hu
        rw [World.cell?_of_block (w := w) (w' := wr) (a := ⟨b, o + k * 7 + j, none⟩) (HF.out.fr.block b (World.block_lt_of_cell? _ _ hcu) (.inl (HA.out b hsb).1))]
        exact hcu
      have hevr : IsEvR (Nw R w wr) wr cs e := (hev.keepR (KeepR.of_keep HF.out.fr.keep)).mono (fun k hk => .inl hk)
      have HEV : Hid _ := hevr
      have HKE : Hid _ := hke
      obtain ⟨vd, rfl, hd, -⟩ := id hevr
      obtain ⟨q1, q2, rfl, -⟩ := id hd.bytes
      have y0 := hcr 0 _ rfl
      have y1 := hcr 1 _ rfl
      have y2 := hcr 2 _ rfl
      have y3 := hcr 3 _ rfl
      have y4 := hcr 4 _ rfl
      have y5 := hcr 5 _ rfl
      have y6 := hcr 6 _ rfl
      simp only [Nat.add_zero] at y0
      have hfil := filt_take (n := m.calls + 1) hke (show c0 < m.calls + 1 by omega)
      have HFIL : Hid _ := hfil
      have hstep : (L.take (k + 1)).foldl (happen (m.calls + 1)) (calledM m, false, false) = happen (m.calls + 1) (mx, fx, bx) e := by
        rw [List.take_add_one, hke, Option.toList_some, List.foldl_append, ← HXE.out]
        rfl
      have HST : Hid _ := hstep
      have hxa : Ext wr (wr.alloc (.cells #[.int .i64 e.t, .int .i64 e.kind, .int .i64 e.mode, .int .i64 e.keep, .int .i64 e.torn, S8 e.path, .slice q1 e.data.length q2] 108)) := (Ext.refl _).alloc _
      have HXA : Hid _ := hxa
      clear hev hcell hcr hevr hd hfil hstep hxa hke
      by_cases htn : e.t = (m.calls : Int) + 1
      · have hbe : (e.t == (m.calls : Int) + 1) = true := by simpa using htn
        have hbn : (e.t != (m.calls : Int) + 1) = false := by simpa using htn
        have HTN : Hid _ := htn
        have hm9 : e ∈ m.plan := by
          rw [HPL.out]
          exact List.mem_filter.2 ⟨List.mem_of_getElem? HKE.out, by simp only [decide_eq_true_eq]; omega⟩
        have hpe := HPO.out.ev e hm9
        have hcnt : ((L.take k).filter fun e => decide ((c0 : Int) < e.t)).length ≤ 1000 := by
          have h1 := HPO.out.len
          rw [HPL.out] at h1
          exact Nat.le_trans ((List.take_sublist k L).filter _).length_le h1
        have htm : mx.time ≤ 9000000 := by
          have h9 : mx.time ≤ m.time + _ := HMID.out.time
          omega
        have HPOST : Hid (FsPost S O R w (.pointer (some ⟨g, 0, none⟩)) mx (wr.alloc (.cells #[.int .i64 e.t, .int .i64 e.kind, .int .i64 e.mode, .int .i64 e.keep, .int .i64 e.torn, S8 e.path, .slice q1 e.data.length q2] 108))) := HF.out.ext HXA.out
        have HEVA : Hid (IsEvR (Nw R w (wr.alloc (.cells #[.int .i64 e.t, .int .i64 e.kind, .int .i64 e.mode, .int .i64 e.keep, .int .i64 e.torn, S8 e.path, .slice q1 e.data.length q2] 108))) (wr.alloc (.cells #[.int .i64 e.t, .int .i64 e.kind, .int .i64 e.mode, .int .i64 e.keep, .int .i64 e.torn, S8 e.path, .slice q1 e.data.length q2] 108)) [.int .i64 e.t, .int .i64 e.kind, .int .i64 e.mode, .int .i64 e.keep, .int .i64 e.torn, S8 e.path, .slice q1 e.data.length q2] e) := (IsEvR.keepR HEV.out (KeepR.of_keep (KeepB.of_ext HXA.out))).mono (fun k hk => hk.fst HXA.out.size)
        have HRES : Hid (happen (m.calls + 1) (mx, fx, bx) e = (hapM mx e, fx || hapE e == 10, bx || hapE e == 11)) := by
          unfold Hid
          rw [happen_eq, if_neg (by simp; omega)]
        have HMN : Hid (Mid m ((L.take (k + 1)).filter fun e => decide ((c0 : Int) < e.t)).length (happen (m.calls + 1) (mx, fx, bx) e)) := by
          have h1 := HMID.out.next (k := m.calls + 1) e
          rw [if_pos (by omega)] at h1
          rw [HFIL.out, if_pos (by omega)]
          exact h1
        have HCA : Hid _ := hapE_cases e
        obtain ⟨C, hC⟩ : ∃ C, hapE e = C := ⟨_, rfl⟩
        rw [hC] at HCA HRES
        clear htn hm9 hcnt
        have HCE : Hid _ := hC
        clear hC
        rcases HCA.out with rfl | rfl | rfl
        · go_wp2_with (go_at_call 125; go_must (refine (happens_any e [.int .i64 e.t, .int .i64 e.kind, .int .i64 e.mode, .int .i64 e.keep, .int .i64 e.torn, S8 e.path, .slice q1 e.data.length q2] (HE.out.fr HPOST.out.fr HNG.out) HPOST.out.fs HMID.out.ok htm HEVA.out hpe.1 hpe.2.1 hpe.2.2).mono ?_; rw [HCE.out]; rintro x2 w2 ⟨rfl, h2⟩; have HP2 : Hid _ := FsPost.trans HPOST.out h2; clear h2))
          go_roundw
          case rel => exact ⟨k + 1, happen (m.calls + 1) (mx, fx, bx) e, by omega, by go_num, by rw [HRES.out]; simp, by rw [HRES.out]; simp, HST.out.symm, by rw [HRES.out]; exact HP2.out, HMN.out⟩
          case measure => simp [intOf]; omega
        · go_wp2_with (go_at_call 125; go_must (refine (happens_any e [.int .i64 e.t, .int .i64 e.kind, .int .i64 e.mode, .int .i64 e.keep, .int .i64 e.torn, S8 e.path, .slice q1 e.data.length q2] (HE.out.fr HPOST.out.fr HNG.out) HPOST.out.fs HMID.out.ok htm HEVA.out hpe.1 hpe.2.1 hpe.2.2).mono ?_; rw [HCE.out]; rintro x2 w2 ⟨rfl, h2⟩; have HP2 : Hid _ := FsPost.trans HPOST.out h2; clear h2))
          go_roundw
          case rel => exact ⟨k + 1, happen (m.calls + 1) (mx, fx, bx) e, by omega, by go_num, by rw [HRES.out]; simp, by rw [HRES.out]; simp, HST.out.symm, by rw [HRES.out]; exact HP2.out, HMN.out⟩
          case measure => simp [intOf]; omega
        · go_wp2_with (go_at_call 125; go_must (refine (happens_any e [.int .i64 e.t, .int .i64 e.kind, .int .i64 e.mode, .int .i64 e.keep, .int .i64 e.torn, S8 e.path, .slice q1 e.data.length q2] (HE.out.fr HPOST.out.fr HNG.out) HPOST.out.fs HMID.out.ok htm HEVA.out hpe.1 hpe.2.1 hpe.2.2).mono ?_; rw [HCE.out]; rintro x2 w2 ⟨rfl, h2⟩; have HP2 : Hid _ := FsPost.trans HPOST.out h2; clear h2))
          go_roundw
          case rel => exact ⟨k + 1, happen (m.calls + 1) (mx, fx, bx) e, by omega, by go_num, by rw [HRES.out]; simp, by rw [HRES.out]; simp, HST.out.symm, by rw [HRES.out]; exact HP2.out, HMN.out⟩
          case measure => simp [intOf]; omega
      · have hbe : (e.t == (m.calls : Int) + 1) = false := by simpa using htn
        have hbn : (e.t != (m.calls : Int) + 1) = true := by simpa using htn
        have HTN : Hid _ := htn
        clear htn
        go_wp2
        go_roundw
        case rel =>
          refine ⟨k + 1, (mx, fx, bx), by omega, by go_num, rfl, rfl, ?_, HF.out.ext HXA.out, ?_⟩
          · rw [HST.out, happen_eq, if_pos (by have := HTN.out; simp; omega)]
          · have h1 := HMID.out
            refine ⟨h1.ok, ?_, h1.time0, h1.plan, h1.calls, h1.room⟩
            rw [HFIL.out]
            have := h1.time
            omega
        case measure => simp [intOf]; omega
    · have hkk : k = L.length := by omega
      subst hkk
      have hxe := HXE.out
      rw [List.take_length] at hxe
      rw [← hxe] at HPE
      have HPF : Hid (callM m = (mx, fx, if mx.down then 12 else if bx then 11 else 0)) := HPE.out
      have hfs : IsFs S (Nw O w wr) (Nw R w wr) wr (.pointer (some ⟨g, 0, none⟩)) mx := HF.out.fs
      have HFF : Hid (FsPost S O R w (.pointer (some ⟨g, 0, none⟩)) mx wr) := HF.out
      obtain ⟨g', gm', gd', vp', vl', vu', L', c0', hpe, hg', hO', hP', hpl', hc0'⟩ := hfs
      cases hpe
      obtain ⟨z0, z1, z2, z3, z4, z5, z6, z7, z8⟩ := cellsAt9 hg'
      obtain ⟨dn, hdn⟩ : ∃ dn, mx.down = dn := ⟨_, rfl⟩
      rw [hdn] at z8 HPF
      clear hxe hP' hg' hpl' hdn HPE
      cases dn with
      | true =>
        go_wp2
        go_ret2
        rw [HPF.out]
        exact ⟨rfl, HFF.out⟩
      | false =>
        cases bx with
        | true =>
          go_wp2
          go_ret2
          rw [HPF.out]
          exact ⟨rfl, HFF.out⟩
        | false =>
          go_wp2
          go_ret2
          rw [HPF.out]
          exact ⟨rfl, HFF.out⟩

end Go.Proofs.YtdhgmpibjneplaaGreatDoor

/-! fsim.FS: fits, Create, Write. Conditions: what holds of a file system at all times; short paths. -/
namespace Go.Proofs.YtdhgmpibjneplaaGreatDoor
open Go Go.RowKit

/-- What a call finds. -/
structure FsIn (S O R : Nat → Prop) (w : World) (p : Value) (m : Fs) : Prop where
  env : Env w
  fs : IsFs S O R w p m
  ok : OkM m
  plan : PlanOk m
  time : m.time ≤ 7000000
  calls : m.calls ≤ 9000000
  noG : NoG O
  apart : Apart S O w
  low : ∀ k, O k → k < w.heap.size
  room0 : 0 ≤ m.room
  room1 : m.room ≤ 1073741824

theorem used_bound {m : Fs} (h : OkM m) (ht : m.time ≤ 9000000) : usedF m.now ≤ 180000000000 := by
  have := used_le h.lnow (fun e he => (h.dnow e he).2)
  omega
theorem oldLen_le {m : Fs} (h : OkM m) (path : B8) : oldLen m.now path ≤ 20000 := by
  unfold oldLen
  split
  · rename_i f hf
    exact (h.dnow _ (look_mem hf)).2
  · omega

theorem look_shape {R : Nat → Prop} {w : World} {l : Files} {path : B8} {v : Value} {D : Nat} (hD : oldLen l path = D) (h1 : ∀ f, look l path = some f → ∃ sv, v = fiV f sv ∧ IsData R w sv f.data) (h2 : look l path = none → v = .agg #[.int .i64 0, .slice none 0 0, .int .i64 0]) :
    ∃ mo a c ti, v = .agg #[.int .i64 mo, .slice a D c, .int .i64 ti] := by
  unfold oldLen at hD
  cases hl : look l path with
  | some f =>
    rw [hl] at hD
    obtain ⟨sv, rfl, hd⟩ := h1 f hl
    obtain ⟨a, c, rfl, -⟩ := hd.bytes
    exact ⟨f.mode, a, c, f.time, by rw [← hD]⟩
  | none =>
    rw [hl] at hD
    subst hD
    exact ⟨0, none, 0, 0, h2 hl⟩

set_option maxRecDepth 100000 in
set_option maxHeartbeats 2000000 in
theorem fits_any {S O R : Nat → Prop} {w : World} {p : Value} {m : Fs} (path : B8) (n : Nat) (h : IsFs S O R w p m) (hok : OkM m) (ht : m.time ≤ 9000000) (hr0 : 0 ≤ m.room) (hr1 : m.room ≤ 1073741824) (hp : path.length ≤ 10000000) :
    Calls Tryz.prog 158 #[p, S8 path, .int .i64 n] w fun e w' => e = .returned (.bool (fitsM m path n)) ∧ Ext w w' := by
  have HH : Hid _ := h
  obtain ⟨g, gm, gd, vp, vl, vu, L, c0, rfl, hg, hO, hP, -, -⟩ := h
  obtain ⟨d0, d1, d2, d3, d4, d5, d6, d7, d8⟩ := cellsAt9 hg
  have HF : Hid _ := hP.now
  have hu := used_bound hok ht
  have hol := oldLen_le hok path
  obtain ⟨U, hU⟩ : ∃ U : Nat, usedF m.now = U := ⟨_, rfl⟩
  obtain ⟨D, hD⟩ : ∃ D : Nat, oldLen m.now path = D := ⟨_, rfl⟩
  have HU : Hid _ := hU
  have HD : Hid _ := hD
  rw [hU] at hu
  rw [hD] at hol
  obtain ⟨r, hr⟩ : ∃ r : Int, m.room = r := ⟨_, rfl⟩
  rw [hr] at d0 hr0 hr1
  have hfit : fitsM m path n = decide ((n : Int) ≤ r - U + D) := by unfold fitsM; rw [hU, hD, hr]
  have HFIT : Hid _ := hfit
  clear hg hP hok hU hD hr hfit d3 d4 d5 d6 d7 d8 d2
  go_enter Tryz.func158, Tryz.ntmps158
  go_wp2_with fail
  have hw1 : IntKind.i64.wrap (r - (U : Int)) = r - (U : Int) := IntWalk.i64_in _ (by omega)
  have hw2 : IntKind.i64.wrap (r - (U : Int) + (D : Int)) = r - (U : Int) + (D : Int) := IntWalk.i64_in _ (by omega)
  apply wp_region_mix 18 [_, _, _, _, _, _, .int .i64 U, .int .i64 (r - U), _, _, _, _, _, undef, undef, .int .i64 D, .int .i64 (r - U + D), .bool (decide ((n : Int) ≤ r - U + D))] [none, none, none, none, none, none, none, none, none, none, none, none, none, some (fun u _ => ∃ mo a c ti, u = .agg #[.int .i64 mo, .slice a D c, .int .i64 ti]), some (fun u _ => ∃ a c, u = .slice a D c), none, none, none] [[], [], [1], [2], [3], [], [5], [4, 6], [], [8], [9], [10], [], [11, 12], [13], [14], [7, 15], [0, 16]] (by kernel_rfl) (by kernel_rfl) (by simp [mixV])
  · refine ⟨?_, ?_, trivial⟩
    · exact fun _ _ _ _ h => h
    · exact fun _ _ _ _ h => h
  · simp (maxSteps := 1000000) only [List.take_succ_cons, List.take_zero, oblFrom, stepObl, fillFrom, Act.put, List.setIfInBounds_toArray, List.set_cons_zero, List.set_cons_succ, knows, getV, mixV, List.getD_cons_zero, List.getD_cons_succ, and_true, true_and, forall_const]
    refine ⟨?_, ?_, ?_, ?_, ?_, ?_, ?_, ?_, ?_, ?_, ?_, ?_, ?_, ?_, ?_, ?_, ?_, ?_⟩
    · intro xs wq hq R hR
      have f0 := hq.cell d0; have f1 := hq.cell d1
      go_simp
      exact hR _ _ (Ext.refl _) rfl
    · intro xs wq hq R hR
      have f0 := hq.cell d0; have f1 := hq.cell d1
      go_simp
      exact hR _ _ (Ext.refl _) rfl
    · intro xs wq hq hk R hR
      have f0 := hq.cell d0; have f1 := hq.cell d1
      go_simp
      exact hR _ _ (Ext.refl _) rfl
    · intro xs wq hq hk R hR
      have f0 := hq.cell d0; have f1 := hq.cell d1
      go_simp
      exact hR _ _ (Ext.refl _) rfl
    · intro xs wq hq hk R hR
      have f0 := hq.cell d0; have f1 := hq.cell d1
      go_simp
      exact hR _ _ (Ext.refl _) rfl
    · intro xs wq hq R hR
      have f0 := hq.cell d0; have f1 := hq.cell d1
      go_simp
      exact hR _ _ (Ext.refl _) rfl
    · intro xs wq hq hk R hR
      go_simp
      exact (used_any (IsFs.ext HH.out hq) (by have := HU.out; omega)).mono (by rw [HU.out]; rintro e' w4 ⟨rfl, h2⟩; exact ⟨_, rfl, hR _ _ h2 rfl⟩)
    · intro xs wq hq hk R hR
      obtain ⟨hk0, hk1⟩ := hk
      have f0 := hq.cell d0; have f1 := hq.cell d1
      go_simp
      exact hR _ _ (Ext.refl _) rfl
    · intro xs wq hq R hR
      have f0 := hq.cell d0; have f1 := hq.cell d1
      go_simp
      exact hR _ _ (Ext.refl _) rfl
    · intro xs wq hq hk R hR
      have f0 := hq.cell d0; have f1 := hq.cell d1
      go_simp
      exact hR _ _ (Ext.refl _) rfl
    · intro xs wq hq hk R hR
      have f0 := hq.cell d0; have f1 := hq.cell d1
      go_simp
      exact hR _ _ (Ext.refl _) rfl
    · intro xs wq hq hk R hR
      have f0 := hq.cell d0; have f1 := hq.cell d1
      go_simp
      exact hR _ _ (Ext.refl _) rfl
    · intro xs wq hq R hR
      have f0 := hq.cell d0; have f1 := hq.cell d1
      go_simp
      exact hR _ _ (Ext.refl _) rfl
    · intro xs wq hq hk R hR
      obtain ⟨hk0, hk1⟩ := hk
      obtain ⟨v, -, hrun, hv1, hv2⟩ := (IsFiles.ext HF.out hq).look_run path hp
      have hz := look_shape HD.out hv1 hv2
      go_simp
      exact hR _ _ (Ext.refl _) hz
    · intro xs wq hq hk R hR
      obtain ⟨mo, a, c, ti, hk⟩ := hk
      go_simp
      exact hR _ _ (Ext.refl _) ⟨_, _, rfl⟩
    · intro xs wq hq hk R hR
      obtain ⟨a, c, hk⟩ := hk
      go_simp
      exact hR _ _ (Ext.refl _) rfl
    · intro xs wq hq hk R hR
      obtain ⟨hk0, hk1⟩ := hk
      have f0 := hq.cell d0; have f1 := hq.cell d1
      go_simp
      exact hR _ _ (Ext.refl _) rfl
    · intro xs wq hq hk R hR
      obtain ⟨hk0, hk1⟩ := hk
      have f0 := hq.cell d0; have f1 := hq.cell d1
      go_simp
      exact hR _ _ (Ext.refl _) rfl
  intro xs w2 hx2 hk
  simp only [heldV, Nat.zero_add, Nat.reduceAdd, and_true] at hk
  have q0 := hk.1
  replace hk := hk.2
  have q1 := hk.1
  replace hk := hk.2
  have q2 := hk.1
  replace hk := hk.2
  have q3 := hk.1
  replace hk := hk.2
  have q4 := hk.1
  replace hk := hk.2
  have q5 := hk.1
  replace hk := hk.2
  have q6 := hk.1
  replace hk := hk.2
  have q7 := hk.1
  replace hk := hk.2
  have q8 := hk.1
  replace hk := hk.2
  have q9 := hk.1
  replace hk := hk.2
  have q10 := hk.1
  replace hk := hk.2
  have q11 := hk.1
  replace hk := hk.2
  have q12 := hk.1
  replace hk := hk.2
  have q13 := hk.1
  replace hk := hk.2
  have q14 := hk.1
  replace hk := hk.2
  have q15 := hk.1
  replace hk := hk.2
  have q16 := hk.1
  replace hk := hk.2
  have q17 := hk
  clear hk
  simp (maxSteps := 1000000) only [List.take_succ_cons, List.take_zero, List.drop_succ_cons, List.drop_zero, fillFrom, Act.put, List.setIfInBounds_toArray, List.set_cons_zero, List.set_cons_succ, Nat.zero_add, Nat.reduceAdd, q0, q1, q2, q3, q4, q5, q6, q7, q8, q9, q10, q11, q12, q15, q16, q17]
  clear q0 q1 q2 q3 q4 q5 q6 q7 q8 q9 q10 q11 q12 q15 q16 q17
  generalize xs 13 = x13 at *
  generalize xs 14 = x14 at *
  go_wp2
  go_ret
  rw [HFIT.out]
  exact ⟨rfl, hx2⟩

end Go.Proofs.YtdhgmpibjneplaaGreatDoor

/-! What each call on a file system does, in plain Lean; what holds behind it. Conditions: as each theorem states. -/
namespace Go.Proofs.YtdhgmpibjneplaaGreatDoor
open Go Go.RowKit

def putM (r : Fs × Bool × Int) (path : B8) (mode : Int) (data : B8) (only : Bool) : Fs × Int :=
  if r.2.2 ≠ 0 then (r.1, r.2.2) else if wrongE path mode data ≠ 0 then (r.1, wrongE path mode data)
  else if only = true ∧ (look r.1.now path).isSome then (r.1, 8) else putsM r.1 path mode data (!r.2.1 && fitsM r.1 path data.length)
def createM (m : Fs) (path : B8) (mode : Int) (data : B8) : Fs × Int := putM (callM m) path mode data true
def writeM (m : Fs) (path : B8) (mode : Int) (data : B8) : Fs × Int := putM (callM m) path mode data false
def mvM (r : Fs × Bool × Int) (src dst : B8) (fresh : Bool) : Fs × Int :=
  if r.2.2 ≠ 0 then (r.1, r.2.2) else if pathB src = false ∨ pathB dst = false then (r.1, 6)
  else if (look r.1.now src).isNone then (r.1, 7) else if (look r.1.now dst).isSome ∧ fresh = true then (r.1, 8)
  else if src = dst then (r.1, 0) else if (look r.1.now dst).isNone ∧ mayF r.1.now dst src = false then (r.1, 9) else (does r.1 (.mv src dst), 0)
def moveM (m : Fs) (src dst : B8) (fresh : Bool) : Fs × Int := mvM (callM m) src dst fresh
def removeM (m : Fs) (path : B8) : Fs × Int := if (callM m).2.2 ≠ 0 then ((callM m).1, (callM m).2.2) else removesM (callM m).1 path
def syncM (m : Fs) : Fs × Int := if (callM m).2.2 = 0 then (settle (callM m).1, 0) else ((callM m).1, (callM m).2.2)
def zeroFi : Fi := ⟨0, [], 0⟩
def readM (m : Fs) (path : B8) : Fs × Fi × Int :=
  if (callM m).2.2 ≠ 0 then ((callM m).1, zeroFi, (callM m).2.2) else if pathB path = false then ((callM m).1, zeroFi, 6)
  else match look (callM m).1.now path with
    | some f => ((callM m).1, f, 0)
    | none => ((callM m).1, zeroFi, 7)
def pathsL (l : Files) : List B8 := l.map (·.1)
def listM (m : Fs) (dir : B8) : Fs × List B8 × Int :=
  if (callM m).2.2 ≠ 0 then ((callM m).1, [], (callM m).2.2) else if dir = [] then ((callM m).1, pathsL (callM m).1.now, 0)
  else if pathB dir = false then ((callM m).1, [], 6) else ((callM m).1, (pathsL (callM m).1.now).filter (isUnder dir), 0)
def peekM (m : Fs) (path : B8) : Fi × Bool := match look m.now path with
  | some f => (f, true)
  | none => (zeroFi, false)

/-- What a call leaves, in numbers. -/
structure Left (m m' : Fs) (n : Nat) : Prop where
  ok : OkM m'
  time : m'.time ≤ m.time + n
  time0 : m.time ≤ m'.time
  plan : m'.plan = m.plan
  room : m'.room = m.room
theorem Left.trans {a b c : Fs} {n k : Nat} (h : Left a b n) (k2 : Left b c k) : Left a c (n + k) :=
  ⟨k2.ok, by have := h.time; have := k2.time; omega, Nat.le_trans h.time0 k2.time0, k2.plan.trans h.plan, k2.room.trans h.room⟩
theorem Left.refl {m : Fs} (h : OkM m) : Left m m 0 := ⟨h, Nat.le_refl _, Nat.le_refl _, rfl, rfl⟩
theorem Left.mono {m m' : Fs} {n k : Nat} (h : Left m m' n) (hk : n ≤ k) : Left m m' k := ⟨h.ok, Nat.le_trans h.time (by omega), h.time0, h.plan, h.room⟩
theorem call_left {m : Fs} (h : OkM m) (hp : PlanOk m) : Left m (callM m).1 1000 ∧ (callM m).1.calls = m.calls + 1 := by
  obtain ⟨x, hx, he⟩ := call_mid h
  rw [he]
  have := hp.len
  exact ⟨⟨hx.ok, by have := hx.time; omega, hx.time0, hx.plan, hx.room⟩, hx.calls⟩
theorem left_does {m : Fs} {c : Ch} (h : OkM m) (hc : ChOk c) (hmv : ∀ s d, c = .mv s d → (look m.now s).isSome = true) : Left m (does m c) 1 := ⟨ok_does h hc hmv, Nat.le_refl _, Nat.le_succ _, rfl, rfl⟩
theorem left_puts {m : Fs} {path : B8} {mode : Int} {data : B8} {fits : Bool} (h : OkM m) (hp : pathB path = true) (hd : data.length ≤ 20000) : Left m (putsM m path mode data fits).1 1 := by
  unfold putsM
  split
  · exact (Left.refl h).mono (by omega)
  · split
    · exact (Left.refl h).mono (by omega)
    · exact left_does h ⟨hp, hd⟩ (fun s d e => by cases e)
end Go.Proofs.YtdhgmpibjneplaaGreatDoor

/-! marlaw5: an operation of both file systems, in plain Lean. Conditions: as each theorem states. -/
namespace Go.Proofs.YtdhgmpibjneplaaGreatDoor
open Go Go.RowKit

structure Opn where
  (kind mode keep torn : Int)
  (path dest data : B8)
  (plan : List Ev)
structure OpOk (o : Opn) : Prop where
  path : o.path.length ≤ 400
  dest : o.dest.length ≤ 400
  few : o.plan.length ≤ 60
  ev : ∀ e ∈ o.plan, I64 e.keep ∧ I64 e.torn ∧ e.path.length ≤ 400
  keep : I64 o.keep
  torn : I64 o.torn
def stepM (m : Fs) (o : Opn) : Fs :=
  if o.kind = 0 then (createM m o.path o.mode o.data).1
  else if o.kind = 1 then (writeM m o.path o.mode o.data).1
  else if o.kind = 2 then (moveM m o.path o.dest false).1
  else if o.kind = 3 then (moveM m o.path o.dest true).1
  else if o.kind = 4 then (removeM m o.path).1
  else if o.kind = 5 then (syncM m).1
  else if o.kind = 6 then (readM m o.path).1
  else if o.kind = 7 then (listM m o.path).1
  else if o.kind = 8 then (userWrite m o.path o.mode o.data).1
  else if o.kind = 9 then (userRemove m o.path).1
  else if o.kind = 10 then crash m o.keep o.torn
  else if o.kind = 11 then rebootM m
  else if o.kind = 12 then planM m o.plan
  else m

/-! ### What an operation leaves, in numbers -/
theorem call_leftN {m : Fs} (h : OkM m) {N : Nat} (hn : m.plan.length ≤ N) : Left m (callM m).1 N ∧ (callM m).1.calls = m.calls + 1 := by
  obtain ⟨x, hx, he⟩ := call_mid h
  rw [he]
  exact ⟨⟨hx.ok, by have := hx.time; omega, hx.time0, hx.plan, hx.room⟩, hx.calls⟩
theorem left_putN {m : Fs} {path : B8} {mode : Int} {data : B8} {only : Bool} (h : OkM m) {N : Nat} (hn : m.plan.length ≤ N) : Left m (putM (callM m) path mode data only).1 (N + 1) := by
  have hc := (call_leftN h hn).1
  unfold putM
  split
  · exact hc.mono (by omega)
  · split
    · exact hc.mono (by omega)
    · rename_i hw
      have hw0 := wrong_zero (by simpa using hw)
      split
      · exact hc.mono (by omega)
      · exact hc.trans (left_puts hc.ok hw0.1 hw0.2.2.2)
theorem left_moveN {m : Fs} {s d : B8} {fresh : Bool} (h : OkM m) {N : Nat} (hn : m.plan.length ≤ N) : Left m (moveM m s d fresh).1 (N + 1) := by
  have hc := (call_leftN h hn).1
  unfold moveM mvM
  split
  · exact hc.mono (by omega)
  · split
    · exact hc.mono (by omega)
    · rename_i hpb
      split
      · exact hc.mono (by omega)
      · rename_i hs
        split
        · exact hc.mono (by omega)
        · split
          · exact hc.mono (by omega)
          · rename_i hne
            split
            · exact hc.mono (by omega)
            · refine hc.trans (left_does hc.ok ?_ (fun s' d' e => ?_))
              · simp only [not_or, Bool.not_eq_false] at hpb
                exact ⟨hpb.1, hpb.2, hne⟩
              · cases e
                cases hl : look (callM m).1.now s with
                | none => rw [hl] at hs; simp at hs
                | some f => rfl
theorem read_fst (m : Fs) (path : B8) : (readM m path).1 = (callM m).1 := by
  unfold readM
  split
  · rfl
  · split
    · rfl
    · split <;> rfl
theorem list_fst (m : Fs) (path : B8) : (listM m path).1 = (callM m).1 := by
  unfold listM
  split
  · rfl
  · split
    · rfl
    · split <;> rfl

/-- What holds of a file system behind n operations. -/
structure Good (n : Nat) (m : Fs) : Prop where
  ok : OkM m
  plan : PlanOk m
  few : m.plan.length ≤ 60
  time : m.time ≤ 80 * n
  calls : m.calls ≤ 100 * n
  room0 : 0 ≤ m.room
  room1 : m.room ≤ 1073741824
theorem Good.left {n : Nat} {m m' : Fs} (h : Good n m) (hl : Left m m' 61) (hc : m'.calls ≤ m.calls + 1) : Good (n + 1) m' :=
  ⟨hl.ok, ⟨by rw [hl.plan]; exact h.plan.len, by rw [hl.plan]; exact h.plan.ev⟩, by rw [hl.plan]; exact h.few, by have := hl.time; have := h.time; omega, by have := h.calls; omega, by rw [hl.room]; exact h.room0, by rw [hl.room]; exact h.room1⟩

theorem left_hap {m : Fs} (h : OkM m) (e : Ev) : Left m (hapM m e) 1 ∧ (hapM m e).calls = m.calls :=
  ⟨⟨ok_hap h e, (hap_time m e).2, (hap_time m e).1, (hap_plan m e).1, (hap_plan m e).2.2⟩, (hap_plan m e).2.1⟩
theorem put_calls (m : Fs) (path : B8) (mode : Int) (data : B8) (only : Bool) : (putM (callM m) path mode data only).1.calls = (callM m).1.calls := by
  unfold putM
  split
  · rfl
  · split
    · rfl
    · split
      · rfl
      · unfold putsM
        split
        · rfl
        · split <;> rfl
theorem move_calls (m : Fs) (s d : B8) (fresh : Bool) : (moveM m s d fresh).1.calls = (callM m).1.calls := by
  unfold moveM mvM
  split
  · rfl
  · split
    · rfl
    · split
      · rfl
      · split
        · rfl
        · split
          · rfl
          · split <;> rfl
theorem Good.mono {n k : Nat} {m : Fs} (h : Good n m) (hk : n ≤ k) : Good k m := ⟨h.ok, h.plan, h.few, by have := h.time; omega, by have := h.calls; omega, h.room0, h.room1⟩
end Go.Proofs.YtdhgmpibjneplaaGreatDoor

/-! fsim.FS: Create, Write. Conditions: what holds of a file system at all times; short paths. -/
namespace Go.Proofs.YtdhgmpibjneplaaGreatDoor
open Go Go.RowKit

theorem FsIn.env1 {S O R : Nat → Prop} {w w1 : World} {p : Value} {m m1 : Fs} (h : FsIn S O R w p m) (h1 : FsPost S O R w p m1 w1) : Env w1 := h.env.fr h1.fr h.noG

set_option maxRecDepth 100000 in
set_option maxHeartbeats 4000000 in
theorem write_any {S O R : Nat → Prop} {w : World} {p : Value} {m : Fs} (path : B8) (mode : Int) (v : Value) (data : B8) (h : FsIn S O R w p m) (hp : path.length ≤ 400) (hv : IsBytes w v data) (hout : Out O w v) :
    Calls Tryz.prog 121 #[p, S8 path, .int .i64 mode, v] w fun e w' => e = .returned (.int .i64 (writeM m path mode data).2) ∧ FsPost S O R w p (writeM m path mode data).1 w' := by
  obtain ⟨m1, full, er, hcm⟩ : ∃ m1 full er, callM m = (m1, full, er) := ⟨_, _, _, rfl⟩
  have hcl := call_left h.ok h.plan
  rw [hcm] at hcl
  have hdef : writeM m path mode data = if er ≠ 0 then (m1, er) else if wrongE path mode data ≠ 0 then (m1, wrongE path mode data) else putsM m1 path mode data (!full && fitsM m1 path data.length) := by unfold writeM putM; rw [hcm]; simp only [Bool.false_eq_true, false_and, if_false]
  have HDEF : Hid _ := hdef
  have HCM : Hid _ := hcm
  have HCL : Hid _ := hcl
  have HI : Hid _ := h
  have HV : Hid _ := hv
  have HO : Hid _ := hout
  have htm := h.time
  have hcs := h.calls
  obtain ⟨a, c, rfl, -⟩ := hv.get
  obtain ⟨g, hpg⟩ : ∃ g, p = .pointer (some ⟨g, 0, none⟩) := by
    obtain ⟨g, gm, gd, vp, vl, vu, L, c0, hpe, -⟩ := h.fs
    exact ⟨g, hpe⟩
  subst hpg
  clear hdef hcm hcl h hv hout
  by_cases her : er = 0
  · subst her
    obtain ⟨e2, he2⟩ : ∃ e2, wrongE path mode data = e2 := ⟨_, rfl⟩
    have HW : Hid _ := he2
    rw [he2] at HDEF
    go_enter Tryz.func121, Tryz.ntmps121
    go_wp2_with fail
    go_at_call 74
    refine (call_any HI.out.env HI.out.fs HI.out.ok HI.out.plan (by omega) (by omega) HI.out.noG HI.out.apart).mono ?_
    rw [HCM.out]
    rintro e w1 ⟨rfl, h1⟩
    have H1 : Hid (FsPost S O R w (.pointer (some ⟨g, 0, none⟩)) m1 w1) := h1
    have HOK1 : Hid (OkM m1) := HCL.out.1.ok
    have htm1 : m1.time ≤ m.time + 1000 := HCL.out.1.time
    have hroom : m1.room = m.room := HCL.out.1.room
    have HRM : Hid _ := hroom
    clear h1 hroom
    go_wp2_with fail
    go_at_call 53
    refine (wrong_any path mode (.slice a data.length c) data _ (HI.out.env1 H1.out) (IsBytes.fr HV.out HO.out H1.out.fr) (by omega)).mono ?_
    rw [HW.out]
    rintro e w2 ⟨rfl, hx2⟩
    by_cases hz2 : e2 = 0
    · subst hz2
      have hw0 := wrong_zero he2
      have HW0 : Hid _ := hw0
      have H2 : Hid (FsPost S O R w (.pointer (some ⟨g, 0, none⟩)) m1 w2) := FsPost.ext H1.out hx2
      have HE2 : Hid _ := HI.out.env1 H2.out
      have HV2 : Hid _ := IsBytes.fr HV.out HO.out H2.out.fr
      clear he2 hw0
      have HDD : Hid (writeM m path mode data = putsM m1 path mode data (!full && fitsM m1 path data.length)) := by unfold Hid; rw [HDEF.out]; simp
      clear HDEF
      cases full with
      | true =>
        have HDE : Hid (writeM m path mode data = putsM m1 path mode data false) := HDD.out
        go_wp2_with fail
        go_at_call 54
        refine (puts_any path mode (.slice a data.length c) data false HE2.out H2.out.fs HOK1.out (by omega) (by omega) HV2.out HW0.out.2.2.2 (may_eq _ HW0.out.1)).mono ?_
        rintro e w4 ⟨rfl, h4⟩
        go_wp2
        go_ret
        rw [HDE.out]
        exact ⟨rfl, H2.out.trans h4⟩
      | false =>
        have HDE : Hid (writeM m path mode data = putsM m1 path mode data (fitsM m1 path data.length)) := HDD.out
        go_wp2_with fail
        go_at_call 158
        refine (fits_any path data.length H2.out.fs HOK1.out (by omega) (by rw [HRM.out]; exact HI.out.room0) (by rw [HRM.out]; exact HI.out.room1) (by omega)).mono ?_
        rintro e w3 ⟨rfl, hx3⟩
        generalize fitsM m1 path data.length = ft at *
        have HX3 : Hid _ := hx3
        go_wp2_with fail
        go_at_call 54
        refine (puts_any path mode (.slice a data.length c) data ft (HE2.out.ext HX3.out) (IsFs.ext H2.out.fs HX3.out) HOK1.out (by omega) (by omega) (IsBytes.ext HV2.out HX3.out) HW0.out.2.2.2 (may_eq _ HW0.out.1)).mono ?_
        rintro e w4 ⟨rfl, h4⟩
        go_wp2
        go_ret
        rw [HDE.out]
        exact ⟨rfl, H2.out.trans (FsPost.pre HX3.out h4)⟩
    · have hb : (e2 == 0) = false := by simpa using hz2
      have hb' : (e2 != 0) = true := by simpa using hz2
      have HDD : Hid (writeM m path mode data = (m1, e2)) := by unfold Hid; rw [HDEF.out]; simp [hz2]
      clear hz2 he2 HDEF
      go_wp2
      go_ret
      rw [HDD.out]
      exact ⟨rfl, FsPost.ext H1.out hx2⟩
  · have hb : (er == 0) = false := by simpa using her
    have hb' : (er != 0) = true := by simpa using her
    have HDD : Hid (writeM m path mode data = (m1, er)) := by unfold Hid; rw [HDEF.out]; simp [her]
    clear her HDEF
    go_enter Tryz.func121, Tryz.ntmps121
    go_wp2_with (go_at_call 74; go_must (refine (call_any HI.out.env HI.out.fs HI.out.ok HI.out.plan (by omega) (by omega) HI.out.noG HI.out.apart).mono ?_; rw [HCM.out]; rintro e w1 ⟨rfl, h1⟩))
    go_ret
    rw [HDD.out]
    exact ⟨rfl, h1⟩

end Go.Proofs.YtdhgmpibjneplaaGreatDoor

/-! fsim.FS: Remove, Sync, Move, MoveNew. Conditions: what holds of a file system at all times; short paths. -/
namespace Go.Proofs.YtdhgmpibjneplaaGreatDoor
open Go Go.RowKit

end Go.Proofs.YtdhgmpibjneplaaGreatDoor

/-! fsim.FS: move, Move, MoveNew. Conditions: what holds of a file system at all times; short paths. -/
namespace Go.Proofs.YtdhgmpibjneplaaGreatDoor
open Go Go.RowKit

set_option maxRecDepth 100000 in
set_option maxHeartbeats 8000000 in
theorem mv_any {S O R : Nat → Prop} {w : World} {p : Value} {m : Fs} (src dst : B8) (fresh : Bool) (h : FsIn S O R w p m) (hs : src.length ≤ 400) (hd : dst.length ≤ 400) :
    Calls Tryz.prog 159 #[p, S8 src, S8 dst, .bool fresh] w fun e w' => e = .returned (.int .i64 (moveM m src dst fresh).2) ∧ FsPost S O R w p (moveM m src dst fresh).1 w' := by
  obtain ⟨m1, full, er, hcm⟩ : ∃ m1 full er, callM m = (m1, full, er) := ⟨_, _, _, rfl⟩
  have hcl := call_left h.ok h.plan
  rw [hcm] at hcl
  have hdef : moveM m src dst fresh = if er ≠ 0 then (m1, er) else if pathB src = false ∨ pathB dst = false then (m1, 6)
      else if (look m1.now src).isNone then (m1, 7) else if (look m1.now dst).isSome ∧ fresh = true then (m1, 8)
      else if src = dst then (m1, 0) else if (look m1.now dst).isNone ∧ mayF m1.now dst src = false then (m1, 9) else (does m1 (.mv src dst), 0) := by unfold moveM mvM; rw [hcm]
  have HDEF : Hid _ := hdef
  have HCM : Hid _ := hcm
  have HCL : Hid _ := hcl
  have HI : Hid _ := h
  have htm := h.time
  have hcs := h.calls
  obtain ⟨g, hpg⟩ : ∃ g, p = .pointer (some ⟨g, 0, none⟩) := by
    obtain ⟨g, gm, gd, vp, vl, vu, L, c0, hpe, -⟩ := h.fs
    exact ⟨g, hpe⟩
  subst hpg
  have hts : (⟨src.toArray⟩ : ByteArray).toList = src := Lib.toList_data _
  have htd : (⟨dst.toArray⟩ : ByteArray).toList = dst := Lib.toList_data _
  clear hdef hcm hcl h
  by_cases her : er = 0
  · subst her
    have htm1 : m1.time ≤ m.time + 1000 := HCL.out.1.time
    have HOK1 : Hid (OkM m1) := HCL.out.1.ok
    obtain ⟨ps, hps⟩ : ∃ ps, pathB src = ps := ⟨_, rfl⟩
    obtain ⟨pd, hpd⟩ : ∃ pd, pathB dst = pd := ⟨_, rfl⟩
    have HPS : Hid _ := hps
    have HPD : Hid _ := hpd
    rw [hps, hpd] at HDEF
    clear hps hpd
    go_enter Tryz.func159, Tryz.ntmps159
    go_wp2_with fail
    go_at_call 74
    refine (call_any HI.out.env HI.out.fs HI.out.ok HI.out.plan (by omega) (by omega) HI.out.noG HI.out.apart).mono ?_
    rw [HCM.out]
    rintro e w1 ⟨rfl, h1⟩
    have H1 : Hid (FsPost S O R w (.pointer (some ⟨g, 0, none⟩)) m1 w1) := h1
    clear h1
    go_wp2_with fail
    go_at_call 66
    refine (path_l src _ (HI.out.env1 H1.out) (by omega)).mono ?_
    rw [HPS.out]
    rintro e w2 ⟨rfl, hx2⟩
    have H2 : Hid (FsPost S O R w (.pointer (some ⟨g, 0, none⟩)) m1 w2) := FsPost.ext H1.out hx2
    clear hx2
    cases ps with
    | false =>
      have HDD : Hid (moveM m src dst fresh = (m1, 6)) := by unfold Hid; rw [HDEF.out]; simp
      clear HDEF
      go_wp2
      go_ret
      rw [HDD.out]
      exact ⟨rfl, H2.out⟩
    | true =>
      go_wp2_with fail
      go_at_call 66
      refine (path_l dst _ (HI.out.env1 H2.out) (by omega)).mono ?_
      rw [HPD.out]
      rintro e w3 ⟨rfl, hx3⟩
      have H3 : Hid (FsPost S O R w (.pointer (some ⟨g, 0, none⟩)) m1 w3) := FsPost.ext H2.out hx3
      clear hx3
      cases pd with
      | false =>
        have HDD : Hid (moveM m src dst fresh = (m1, 6)) := by unfold Hid; rw [HDEF.out]; simp
        clear HDEF
        go_wp2
        go_ret
        rw [HDD.out]
        exact ⟨rfl, H3.out⟩
      | true =>
        obtain ⟨g', gm', gd', vp', vl', vu', L', c0', hpe, hg', hO', hP', -, -⟩ := H3.out.fs
        cases hpe
        obtain ⟨z0, z1, z2, z3, z4, z5, z6, z7, z8⟩ := cellsAt9 hg'
        obtain ⟨val, hrun, -, hv1, hv2⟩ := hP'.now.look_run src (by omega)
        have HN : Hid _ := hP'.now
        have HG' : Hid _ := hg'
        clear hg' hP'
        cases hlk : look m1.now src with
        | none =>
          rw [hlk] at hrun
          obtain rfl := hv2 hlk
          simp only [Option.isSome_none] at hrun
          have HDD : Hid (moveM m src dst fresh = (m1, 7)) := by unfold Hid; rw [HDEF.out, hlk]; simp
          have hxa : Ext w3 (w3.alloc (.cells #[.int .i64 0, .slice none 0 0, .int .i64 0] 96)) := (Ext.refl _).alloc _
          obtain ⟨q0, q1, q2, q3, q4, q5, q6, q7, q8⟩ := cellsAt9 (Ext.row hxa HG'.out)
          obtain ⟨val2, hrun2, -, hv3, hv4⟩ := (HN.out.ext hxa).look_run dst (by omega)
          have HXA : Hid _ := hxa
          clear hv1 hv2 hlk HDEF hxa q0 q2 q3 q4 q5 q6 q7 q8
          cases hlk2 : look m1.now dst with
          | none =>
            rw [hlk2] at hrun2
            obtain rfl := hv4 hlk2
            simp only [Option.isSome_none] at hrun2
            clear hv3 hv4 hlk2
            go_wp2
            go_ret
            rw [HDD.out]
            exact ⟨rfl, FsPost.ext H3.out (Ext.alloc HXA.out _)⟩
          | some f2 =>
            rw [hlk2] at hrun2
            obtain ⟨sv2, rfl, hsv2⟩ := hv3 f2 hlk2
            obtain ⟨r1, r2, rfl, -⟩ := hsv2.bytes
            simp only [Option.isSome_some] at hrun2
            clear hv3 hv4 hlk2 hsv2
            go_wp2
            go_ret
            rw [HDD.out]
            exact ⟨rfl, FsPost.ext H3.out (Ext.alloc HXA.out _)⟩
        | some f =>
          rw [hlk] at hrun
          obtain ⟨sv, rfl, hsv⟩ := hv1 f hlk
          obtain ⟨s1, s2, rfl, -⟩ := hsv.bytes
          simp only [Option.isSome_some] at hrun
          have hxa : Ext w3 (w3.alloc (.cells #[.int .i64 f.mode, .slice s1 f.data.length s2, .int .i64 f.time] 96)) := (Ext.refl _).alloc _
          obtain ⟨q0, q1, q2, q3, q4, q5, q6, q7, q8⟩ := cellsAt9 (Ext.row hxa HG'.out)
          obtain ⟨val2, hrun2, -, hv3, hv4⟩ := (HN.out.ext hxa).look_run dst (by omega)
          have HXA : Hid _ := hxa
          have HSRC : Hid ((look m1.now src).isSome = true) := by unfold Hid; rw [hlk]; rfl
          have HD2 : Hid (moveM m src dst fresh = if (look m1.now dst).isSome ∧ fresh = true then (m1, 8)
              else if src = dst then (m1, 0) else if (look m1.now dst).isNone ∧ mayF m1.now dst src = false then (m1, 9) else (does m1 (.mv src dst), 0)) := by unfold Hid; rw [HDEF.out, hlk]; simp
          clear hv1 hv2 hsv HDEF hxa q0 q2 q3 q4 q5 q6 q7 q8
          cases hlk2 : look m1.now dst with
          | some f2 =>
            rw [hlk2] at hrun2
            obtain ⟨sv2, rfl, hsv2⟩ := hv3 f2 hlk2
            obtain ⟨r1, r2, rfl, -⟩ := hsv2.bytes
            simp only [Option.isSome_some] at hrun2
            rw [hlk2] at HD2
            clear hv3 hv4 hsv2 hlk hlk2
            cases fresh with
            | true =>
              have HDD : Hid (moveM m src dst true = (m1, 8)) := by unfold Hid; rw [HD2.out]; simp
              clear HD2
              go_wp2
              go_ret
              rw [HDD.out]
              exact ⟨rfl, FsPost.ext H3.out (Ext.alloc HXA.out _)⟩
            | false =>
              obtain ⟨bq, hbq⟩ : ∃ bq, (src == dst) = bq := ⟨_, rfl⟩
              cases bq with
              | true =>
                have HDD : Hid (moveM m src dst false = (m1, 0)) := by unfold Hid; rw [HD2.out, if_neg (by simp), if_pos (by simpa using hbq)]
                clear HD2
                go_wp2
                go_ret
                rw [HDD.out]
                exact ⟨rfl, FsPost.ext H3.out (Ext.alloc HXA.out _)⟩
              | false =>
                have HDD : Hid (moveM m src dst false = (does m1 (.mv src dst), 0)) := by unfold Hid; rw [HD2.out, if_neg (by simp), if_neg (by simpa using hbq), if_neg (by simp)]
                clear HD2
                have H4 : Hid _ := FsPost.ext H3.out (Ext.alloc HXA.out (.cells #[.int .i64 f2.mode, .slice r1 f2.data.length r2, .int .i64 f2.time] 96))
                go_wp2_with (go_at_call 89; go_must (refine (does_any (.mv src dst) [S8 dst, S8 src, .bool false, .int .i64 0, .slice none 0 0, .int .i64 0] (FsPost.fs H4.out) ⟨by omega, by omega, path_ne HPS.out, rfl⟩ (fun s d e => by cases e; exact HSRC.out) (by have := HOK1.out.lnow; omega) (by have := HOK1.out.lpend; omega) (by omega)).mono ?_; rintro e w5 ⟨rfl, h5, hr5⟩))
                go_ret
                rw [HDD.out]
                exact ⟨rfl, FsPost.trans H4.out ⟨h5, hr5⟩⟩
          | none =>
            rw [hlk2] at hrun2
            obtain rfl := hv4 hlk2
            simp only [Option.isSome_none] at hrun2
            rw [hlk2] at HD2
            have hne : (src == dst) = false := by
              rw [beq_eq_false_iff_ne]
              intro e
              rw [e, hlk2] at hlk
              cases hlk
            have HNE : Hid (src ≠ dst) := beq_eq_false_iff_ne.1 hne
            clear hv3 hv4 hlk hlk2
            have H4 : Hid _ := FsPost.ext H3.out (Ext.alloc HXA.out (.cells #[.int .i64 0, .slice none 0 0, .int .i64 0] 96))
            have HN4 : Hid _ := IsFiles.ext HN.out (Ext.alloc HXA.out (.cells #[.int .i64 0, .slice none 0 0, .int .i64 0] 96))
            obtain ⟨t0, t1, t2, t3, t4, t5, t6, t7, t8⟩ := cellsAt9 (Ext.row (Ext.alloc HXA.out (.cells #[.int .i64 0, .slice none 0 0, .int .i64 0] 96)) HG'.out)
            obtain ⟨my, hmy⟩ : ∃ my, mayF m1.now dst src = my := ⟨_, rfl⟩
            have HMY : Hid (mayP m1.now dst src = my) := (may_eq src HPD.out).trans hmy
            rw [hmy] at HD2
            clear hmy t0 t2 t3 t4 t5 t6 t7 t8
            go_wp2_with fail
            go_at_call 91
            refine (may_any dst src (HI.out.env1 H4.out) HN4.out (by omega)).mono ?_
            rw [HMY.out]
            rintro e w5 ⟨rfl, hx5⟩
            have H5 : Hid (FsPost S O R w (.pointer (some ⟨g, 0, none⟩)) m1 w5) := FsPost.ext H4.out hx5
            clear hx5
            cases my with
            | false =>
              have HDD : Hid (moveM m src dst fresh = (m1, 9)) := by unfold Hid; rw [HD2.out, if_neg (by simp), if_neg HNE.out]; simp
              clear HD2
              go_wp2
              go_ret
              rw [HDD.out]
              exact ⟨rfl, H5.out⟩
            | true =>
              have HDD : Hid (moveM m src dst fresh = (does m1 (.mv src dst), 0)) := by unfold Hid; rw [HD2.out, if_neg (by simp), if_neg HNE.out]; simp
              clear HD2
              go_wp2_with (go_at_call 89; go_must (refine (does_any (.mv src dst) [S8 dst, S8 src, .bool false, .int .i64 0, .slice none 0 0, .int .i64 0] H5.out.fs ⟨by omega, by omega, path_ne HPS.out, rfl⟩ (fun s d e => by cases e; exact HSRC.out) (by have := HOK1.out.lnow; omega) (by have := HOK1.out.lpend; omega) (by omega)).mono ?_; rintro e w6 ⟨rfl, h6, hr6⟩))
              go_ret
              rw [HDD.out]
              exact ⟨rfl, FsPost.trans H5.out ⟨h6, hr6⟩⟩
  · have hb : (er == 0) = false := by simpa using her
    have hb' : (er != 0) = true := by simpa using her
    have HDD : Hid (moveM m src dst fresh = (m1, er)) := by unfold Hid; rw [HDEF.out]; simp [her]
    clear her HDEF
    go_enter Tryz.func159, Tryz.ntmps159
    go_wp2_with (go_at_call 74; go_must (refine (call_any HI.out.env HI.out.fs HI.out.ok HI.out.plan (by omega) (by omega) HI.out.noG HI.out.apart).mono ?_; rw [HCM.out]; rintro e w1 ⟨rfl, h1⟩))
    go_ret
    rw [HDD.out]
    exact ⟨rfl, h1⟩

theorem move_any {S O R : Nat → Prop} {w : World} {p : Value} {m : Fs} (src dst : B8) (h : FsIn S O R w p m) (hs : src.length ≤ 400) (hd : dst.length ≤ 400) :
    Calls Tryz.prog 122 #[p, S8 src, S8 dst] w fun e w' => e = .returned (.int .i64 (moveM m src dst false).2) ∧ FsPost S O R w p (moveM m src dst false).1 w' := by
  have HC : Hid _ := mv_any src dst false h hs hd
  clear h
  go_enter Tryz.func122, Tryz.ntmps122
  go_wp2_with (go_at_call 159; go_must (refine Calls.mono HC.out ?_; rintro e w1 ⟨rfl, h1⟩))
  go_ret
  exact ⟨rfl, h1⟩
end Go.Proofs.YtdhgmpibjneplaaGreatDoor

/-! fsim.FS: Peek, Paths. Conditions: a short path; at most 10000000 files. -/
namespace Go.Proofs.YtdhgmpibjneplaaGreatDoor
open Go Go.RowKit

theorem Nu.mono {w0 w1 w w' : World} (h0 : w0.heap.size ≤ w.heap.size) (h1 : w'.heap.size ≤ w1.heap.size) {k : Nat} (h : Nu w w' k) : Nu w0 w1 k := ⟨Nat.le_trans h0 h.1, Nat.lt_of_lt_of_le h.2 h1⟩

/-- What stands at a path, looked up. -/
theorem IsFiles.peek_run {R : Nat → Prop} {w : World} {b : Nat} {l : Files} (h : IsFiles R w b l) (p : B8) (hp : p.length ≤ 10000000) :
    ∃ (fi : Fi) (a : Option Addr) (c : Nat) (ok : Bool), (Instr.lookup 76 (.map (some b)) (S8 p) true).run Tryz.prog w = .ok (.tuple #[.agg #[.int .i64 fi.mode, .slice a fi.data.length c, .int .i64 fi.time], .bool ok]) w ∧ IsData R w (.slice a fi.data.length c) fi.data ∧
      (match look l p with | some f => (f, true) | none => (zeroFi, false)) = (fi, ok) := by
  obtain ⟨val, hrun, -, hv1, hv2⟩ := h.look_run p hp
  cases hlk : look l p with
  | some f =>
    rw [hlk] at hrun
    obtain ⟨sv, rfl, hsv⟩ := hv1 f hlk
    obtain ⟨a, c, rfl, -⟩ := id hsv.bytes
    exact ⟨f, a, c, true, hrun, hsv, rfl⟩
  | none =>
    rw [hlk] at hrun
    obtain rfl := hv2 hlk
    exact ⟨zeroFi, none, 0, false, hrun, IsData.nil _ _, rfl⟩

set_option maxRecDepth 100000 in
set_option maxHeartbeats 2000000 in
theorem peek_any {S O R : Nat → Prop} {w : World} {p : Value} {m : Fs} (path : B8) (h : IsFs S O R w p m) (hp : path.length ≤ 10000000) :
    Calls Tryz.prog 47 #[p, S8 path] w fun e w' => (∃ v, e = .returned (.tuple #[fiV (peekM m path).1 v, .bool (peekM m path).2]) ∧ IsData (Nu w w') w' v (peekM m path).1.data) ∧ Ext w w' := by
  obtain ⟨g, gm, gd, vp, vl, vu, L, c0, rfl, hg, -, hP, -⟩ := h
  have hxz : Ext w (w.alloc (.cells #[.int .i64 0, .slice none 0 0, .int .i64 0] 96)) := (Ext.refl _).alloc _
  obtain ⟨d0, d1, d2, d3, d4, d5, d6, d7, d8⟩ := cellsAt9 (Ext.row hxz hg)
  obtain ⟨fi, a, c, ok, hrun, hd, hpk⟩ := (hP.now.ext hxz).peek_run path hp
  have HPK : Hid (peekM m path = (fi, ok)) := hpk
  have HD : Hid _ := hd
  have hdl := hd.bytes.len
  rw [HPK.out]
  obtain ⟨wb, hwb⟩ : ∃ wb, wb = (w.alloc (.cells #[.int .i64 0, .slice none 0 0, .int .i64 0] 96)).alloc (.cells #[.int .i64 fi.mode, .slice a fi.data.length c, .int .i64 fi.time] 96) := ⟨_, rfl⟩
  have hxb : Ext (w.alloc (.cells #[.int .i64 0, .slice none 0 0, .int .i64 0] 96)) wb := by rw [hwb]; exact (Ext.refl _).alloc _
  have hgb : wb.heap[w.heap.size + 1]? = some (.cells #[.int .i64 fi.mode, .slice a fi.data.length c, .int .i64 fi.time] 96 (0, 0)) := by rw [hwb]; exact alloc_at1 _ _ _
  have hga : wb.heap[w.heap.size]? = some (.cells #[.int .i64 0, .slice none 0 0, .int .i64 0] 96 (0, 0)) := hxb.row (alloc_at _ _)
  obtain ⟨y0, y1, y2⟩ := cellsAt3 hgb
  have HB : Hid (IsData R wb (.slice a fi.data.length c) fi.data) := hd.ext hxb
  have HWB : Hid _ := hwb
  have hxwb := hxz.trans hxb
  have hsb : w.heap.size + 2 ≤ wb.heap.size := by rw [hwb]; simp
  clear hwb hg hP hd hpk hxz hxb d0 d2 d3 d4 d5 d6 d7 d8
  go_enter Tryz.func47, Tryz.ntmps47
  go_upto_region 2 with fail
  rw [show (w.alloc (.cells #[.int .i64 0, .slice none 0 0, .int .i64 0] 96)).alloc (.cells #[.int .i64 fi.mode, .slice a fi.data.length c, .int .i64 fi.time] 96) = wb from HWB.out.symm]
  go_wp2_with fail
  go_at_call 55
  refine (clone_any _ fi.data _ HB.out.bytes (by omega)).mono ?_
  rintro e w2 ⟨⟨v2, rfl, hd2⟩, hx2⟩
  obtain ⟨c1, c2, rfl, -⟩ := id hd2.bytes
  have HD2 : Hid _ := hd2
  have hgb2 := hx2.row hgb
  have hga2 := hx2.row hga
  have hne2 : w.heap.size ≠ w.heap.size + 1 := by omega
  clear hd2 hgb hga y0 y1 y2
  go_wp2_with (first
    | (refine store_field rfl 35 (.tmp 20) (.tmp 19) rfl (w.heap.size + 1) 1 rfl (.slice c1 fi.data.length c2) rfl rfl _ _ hgb2 (Nat.le_of_ble_eq_true rfl) size_bytes #[.int .i64 fi.mode, .slice c1 fi.data.length c2, .int .i64 fi.time] (by simp) ?_; intro w3 hg3 hgr3; have hga3 := but_row hgr3 hga2 hne2)
    | (refine wpList_load_row rfl 96 (.tmp 6) rfl (w.heap.size + 1) rfl 96 _ (0, 0) _ hg3 Tryz.underlying96 rfl size_fi ?_)
    | (refine wpList_store_row rfl 96 (.tmp 4) (.tmp 21) rfl w.heap.size #[.int .i64 fi.mode, .slice c1 fi.data.length c2, .int .i64 fi.time] rfl rfl 96 _ hga3 size_fi rfl (by simp [Value.oneCell']) ?_))
  refine bodyPost_ret (results_row_tmp rfl _ _ w.heap.size 96 #[.int .i64 fi.mode, .slice c1 fi.data.length c2, .int .i64 fi.time] (0, 0) _ (.bool ok) rfl rfl (setRow_heap _ _ _ _ _ _ hga3) Tryz.underlying96 size_fi) rfl ?_
  have hk3 : KeepB w2 w3 := KeepB.of_grown hgr3 hgb2 (by kernel_rfl)
  have hk4 : KeepB w3 (w3.setRow w.heap.size #[.int .i64 fi.mode, .slice c1 fi.data.length c2, .int .i64 fi.time]) := KeepB.of_grown (setRow_grown _ _ _) hga3 (by kernel_rfl)
  have hx3 : Ext w w3 := Ext.but (hxwb.trans hx2) hgr3 (by omega)
  refine ⟨⟨_, rfl, (HD2.out.keep (hk3.trans hk4)).mono (fun k hk => Nu.mono (by omega) (Nat.le_trans hk3.1 hk4.1) hk)⟩, hx3.setRow _ _ (Nat.le_refl _)⟩

/-! ### Paths -/
theorem sort_any {w : World} {base : Nat} {v : Value} {ss : List B8} (hown : w.ownsRow base 9 1 v ss.length (ss.map S8)) (hl : ss.length ≤ 10000000) :
    Calls Tryz.prog 84 #[v] w fun e w' => e = .returned (.tuple #[]) ∧ w'.ownsRow base 9 1 v ss.length ((ss.mergeSort Go.leB).map S8) ∧ w.grownBy w' v.ownBlock := by
  rcases hown.2 with ⟨rfl, h0⟩ | ⟨g, cap, cur, rfl, hbase, hb, h1, h2, h3, h4⟩
  · have hs : ss = [] := List.eq_nil_of_length_eq_zero (by simpa using h0)
    subst hs
    exact (Tryz.slices_Sort_string_none none 0 w).mono fun e w' ⟨he, hw⟩ => ⟨he, by rw [hw, List.mergeSort_nil]; exact hown, by rw [hw]; exact ⟨rfl, rfl, rfl, Nat.le_refl _, fun _ _ _ => rfl⟩⟩
  · refine (Tryz.slices_Sort_string g 0 cap ss w (holds_of_block hb (by simpa using h4)) (Array.getElem?_eq_some_iff.1 hb).1 (by omega)).mono fun e w' ⟨he, n, os, hw⟩ => ⟨he, ?_, ?_⟩
    · rw [hw]
      exact ownsRow_sorted (by simp) hbase hb h1 h2 h3
    · rw [hw]
      exact grownBy_sorted _

theorem paths_sorted {l : Files} (h : Rising l) : (pathsL l).mergeSort Go.leB = pathsL l := by
  have tr : ∀ a b c : B8, Go.leB a b = true → Go.leB b c = true → Go.leB a c = true := fun a b c h1 h2 => by simp only [Go.leB, decide_eq_true_eq] at *; exact List.le_trans h1 h2
  have tot : ∀ a b : B8, (Go.leB a b || Go.leB b a) = true := fun a b => by simp only [Go.leB, Bool.or_eq_true, decide_eq_true_eq]; exact List.le_total a b
  refine List.Perm.eq_of_pairwise (le := fun a b => Go.leB a b = true) (fun a b _ _ h1 h2 => ?_) (List.pairwise_mergeSort tr tot _) ?_ (List.mergeSort_perm _ _)
  · simp only [Go.leB, decide_eq_true_eq] at h1 h2
    exact List.le_antisymm h1 h2
  · unfold pathsL
    refine List.pairwise_map.2 (h.imp fun {a b} hab => ?_)
    simp only [Go.leB, decide_eq_true_eq]
    exact List.le_of_lt (by simpa [ltB] using hab)

set_option maxRecDepth 100000 in
set_option maxHeartbeats 2000000 in
theorem paths_any {S O R : Nat → Prop} {w : World} {p : Value} {m : Fs} (h : IsFs S O R w p m) (hl : m.now.length ≤ 10000000) :
    Calls Tryz.prog 45 #[p] w fun e w' => (∃ v, e = .returned v ∧ w'.ownsRow w.heap.size 9 1 v m.now.length ((pathsL m.now).map S8)) ∧ Ext w w' := by
  obtain ⟨g, gm, gd, vp, vl, vu, L, c0, rfl, hg, -, hP, -⟩ := h
  obtain ⟨h1, h0, sl, hown, hd⟩ := hP.now
  have hsd := IsFiles.sliced hd
  obtain ⟨d0, d1, d2, d3, d4, d5, d6, d7, d8⟩ := cellsAt9 hg
  have hbl := hown.lt
  have HS : Hid _ := hsd
  have HR : Hid _ := h1
  have hall := leftF_all sl h1
  have HA : Hid _ := hall
  have HSO : Hid _ := paths_sorted h1
  clear hsd h1 hd hall h0 hg hP d0 d2 d3 d4 d5 d6 d7 d8
  go_enter Tryz.func45, Tryz.ntmps45
  go_wp2_with (first
    | (at_range; refine wpList_range_own _ rfl _ 76 rfl 9 96 K_str Tryz.underlying76 _ gm _ _ rfl hown ?_; intro w0 hrg0 hg0 hs0)
    | go_in)
  go_frame
  go_loopw [3] (fun sv wr => ∃ (left : Lit → Bool) (cnt : Nat) (C : List B8), wr.ranges Tryz.prog 9 elemV gm w.heap.size m.now.length (dat sl m.now) left cnt ∧ wr.ownsRow w.heap.size 9 1 sv C.length (C.map S8) ∧ (C ++ pathsL (leftF left m.now)).Perm (pathsL m.now) ∧ Ext w wr)
    (fun _ wr => wr.rangeLeft gm w.heap.size)
  case atStart => exact ⟨_, _, [], hrg0, World.ownsRow_nil _ _ _ _, by rw [HA.out]; exact List.Perm.refl _, Below.grown (Below.refl _ _) hg0 (Nat.le_refl _) (fun j hj => by cases hj)⟩
  case round =>
    obtain ⟨left, cnt, C, hrg, hown, hpm, hx⟩ := hrel
    have HPM : Hid _ := hpm
    have hCl : C.length ≤ m.now.length := by
      have := hpm.length_eq
      simp only [List.length_append, pathsL, List.length_map] at this
      omega
    have HOW : Hid _ := hown
    clear hpm hown
    go_wp2_with (at_next; refine next_files rfl _ rfl gm w.heap.size _ sl m.now _ _ rfl hrg HS.out ?_ ?_)
    · intro hc0 hl0
      have hpe : C.Perm (pathsL m.now) := by
        have := HPM.out
        rw [leftF_none hl0] at this
        simpa [pathsL] using this
      have hms : C.mergeSort Go.leB = pathsL m.now := (Go.mergeSort_of_perm hpe).trans HSO.out
      have hle : C.length = m.now.length := by have := hpe.length_eq; simpa [pathsL] using this
      have HMS : Hid _ := hms
      have HLE : Hid _ := hle
      clear hl0 hpe hms hle
      go_wp2_with (go_at_call 84; go_must (refine (sort_any HOW.out (by omega)).mono ?_; rintro e w5 ⟨rfl, ho5, hg5⟩))
      go_ret
      rw [HMS.out, HLE.out] at ho5
      exact ⟨⟨_, rfl, ho5⟩, Below.grown hx hg5 hx.size (fun q hq => (World.ownsRow.lt HOW.out q hq).1)⟩
    · intro q f ad c w1 cnt1 hlk hsl hlx hat hrg1 hlt hg1 hs1 hen
      have hst := strike_perm (f := f) hlx HR.out hlk
      have hpm1 : ((C ++ [q]) ++ pathsL (leftF (strike left q) m.now)).Perm (pathsL m.now) := by
        refine List.Perm.trans ?_ HPM.out
        rw [List.append_assoc]
        refine List.Perm.append_left C ?_
        exact (List.Perm.map Prod.fst hst).symm
      have HM : Hid _ := hpm1
      have hne := row_ne_iter HOW.out hrg
      have hown1 := World.ownsRow.kept HOW.out hg1 (.inr hne.symm)
      have hx1 : Ext w w1 := Below.grown hx hg1 hx.size (fun j hj => by cases hj; exact Nat.le_refl _)
      have hxa : Ext w1 (w1.alloc (.cells #[S8 q] 9)) := (Ext.refl _).alloc _
      have hown2 := owns_ext hown1 hxa
      have hx2 := hx1.trans hxa
      have hsz : w.heap.size ≤ (w1.alloc (.cells #[S8 q] 9)).heap.size := hx2.size
      have hrg2 := hrg1.alloc (.cells #[S8 q] 9)
      have HNE2 : Hid _ := row_ne_iter hown2 hrg2
      have HLOW : Hid _ := row_ne_low hown2 hbl
      clear hlk hsl hat hst hpm1 hlx hne hown1 hx1 hxa hs1
      go_wp2_with (at_builtin; go_must (refine app_str rfl _ _ rfl w.heap.size _ C.length C rfl hown2 w1.heap.size 1 1 [q] rfl rfl (alloc_at _ _) (by omega) hsz ?_); intro v' w3 hown3 hgr3)
      go_roundw
      case rel => exact ⟨_, cnt1, C ++ [q], hrg2.kept hgr3 HLOW.out HNE2.out, by rw [List.length_append]; exact hown3, HM.out, Below.grown hx2 hgr3 hx2.size (fun j hj => (hown2.lt j hj).1)⟩
      case measure => rw [(hrg2.kept hgr3 HLOW.out HNE2.out).left_eq, hrg.left_eq]; exact hlt

end Go.Proofs.YtdhgmpibjneplaaGreatDoor

/-! fsim.FS: List, Read. Conditions: what holds of a file system at all times; short paths. -/
namespace Go.Proofs.YtdhgmpibjneplaaGreatDoor
open Go Go.RowKit Go.Sort Go.Shelf

set_option maxRecDepth 100000 in
theorem under_gives (dir x : B8) (B : Nat) (W : World) (hd : dir.length ≤ 10000000) (hc : W.cell? ⟨B, 0, none⟩ = some (S8 dir)) :
    FnGives Tryz.prog 76 #[.pointer (some ⟨B, 0, none⟩)] #[S8 x] (.bool (!isUnder dir x)) W := by
  show Calls Tryz.prog 76 #[S8 x, .pointer (some ⟨B, 0, none⟩)] W _
  have hu : (dir ++ [47]).isPrefixOf x = isUnder dir x := rfl
  obtain ⟨u, hue⟩ : ∃ u, isUnder dir x = u := ⟨_, rfl⟩
  have HU : Hid _ := hu.trans hue
  rw [hue]
  clear hu hue
  go_enter Tryz.func76, Tryz.ntmps76
  go_wp2_with (go_at_call 69; go_must (refine (prefix_any _ _ _).mono ?_; rw [und_str, show (⟨x.toArray⟩ : ByteArray).data.toList = x from rfl, HU.out]; rintro e w' ⟨rfl, rfl⟩))
  go_ret
  exact ⟨rfl, 0, rfl⟩

theorem putRow_grown {w : World} {g n : Nat} (d : Array B8) : w.grownBy (putRow encStr (Sort.ahead w n) g 0 d) (some g) := by
  refine ⟨rfl, rfl, rfl, by simp [Sort.ahead], fun k hk hne => ?_⟩
  have : g ≠ k := fun e => hne (by rw [e])
  simp [putRow, mapBlock, Sort.ahead, Array.getElem?_modify, this]

set_option maxRecDepth 100000 in
theorem index_nil (f : Value) (w : World) :
    Calls Tryz.prog 126 #[.slice none 0 0, f] w fun e w' => e = .returned (.int .i64 (-1)) ∧ w' = w := by
  go_enter Tryz.func126, Tryz.ntmps126
  go_wp2
  go_loop [8] (fun i => i = .int .i64 0) (fun _ => 0)
  case atStart => rfl
  case round =>
    subst hrel
    go_wp2
    go_ret
    exact ⟨rfl, rfl⟩
set_option maxRecDepth 100000 in
theorem delFn_nil (f : Value) (w : World) :
    Calls Tryz.prog 75 #[.slice none 0 0, f] w fun e w' => e = .returned (.slice none 0 0) ∧ w' = w := by
  go_enter Tryz.func75, Tryz.ntmps75
  go_wp2_with (go_at_call 126; go_must (refine (index_nil _ _).mono ?_; rintro e w' ⟨rfl, rfl⟩))
  go_ret
  exact ⟨rfl, rfl⟩

/-- The paths under one: of a slice of the call's own. -/
theorem delFn_any (dir : B8) (B : Nat) {w : World} {base : Nat} {v : Value} {ss : List B8} (hd : dir.length ≤ 10000000) (hc : w.cell? ⟨B, 0, none⟩ = some (S8 dir)) (hB : B < base) (hown : w.ownsRow base 9 1 v ss.length (ss.map S8)) (hl : ss.length ≤ 10000000) :
    Calls Tryz.prog 75 #[v, .func (.func 76) #[] #[.pointer (some ⟨B, 0, none⟩)]] w fun e w' => (∃ v', e = .returned v' ∧ IsStrs w' v' (ss.filter (isUnder dir)) ∧ ∀ k, v'.ownBlock = some k → base ≤ k) ∧ w.grownBy w' v.ownBlock := by
  rcases hown.2 with ⟨rfl, h0⟩ | ⟨g, cap, cur, rfl, hbase, hb, h1, h2, h3, h4⟩
  · have hs : ss = [] := List.eq_nil_of_length_eq_zero (by simpa using h0)
    subst hs
    exact (delFn_nil _ w).mono fun e w' ⟨he, hw⟩ => ⟨⟨_, he, by rw [hw]; exact IsStrs.nil w, fun k hk => by simp [Value.ownBlock] at hk⟩, by rw [hw]; exact ⟨rfl, rfl, rfl, Nat.le_refl _, fun _ _ _ => rfl⟩⟩
  · have hH := holds_of_block hb (by simpa using h4)
    have eg : ∀ args w, (callFunc 76 args).run Tryz.prog w = .ok (.enter 76 args) w := enters_of Tryz.func76 (by kernel_rfl) rfl
    have hBl : B < w.heap.size := World.block_lt_of_cell? _ _ hc
    have hne : B ≠ g := by omega
    have hp : PredAt Tryz.prog 76 #[.pointer (some ⟨B, 0, none⟩)] encStr (fun x => !isUnder dir x) w := fun W x hb => under_gives dir x B W hd ((hb.cell (p := ⟨B, 0, none⟩) hBl).trans hc)
    have hpo : PredOver Tryz.prog 76 #[.pointer (some ⟨B, 0, none⟩)] encStr (fun x => !isUnder dir x) g 0 ss.toArray.size w := fun n os dk x _ => under_gives dir x B _ hd (by
      unfold sortWorld
      rw [cell?_grow _ _ _ (by show B < (putRow _ _ _ _ _).heap.size; rw [size_putRow]; exact hBl), cell?_putRow_other _ _ g 0 _ _ (Or.inl hne)]
      exact hc)
    have hcon := AnyE.slices_DeleteFunc Tryz.laysDel encStr (fun _ => rfl) (fun x => !isUnder dir x) 76 #[.pointer (some ⟨B, 0, none⟩)] eg [] Tryz.zeroValue9 g 0 cap ss.toArray w hp hpo hH (by simp; omega) (by simpa using h1)
    have hfe : (ss.toArray.toList.filter fun x => !(fun x => !isUnder dir x) x) = ss.filter (isUnder dir) := by simp
    rw [hfe, show ss.toArray.size = ss.length from rfl] at hcon
    refine Calls.mono hcon fun e w' ⟨he, q, hw⟩ => ⟨⟨_, he, ?_, fun k hk => ?_⟩, ?_⟩
    · have hle : (ss.filter (isUnder dir)).length ≤ ss.length := List.length_filter_le _ _
      refine ⟨_, cap, rfl, by omega, by unfold maxLen at h2; omega, by omega, fun _ => ⟨g, 0, rfl, fun i u hu => ?_⟩⟩
      obtain ⟨x, hx, rfl⟩ := (by simpa [List.getElem?_map] using hu : ∃ x, (ss.filter (isUnder dir))[i]? = some x ∧ S8 x = u)
      have hi := (List.getElem?_eq_some_iff.1 hx).1
      rw [hw]
      have hH2 : Holds encStr (Sort.ahead w q) g 0 ss.toArray := hH
      rw [cell?_putRow encStr (Sort.ahead w q) g 0 ss.toArray _ hH2 (by simp; omega) i (by simp; omega)]
      congr 1
      have : ((ss.filter (isUnder dir)) ++ List.replicate (ss.length - (ss.filter (isUnder dir)).length) [])[i]? = some x := by rw [List.getElem?_append_left hi]; exact hx
      simp [this]
    · have : g = k := by simpa [Value.ownBlock] using hk
      omega
    · rw [hw]; exact putRow_grown _

end Go.Proofs.YtdhgmpibjneplaaGreatDoor

/-! fsim.FS: List, Read. Conditions: what holds of a file system at all times; short paths. -/
namespace Go.Proofs.YtdhgmpibjneplaaGreatDoor
open Go Go.RowKit

theorem FsIn.ext {S O R : Nat → Prop} {w wx : World} {p : Value} {m : Fs} (h : FsIn S O R w p m) (hx : Ext w wx) : FsIn S O R wx p m :=
  ⟨h.env.ext hx, h.fs.ext hx, h.ok, h.plan, h.time, h.calls, h.noG, fun k hk => ⟨(h.apart k hk).1, Nat.lt_of_lt_of_le (h.apart k hk).2 hx.size⟩, fun k hk => Nat.lt_of_lt_of_le (h.low k hk) hx.size, h.room0, h.room1⟩
theorem FsPost.cell {S O R : Nat → Prop} {w w1 : World} {p : Value} {m1 : Fs} (h : FsPost S O R w p m1 w1) {b o : Nat} {v : Value} (hc : w.cell? ⟨b, o, none⟩ = some v) (hb : ¬ O b) : w1.cell? ⟨b, o, none⟩ = some v := by
  rw [World.cell?_of_block (w := w) (w' := w1) (a := ⟨b, o, none⟩) (h.fr.block b (World.block_lt_of_cell? _ _ hc) (.inl hb))]
  exact hc
theorem FsPost.row {S O R : Nat → Prop} {w w1 : World} {p : Value} {m1 : Fs} (h : FsPost S O R w p m1 w1) {b : Nat} {o : Obj} (hc : w.heap[b]? = some o) (hb : ¬ O b) : w1.heap[b]? = some o := h.fr.row hc hb
theorem strs_owned {w : World} {base : Nat} {v : Value} {L : List B8} {n : Nat} (h : w.ownsRow base 9 1 v n (L.map S8)) (hn : n = L.length) (hl : n ≤ 10000000) : IsStrs w v L := by
  subst hn
  exact Row.of_owns h (by omega)

set_option maxRecDepth 100000 in
set_option maxHeartbeats 4000000 in
theorem list2_any {S O R : Nat → Prop} {w : World} {p : Value} {m : Fs} (dir : B8) (h : FsIn S O R w p m) (hp : dir.length ≤ 400) :
    Calls Tryz.prog 38 #[p, S8 dir] w fun e w' => (∃ v, e = .returned (.tuple #[v, .int .i64 (listM m dir).2.2]) ∧ IsStrs w' v (listM m dir).2.1 ∧ ∃ wq, FsPost S O R w p (listM m dir).1 wq ∧ Ext wq w' ∧ ∀ k, v.ownBlock = some k → wq.heap.size ≤ k) := by
  obtain ⟨m1, full, er, hcm⟩ : ∃ m1 full er, callM m = (m1, full, er) := ⟨_, _, _, rfl⟩
  have hcl := call_left h.ok h.plan
  rw [hcm] at hcl
  have hdef : listM m dir = if er ≠ 0 then (m1, [], er) else if dir = [] then (m1, pathsL m1.now, 0) else if pathB dir = false then (m1, [], 6) else (m1, (pathsL m1.now).filter (isUnder dir), 0) := by unfold listM; rw [hcm]
  have HDEF : Hid _ := hdef
  have HCM : Hid _ := hcm
  have HCL : Hid _ := hcl
  have htm := h.time
  have hcs := h.calls
  obtain ⟨wa, hwa⟩ : ∃ wa, wa = w.alloc (.cells #[S8 dir] 9) := ⟨_, rfl⟩
  have hxa : Ext w wa := by rw [hwa]; exact (Ext.refl _).alloc _
  have hba : wa.cell? ⟨w.heap.size, 0, none⟩ = some (S8 dir) := by rw [hwa]; exact (cell_of_row _ _ 0 _ _ _ (alloc_at w _)).trans rfl
  have hsa : w.heap.size < wa.heap.size := by rw [hwa]; simp
  have HNO : Hid (¬ O w.heap.size) := fun ho => by have := h.low _ ho; omega
  have HI : Hid _ := h.ext hxa
  have HWA : Hid _ := hwa
  have HXA : Hid _ := hxa
  have htd : (⟨dir.toArray⟩ : ByteArray).toList = dir := Lib.toList_data _
  clear hdef hcm hcl h hwa hxa
  go_enter Tryz.func38, Tryz.ntmps38
  go_wp2_with fail
  rw [show w.alloc (.cells #[S8 dir] 9) = wa from HWA.out.symm]
  go_at_call 74
  refine (call_any HI.out.env HI.out.fs HI.out.ok HI.out.plan (by omega) (by omega) HI.out.noG HI.out.apart).mono ?_
  rw [HCM.out]
  rintro e w1 ⟨rfl, h1⟩
  have H1 : Hid (FsPost S O R wa p m1 w1) := h1
  have H0 : Hid (FsPost S O R w p m1 w1) := FsPost.pre HXA.out h1
  have hb1 := h1.cell hba HNO.out
  have hln : m1.now.length ≤ 10000000 := by
    have h1 : OkM m1 := HCL.out.1.ok
    have h2 : m1.time ≤ m.time + 1000 := HCL.out.1.time
    have := h1.lnow
    omega
  have hpl : (pathsL m1.now).length = m1.now.length := by simp [pathsL]
  have HPL : Hid _ := hpl
  have hs1 : wa.heap.size ≤ w1.heap.size := h1.fr.size
  clear h1 hba hpl
  by_cases her : er = 0
  · subst her
    by_cases hd0 : dir = []
    · subst hd0
      have HDD : Hid (listM m [] = (m1, pathsL m1.now, 0)) := HDEF.out
      clear HDEF
      go_wp2_with (go_at_call 45; go_must (refine (paths_any H1.out.fs hln).mono ?_; rintro e w2 ⟨⟨v, rfl, hv⟩, hx2⟩))
      go_ret2
      rw [HDD.out]
      exact ⟨_, rfl, strs_owned hv HPL.out.symm hln, w1, H0.out, hx2, fun k hk => (World.ownsRow.lt hv k hk).1⟩
    · have hde : dir.isEmpty = false := by cases dir <;> simp_all
      have hdb : (dir == []) = false := by simpa using hd0
      have HD0 : Hid _ := hd0
      obtain ⟨pd, hpd⟩ : ∃ pd, pathB dir = pd := ⟨_, rfl⟩
      have HPD : Hid _ := hpd
      rw [hpd, if_neg (by simp), if_neg hd0] at HDEF
      clear hpd
      go_wp2_with fail
      go_at_call 66
      refine (path_l dir _ (HI.out.env1 H1.out) (by omega)).mono ?_
      rw [HPD.out]
      rintro e w2 ⟨rfl, hx2⟩
      have hb2 := hx2.cell hb1
      have H2 : Hid _ := H1.out.ext hx2
      have H02 : Hid _ := H0.out.ext hx2
      have hs2 := hx2.size
      cases pd with
      | false =>
        have HDD : Hid (listM m dir = (m1, [], 6)) := HDEF.out
        clear HDEF hx2
        go_wp2
        go_ret2
        rw [HDD.out]
        exact ⟨_, rfl, IsStrs.nil _, w2, H02.out, Ext.refl _, fun k hk => by simp [Value.ownBlock] at hk⟩
      | true =>
        have HDD : Hid (listM m dir = (m1, (pathsL m1.now).filter (isUnder dir), 0)) := HDEF.out
        clear HDEF hx2
        go_wp2_with (first
          | (go_at_call 45; go_must (refine (paths_any H2.out.fs hln).mono ?_; rintro e w3 ⟨⟨v, rfl, hv⟩, hx3⟩; rw [← HPL.out] at hv; have hb3 := hx3.cell hb2; have HV : Hid _ := hv; clear hv))
          | (go_at_call 75; go_must (refine (delFn_any dir w.heap.size (by omega) hb3 (by omega) HV.out (by rw [HPL.out]; exact hln)).mono ?_; rintro e w4 ⟨⟨v4, rfl, hv4, hi4⟩, hg4⟩)))
        go_ret2
        rw [HDD.out]
        have hx24 : Ext w2 w4 := Below.grown hx3 hg4 hx3.size (fun q hq => (World.ownsRow.lt HV.out q hq).1)
        exact ⟨_, rfl, hv4, w2, H02.out, hx24, fun k hk => by have := hi4 k hk; omega⟩
  · have hb : (er == 0) = false := by simpa using her
    have hb' : (er != 0) = true := by simpa using her
    have HDD : Hid (listM m dir = (m1, [], er)) := by unfold Hid; rw [HDEF.out]; simp [her]
    clear her HDEF
    go_wp2
    go_ret2
    rw [HDD.out]
    exact ⟨_, rfl, IsStrs.nil _, w1, H0.out, Ext.refl _, fun k hk => by simp [Value.ownBlock] at hk⟩

/-- A row of a file that is written into a block of the call's own: the file system stands. -/
theorem readBlock {S O R : Nat → Prop} {w w1 : World} {p : Value} {m1 : Fs} {g : Nat} {cs cur : Array Value} (h : FsPost S O R w p m1 w1) (hb : w1.heap[g]? = some (.cells cur 96 (0, 0))) (hg : g = w.heap.size) : FsPost S O R w p m1 (w1.setRow g cs) := by
  subst hg
  have hgr := setRow_grown w1 w.heap.size cs
  obtain ⟨g, gm, gd, vp, vl, vu, L, c0, rfl, hg, hO, hP, hpl, hc0⟩ := h.fs
  have hne := apart_kind hg hb (by simp)
  obtain ⟨e1, c1, k1⟩ := hP.now.kind
  obtain ⟨e2, c2, k2⟩ := hP.sure.kind
  have ne : ∀ k, (∃ x, w1.heap[k]? = some x ∧ ∀ cs fr, x ≠ Obj.cells cs 96 fr) → (w1.setRow w.heap.size cs).heap[k]? = w1.heap[k]? := fun k ⟨x, hx, hn⟩ => hgr.block k (Array.getElem?_eq_some_iff.1 hx).1 (fun heq => by
    simp only [Option.some.injEq] at heq
    subst heq
    rw [hb] at hx
    exact hn cur (0, 0) (Option.some.inj hx).symm)
  have hP2 := hP.stay (ne _ ⟨_, k1, by simp⟩) (ne _ ⟨_, k2, by simp⟩) (fun k hv => by obtain ⟨xs, f, hx⟩ := hP.pend.typed k hv; exact ne k ⟨_, hx, by simp⟩) (fun k hv => by obtain ⟨xs, f, hx⟩ := hP.plan.typed k hv; exact ne k ⟨_, hx, by simp⟩) (fun k hv => by obtain ⟨xs, f, hx⟩ := hP.users.typed k hv; exact ne k ⟨_, hx, by simp⟩) (grownR hgr (by rintro k hk; cases hk; exact cells_u8 hb (by kernel_rfl)))
  have hsz : (w1.setRow w.heap.size cs).heap.size = w1.heap.size := by simp [World.setRow]
  have hmo : ∀ (Q : Nat → Prop) k, Nw Q w w1 k → Nw Q w (w1.setRow w.heap.size cs) k := fun Q k hk => hk.imp id (fun h => ⟨h.1, by rw [hsz]; exact h.2⟩)
  refine ⟨IsFs.mono ⟨g, gm, gd, vp, vl, vu, L, c0, rfl, (ne g ⟨_, hg, by simp⟩).trans hg, hO, hP2, hpl, hc0⟩ (hmo O) (hmo R), h.fr.step hgr (fun k hk => by cases hk; exact .inr (Nat.le_refl _)) (by rintro k hk; cases hk; exact cells_u8 hb (by kernel_rfl))⟩

set_option maxRecDepth 100000 in
set_option maxHeartbeats 4000000 in
theorem read_any {S O R : Nat → Prop} {w : World} {p : Value} {m : Fs} (path : B8) (h : FsIn S O R w p m) (hp : path.length ≤ 400) :
    Calls Tryz.prog 41 #[p, S8 path] w fun e w' => (∃ v, e = .returned (.tuple #[fiV (readM m path).2.1 v, .int .i64 (readM m path).2.2]) ∧ IsData (Nu w w') w' v (readM m path).2.1.data) ∧ FsPost S O R w p (readM m path).1 w' := by
  obtain ⟨m1, full, er, hcm⟩ : ∃ m1 full er, callM m = (m1, full, er) := ⟨_, _, _, rfl⟩
  have hcl := call_left h.ok h.plan
  rw [hcm] at hcl
  have hdef : readM m path = if er ≠ 0 then (m1, zeroFi, er) else if pathB path = false then (m1, zeroFi, 6) else match look m1.now path with | some f => (m1, f, 0) | none => (m1, zeroFi, 7) := by
    unfold readM
    rw [hcm]
    all_goals (dsimp only; cases look m1.now path <;> rfl)
  have HDEF : Hid _ := hdef
  have HCM : Hid _ := hcm
  have HCL : Hid _ := hcl
  have htm := h.time
  have hcs := h.calls
  obtain ⟨wa, hwa⟩ : ∃ wa, wa = w.alloc (.cells #[.int .i64 0, .slice none 0 0, .int .i64 0] 96) := ⟨_, rfl⟩
  have hxa : Ext w wa := by rw [hwa]; exact (Ext.refl _).alloc _
  have hba : wa.heap[w.heap.size]? = some (.cells #[.int .i64 0, .slice none 0 0, .int .i64 0] 96 (0, 0)) := by rw [hwa]; exact alloc_at w _
  have hsa : w.heap.size < wa.heap.size := by rw [hwa]; simp
  have HNO : Hid (¬ O w.heap.size) := fun ho => by have := h.low _ ho; omega
  have HI : Hid _ := h.ext hxa
  have HWA : Hid _ := hwa
  have HXA : Hid _ := hxa
  clear hdef hcm hcl h hwa hxa
  go_enter Tryz.func41, Tryz.ntmps41
  go_wp2_with fail
  rw [show w.alloc (.cells #[.int .i64 0, .slice none 0 0, .int .i64 0] 96) = wa from HWA.out.symm]
  go_at_call 74
  refine (call_any HI.out.env HI.out.fs HI.out.ok HI.out.plan (by omega) (by omega) HI.out.noG HI.out.apart).mono ?_
  rw [HCM.out]
  rintro e w1 ⟨rfl, h1⟩
  have H1 : Hid (FsPost S O R wa p m1 w1) := h1
  have H0 : Hid (FsPost S O R w p m1 w1) := FsPost.pre HXA.out h1
  have hb1 := h1.row hba HNO.out
  have hs1 : wa.heap.size ≤ w1.heap.size := h1.fr.size
  clear h1 hba
  by_cases her : er = 0
  · subst her
    obtain ⟨pd, hpd⟩ : ∃ pd, pathB path = pd := ⟨_, rfl⟩
    have HPD : Hid _ := hpd
    rw [hpd, if_neg (by simp)] at HDEF
    clear hpd
    go_wp2_with fail
    go_at_call 66
    refine (path_l path _ (HI.out.env1 H1.out) (by omega)).mono ?_
    rw [HPD.out]
    rintro e w2 ⟨rfl, hx2⟩
    have hb2 := hx2.row hb1
    have H2 : Hid _ := H1.out.ext hx2
    have H02 : Hid _ := H0.out.ext hx2
    have hs2 := hx2.size
    cases pd with
    | false =>
      have HDD : Hid (readM m path = (m1, zeroFi, 6)) := HDEF.out
      clear HDEF hx2
      go_wp2_with (refine wpList_store_row rfl 96 (.tmp 4) (.tmp 22) rfl w.heap.size #[.int .i64 0, .slice none 0 0, .int .i64 0] rfl rfl 96 _ hb2 size_fi rfl (by simp [Value.oneCell']) ?_)
      refine bodyPost_ret (results_row_tmp rfl _ _ w.heap.size 96 #[.int .i64 0, .slice none 0 0, .int .i64 0] (0, 0) _ (.int .i64 6) rfl rfl (setRow_heap _ _ _ _ _ _ hb2) Tryz.underlying96 size_fi) rfl ?_
      rw [HDD.out]
      exact ⟨⟨_, rfl, IsData.nil _ _⟩, readBlock H02.out hb2 rfl⟩
    | true =>
      have HDE : Hid (readM m path = (m1, (peekM m1 path).1, if (peekM m1 path).2 then 0 else 7)) := by
        unfold Hid peekM
        rw [HDEF.out, if_neg (by simp)]
        cases look m1.now path <;> rfl
      have HZ : Hid ((peekM m1 path).2 = false → (peekM m1 path).1 = zeroFi) := by
        unfold Hid peekM
        cases look m1.now path <;> simp
      obtain ⟨fi, ok, hpk⟩ : ∃ fi ok, peekM m1 path = (fi, ok) := ⟨_, _, rfl⟩
      have HPK : Hid _ := hpk
      rw [hpk] at HDE HZ
      clear HDEF hx2 hpk
      go_wp2_with fail
      go_at_call 47
      refine (peek_any path H2.out.fs (by omega)).mono ?_
      rw [HPK.out]
      rintro e w3 ⟨⟨v, rfl, hv⟩, hx3⟩
      obtain ⟨c1, c2, rfl, -⟩ := id hv.bytes
      have hb3 := hx3.row hb2
      have HV : Hid _ := hv
      have H03 : Hid _ := H02.out.ext hx3
      have hs3 := hx3.size
      have hx4 : Ext w3 (w3.alloc (.cells #[.int .i64 fi.mode, .slice c1 fi.data.length c2, .int .i64 fi.time] 96)) := (Ext.refl _).alloc _
      have hb4 := hx4.row hb3
      have hbv := alloc_at w3 (.cells #[.int .i64 fi.mode, .slice c1 fi.data.length c2, .int .i64 fi.time] 96)
      have H04 : Hid _ := H03.out.ext hx4
      have HX4 : Hid _ := hx4
      clear hv hx3 hx4
      cases ok with
      | false =>
        have hfz : fi = zeroFi := HZ.out rfl
        subst hfz
        have HDD : Hid (readM m path = (m1, zeroFi, 7)) := HDE.out
        clear HDE HZ
        go_wp2_with (refine wpList_store_row rfl 96 (.tmp 4) (.tmp 31) rfl w.heap.size #[.int .i64 0, .slice none 0 0, .int .i64 0] rfl rfl 96 _ hb4 size_fi rfl (by simp [Value.oneCell']) ?_)
        refine bodyPost_ret (results_row_tmp rfl _ _ w.heap.size 96 #[.int .i64 0, .slice none 0 0, .int .i64 0] (0, 0) _ (.int .i64 7) rfl rfl (setRow_heap _ _ _ _ _ _ hb4) Tryz.underlying96 size_fi) rfl ?_
        rw [HDD.out]
        exact ⟨⟨_, rfl, IsData.nil _ _⟩, readBlock H04.out hb4 rfl⟩
      | true =>
        have HDD : Hid (readM m path = (m1, fi, 0)) := HDE.out
        clear HDE HZ
        go_wp2_with (first
          | (refine wpList_load_row rfl 96 (.tmp 8) rfl w3.heap.size rfl 96 _ (0, 0) _ hbv Tryz.underlying96 rfl size_fi ?_)
          | (refine wpList_store_row rfl 96 (.tmp 4) (.tmp 32) rfl w.heap.size #[.int .i64 fi.mode, .slice c1 fi.data.length c2, .int .i64 fi.time] rfl rfl 96 _ hb4 size_fi rfl (by simp [Value.oneCell']) ?_))
        refine bodyPost_ret (results_row_tmp rfl _ _ w.heap.size 96 #[.int .i64 fi.mode, .slice c1 fi.data.length c2, .int .i64 fi.time] (0, 0) _ (.int .i64 0) rfl rfl (setRow_heap _ _ _ _ _ _ hb4) Tryz.underlying96 size_fi) rfl ?_
        rw [HDD.out]
        have hk4 : KeepB w3 _ := (KeepB.of_ext HX4.out).trans (KeepB.of_grown (setRow_grown _ w.heap.size #[.int .i64 fi.mode, .slice c1 fi.data.length c2, .int .i64 fi.time]) hb4 (by kernel_rfl))
        exact ⟨⟨_, rfl, (HV.out.keep hk4).mono (fun k hk => Nu.mono (by omega) hk4.1 hk)⟩, readBlock H04.out hb4 rfl⟩
  · have hb : (er == 0) = false := by simpa using her
    have hb' : (er != 0) = true := by simpa using her
    have HDD : Hid (readM m path = (m1, zeroFi, er)) := by unfold Hid; rw [HDEF.out]; simp [her]
    clear her HDEF
    go_wp2_with (refine wpList_store_row rfl 96 (.tmp 4) (.tmp 17) rfl w.heap.size #[.int .i64 0, .slice none 0 0, .int .i64 0] rfl rfl 96 _ hb1 size_fi rfl (by simp [Value.oneCell']) ?_)
    refine bodyPost_ret (results_row_tmp rfl _ _ w.heap.size 96 #[.int .i64 0, .slice none 0 0, .int .i64 0] (0, 0) _ (.int .i64 er) rfl rfl (setRow_heap _ _ _ _ _ _ hb1) Tryz.underlying96 size_fi) rfl ?_
    rw [HDD.out]
    exact ⟨⟨_, rfl, IsData.nil _ _⟩, readBlock H0.out hb1 rfl⟩

end Go.Proofs.YtdhgmpibjneplaaGreatDoor

/-! slices.Clone at events and changes; fsim.copiedEvents; Plan, User. Conditions: at most 10000000 elements. -/
namespace Go.Proofs.YtdhgmpibjneplaaGreatDoor
open Go Go.RowKit

end Go.Proofs.YtdhgmpibjneplaaGreatDoor

/-! fsim.copiedEvents, Plan, User: events copied, with their data. Conditions: at most 100000 events. -/
namespace Go.Proofs.YtdhgmpibjneplaaGreatDoor
open Go Go.RowKit

/-- Events that lie in new blocks, data too. -/
def OwnE (base : Nat) (w : World) (v : Value) (L : List Ev) : Prop := ∃ css : List (List Value), w.ownsRow base 108 7 v L.length css.flatten ∧ Each (IsEvR (fun k => base ≤ k ∧ k < w.heap.size) w) css L

/-- An event that is read alone. -/
def IsEvB (w : World) (cs : List Value) (e : Ev) : Prop := ∃ vd, cs = [.int .i64 e.t, .int .i64 e.kind, .int .i64 e.mode, .int .i64 e.keep, .int .i64 e.torn, S8 e.path, vd] ∧ IsBytes w vd e.data ∧ e.path.length ≤ 10000000
theorem IsEvR.read {R : Nat → Prop} {w : World} {cs : List Value} {e : Ev} (h : IsEvR R w cs e) : IsEvB w cs e := by
  obtain ⟨v, h1, h2, h3⟩ := h
  exact ⟨v, h1, h2.bytes, h3⟩
theorem IsEvB.length {w : World} {cs : List Value} {e : Ev} (h : IsEvB w cs e) : cs.length = 7 ∧ cs.all (·.oneCell') = true := by
  obtain ⟨v, rfl, h2, _⟩ := h
  obtain ⟨_, _, rfl, _⟩ := h2
  exact ⟨rfl, by simp [Value.oneCell']⟩
theorem IsEvB.ext {w w' : World} {cs : List Value} {e : Ev} (h : IsEvB w cs e) (hx : Ext w w') : IsEvB w' cs e := by
  obtain ⟨v, h1, h2, h3⟩ := h
  exact ⟨v, h1, h2.ext hx, h3⟩
def ReadB (w : World) (v : Value) (L : List Ev) : Prop := ∃ css : List (List Value), Row w v L.length css.flatten ∧ Each (IsEvB w) css L
theorem ReadB.ext {w w' : World} {v : Value} {L : List Ev} (h : ReadB w v L) (hx : Ext w w') : ReadB w' v L := by
  obtain ⟨css, h1, h2⟩ := h
  exact ⟨css, h1.ext hx, h2.imp (fun c x hc => hc.ext hx)⟩
theorem OwnL.read {R : Nat → Prop} {w : World} {v : Value} {L : List Ev} (h : OwnL w 108 7 (IsEvR R w) v L) (hl : L.length ≤ 10000000) : ReadB w v L := by
  obtain ⟨css, h1, h2⟩ := h
  exact ⟨css, Row.of_owns h1 (by omega), h2.imp (fun c x hc => hc.read)⟩
theorem ReadL.read {R : Nat → Prop} {w : World} {v : Value} {L : List Ev} (h : ReadL w 108 (IsEvR R w) v L) : ReadB w v L := by
  obtain ⟨css, h1, _, h2⟩ := h
  exact ⟨css, h1, h2.imp (fun c x hc => hc.read)⟩

end Go.Proofs.YtdhgmpibjneplaaGreatDoor

/-! fsim.New: a file system without files. No conditions. -/
namespace Go.Proofs.YtdhgmpibjneplaaGreatDoor
open Go Go.RowKit

def newM (room : Int) : Fs := ⟨room, [], [], [], [], 0, [], 0, false⟩
theorem files_made (R : Nat → Prop) (w : World) : IsFiles R (w.alloc (.map #[] 0)) w.heap.size [] :=
  ⟨List.Pairwise.nil, fun e he => by simp at he, fun _ => .slice none 0 0, World.ownsMap_made _ _ _ _, fun e he => by simp at he⟩
theorem new_ok (room : Int) : OkM (newM room) ∧ PlanOk (newM room) := by
  refine ⟨⟨Nat.le_refl _, Nat.le_refl _, Nat.le_refl _, Nat.le_refl _, Nat.le_refl _, ?_, ?_, ?_, rfl, ?_⟩, ⟨Nat.zero_le _, ?_⟩⟩
  · intro e he; cases he
  · intro e he; cases he
  · intro c hc; cases hc
  · intro k s d hk; simp [newM] at hk
  · intro e he; cases he

def NewPost (room : Int) (w : World) (e : Ending) (w' : World) : Prop := (∃ p, e = .returned (.tuple #[p, .int .i64 0]) ∧ IsFs (fun _ => False) (Nu w w') (fun _ => False) w' p (newM room)) ∧ Ext w w'
set_option maxRecDepth 100000 in
set_option maxHeartbeats 1000000 in
theorem new_yes (room : Int) (w : World) (h0 : 0 ≤ room) (h1 : room ≤ 1073741824) :
    Calls Tryz.prog 11 #[.int .i64 room] w (NewPost room w) := by
  have hmm := @run_makeMap Tryz.prog
  go_enter Tryz.func11, Tryz.ntmps11
  go_wp2
  go_ret2
  have hx1 : Ext w (w.alloc (.map #[] 0)) := (Ext.refl _).alloc _
  have hx2 : Ext (w.alloc (.map #[] 0)) ((w.alloc (.map #[] 0)).alloc (.map #[] 0)) := (Ext.refl _).alloc _
  have hx3 : Ext ((w.alloc (.map #[] 0)).alloc (.map #[] 0)) (((w.alloc (.map #[] 0)).alloc (.map #[] 0)).alloc (.cells (fsCells room w.heap.size (w.heap.size + 1) (.slice none 0 0) (.slice none 0 0) 0 (.slice none 0 0) 0 false) 84)) := (Ext.refl _).alloc _
  have hg := alloc_at ((w.alloc (.map #[] 0)).alloc (.map #[] 0)) (.cells (fsCells room w.heap.size (w.heap.size + 1) (.slice none 0 0) (.slice none 0 0) 0 (.slice none 0 0) 0 false) 84)
  have e1 : (w.alloc (.map #[] 0)).heap.size = w.heap.size + 1 := by simp
  have e2 : ((w.alloc (.map #[] 0)).alloc (.map #[] 0)).heap.size = w.heap.size + 2 := by simp
  have f1 := (files_made (fun _ => False) w).ext (hx2.trans hx3)
  have f2 := (files_made (fun _ => False) (w.alloc (.map #[] 0))).ext hx3
  rw [e1] at f2
  rw [e2] at hg
  have hs : (((w.alloc (.map #[] 0)).alloc (.map #[] 0)).alloc (.cells (fsCells room w.heap.size (w.heap.size + 1) (.slice none 0 0) (.slice none 0 0) 0 (.slice none 0 0) 0 false) 84)).heap.size = w.heap.size + 3 := by simp
  refine ⟨⟨_, rfl, w.heap.size + 2, w.heap.size, w.heap.size + 1, .slice none 0 0, .slice none 0 0, .slice none 0 0, [], 0, by simp, hg, ⟨by omega, by simp <;> omega⟩, ?_, rfl, Nat.le_refl _, Nat.zero_le _⟩, (hx1.trans hx2).trans hx3⟩
  exact ⟨by omega, ⟨by omega, by simp <;> omega⟩, ⟨by omega, by simp <;> omega⟩, f1, f2, ⟨[], World.ownsRow_nil _ _ _ _, Each.nil _⟩, Inn.nil _ _ _, ⟨[], Row.nil _, Typed.nil _ _ _ _, Each.nil _⟩, Inn.nil _ _ _, ⟨[], World.ownsRow_nil _ _ _ _, Each.nil _⟩, Inn.nil _ _ _, fun k hk => by simp [Value.ownBlock] at hk⟩


end Go.Proofs.YtdhgmpibjneplaaGreatDoor

/-! What holds of the files behind any operations, crashes among them: no file under another one, modes, times, the room: in plain Lean. Conditions: as each theorem states. -/
namespace Go.Proofs.YtdhgmpibjneplaaGreatDoor
open Go Go.RowKit

/-! ### Bytes of files -/
theorem usedF_ins (x : B8 × Fi) : ∀ l : Files, usedF (insF x l) = x.2.data.length + usedF l
  | [] => by simp [insF, usedF]
  | y :: r => by
    unfold insF
    split
    · simp [usedF]
    · have := usedF_ins x r
      simp only [usedF, List.map_cons, List.sum_cons] at *
      omega
theorem delF_none {l : Files} {p : B8} (h : ∀ e ∈ l, e.1 ≠ p) : delF l p = l := List.filter_eq_self.2 (fun e he => by simpa using h e he)
theorem usedF_del {l : Files} (h : Rising l) (p : B8) : usedF (delF l p) + oldLen l p = usedF l := by
  induction l with
  | nil => rfl
  | cons y r ih =>
    obtain ⟨h1, h2⟩ := List.pairwise_cons.1 h
    have ih := ih h2
    by_cases hy : y.1 = p
    · have hr : delF r p = r := delF_none (fun e he => by rw [← hy]; exact (ltB_ne (h1 e he)).symm)
      have e1 : delF (y :: r) p = r := by
        unfold delF at *
        rw [List.filter_cons, hr]
        simp [hy]
      have e2 : oldLen (y :: r) p = y.2.data.length := by unfold oldLen look; simp [hy]
      rw [e1, e2]
      simp only [usedF, List.map_cons, List.sum_cons]
      omega
    · have e1 : delF (y :: r) p = y :: delF r p := by unfold delF; rw [List.filter_cons]; simp [hy]
      have e2 : oldLen (y :: r) p = oldLen r p := by unfold oldLen look; simp [hy]
      rw [e1, e2]
      simp only [usedF, List.map_cons, List.sum_cons] at *
      omega
theorem usedF_put {l : Files} (h : Rising l) (p : B8) (f : Fi) : usedF (putF l p f) + oldLen l p = usedF l + f.data.length := by
  have h1 := usedF_ins (p, f) (delF l p)
  have h2 := usedF_del h p
  unfold putF
  simp only at h1
  omega
theorem mem_put {l : Files} {p : B8} {f : Fi} {e : B8 × Fi} : e ∈ putF l p f ↔ e = (p, f) ∨ (e ∈ l ∧ e.1 ≠ p) := by
  unfold putF
  rw [mem_insF]
  simp [delF]
theorem mem_del {l : Files} {p : B8} {e : B8 × Fi} : e ∈ delF l p ↔ e ∈ l ∧ e.1 ≠ p := by simp [delF]

/-! ### Paths -/
theorem not_under_self (p : B8) : isUnder p p = false := by
  cases h : isUnder p p with
  | false => rfl
  | true =>
    obtain ⟨r, hr⟩ := (under_iff p p).1 h
    have := congrArg List.length hr
    simp at this
theorem may_spec {l : Files} {p but : B8} (h : mayF l p but = true) : ∀ e ∈ l, e.1 ≠ but → isUnder e.1 p = false ∧ isUnder p e.1 = false := by
  intro e he hb
  unfold mayF at h
  simp only [Bool.not_eq_true', List.any_eq_false] at h
  have := h e he
  simpa [hb] using this

/-- Files as they are to be: b: is the room to be kept? t: no file is younger. -/
structure Fine (r : Int) (b : Prop) (t : Nat) (l : Files) : Prop where
  rise : Rising l
  path : ∀ e ∈ l, pathB e.1 = true
  tree : ∀ x ∈ l, ∀ y ∈ l, isUnder x.1 y.1 = false
  mode : ∀ e ∈ l, 1 ≤ e.2.mode ∧ e.2.mode ≤ 3
  time : ∀ e ∈ l, 0 ≤ e.2.time ∧ e.2.time ≤ t
  used : b → (usedF l : Int) ≤ r
theorem Fine.mono {r : Int} {b b' : Prop} {t t' : Nat} {l : Files} (h : Fine r b t l) (hb : b' → b) (ht : t ≤ t') : Fine r b' t' l :=
  ⟨h.rise, h.path, h.tree, h.mode, fun e he => by have := h.time e he; omega, fun hb' => h.used (hb hb')⟩
theorem Fine.nil {r : Int} {b : Prop} {t : Nat} (hr : 0 ≤ r) : Fine r b t [] :=
  ⟨List.Pairwise.nil, fun e he => (by cases he), fun e he => (by cases he), fun e he => (by cases he), fun e he => (by cases he), fun _ => (by simpa [usedF] using hr)⟩
theorem Fine.put {r : Int} {b : Prop} {t : Nat} {l : Files} (h : Fine r b t l) {p : B8} {f : Fi} (hp : pathB p = true) (hm : 1 ≤ f.mode ∧ f.mode ≤ 3) (ht : 0 ≤ f.time ∧ f.time ≤ t) (hmay : look l p = none → mayF l p [] = true)
    (hu : b → (f.data.length : Int) ≤ r - usedF l + oldLen l p) : Fine r b t (putF l p f) := by
  have hmem : ∀ e ∈ putF l p f, e = (p, f) ∨ (e ∈ l ∧ e.1 ≠ p) := fun e he => mem_put.1 he
  have hno : ∀ e ∈ l, isUnder e.1 p = false ∧ isUnder p e.1 = false := by
    intro e he
    cases hl : look l p with
    | none => exact may_spec (hmay hl) e he (path_ne (h.path e he))
    | some f0 => exact ⟨h.tree e he _ (look_mem hl), h.tree _ (look_mem hl) e he⟩
  refine ⟨h.rise.put p f, fun e he => ?_, fun x hx y hy => ?_, fun e he => ?_, fun e he => ?_, fun hb => ?_⟩
  · rcases hmem e he with rfl | he
    · exact hp
    · exact h.path e he.1
  · rcases hmem x hx with rfl | hx <;> rcases hmem y hy with rfl | hy
    · exact not_under_self p
    · exact (hno y hy.1).2
    · exact (hno x hx.1).1
    · exact h.tree x hx.1 y hy.1
  · rcases hmem e he with rfl | he
    · exact hm
    · exact h.mode e he.1
  · rcases hmem e he with rfl | he
    · exact ht
    · exact h.time e he.1
  · have := usedF_put h.rise p f
    have := hu hb
    omega
theorem Fine.del {r : Int} {b : Prop} {t : Nat} {l : Files} (h : Fine r b t l) (p : B8) : Fine r b t (delF l p) := by
  have hmem : ∀ e ∈ delF l p, e ∈ l := fun e he => (mem_del.1 he).1
  refine ⟨h.rise.del p, fun e he => h.path e (hmem e he), fun x hx y hy => h.tree x (hmem x hx) y (hmem y hy), fun e he => h.mode e (hmem e he), fun e he => h.time e (hmem e he), fun hb => ?_⟩
  have := usedF_del h.rise p
  have := h.used hb
  omega
theorem Fine.mv {r : Int} {b : Prop} {t : Nat} {l : Files} (h : Fine r b t l) {s d : B8} {x : Fi} (hs : look l s = some x) (hd : pathB d = true) (hmay : look l d = none → mayF l d s = true) : Fine r b t (putF (delF l s) d x) := by
  have hmem : ∀ e ∈ putF (delF l s) d x, e = (d, x) ∨ (e ∈ l ∧ e.1 ≠ s) := fun e he => (mem_put.1 he).imp id (fun h => mem_del.1 h.1)
  have hx := look_mem hs
  have hno : ∀ e ∈ l, e.1 ≠ s → isUnder e.1 d = false ∧ isUnder d e.1 = false := by
    intro e he hne
    cases hl : look l d with
    | none => exact may_spec (hmay hl) e he hne
    | some f0 => exact ⟨h.tree e he _ (look_mem hl), h.tree _ (look_mem hl) e he⟩
  refine ⟨(h.rise.del s).put d x, fun e he => ?_, fun x hx y hy => ?_, fun e he => ?_, fun e he => ?_, fun hb => ?_⟩
  · rcases hmem e he with rfl | he
    · exact hd
    · exact h.path e he.1
  · rcases hmem x hx with rfl | hx <;> rcases hmem y hy with rfl | hy
    · exact not_under_self d
    · exact (hno y hy.1 hy.2).2
    · exact (hno x hx.1 hx.2).1
    · exact h.tree x hx.1 y hy.1
  · rcases hmem e he with rfl | he
    · exact h.mode (s, x) hx
    · exact h.mode e he.1
  · rcases hmem e he with rfl | he
    · exact h.time (s, x) hx
    · exact h.time e he.1
  · have h1 := usedF_put (h.rise.del s) d x
    have h2 := usedF_del h.rise s
    have h3 := h.used hb
    have h4 : oldLen l s = x.data.length := by unfold oldLen; rw [hs]
    omega

/-! ### At all times -/
def FineM (m : Fs) : Prop := ∀ k, Fine m.room (m.users = []) m.time ((m.pend.take k).foldl ap m.sure)
theorem FineM.now {m : Fs} (h : FineM m) (hok : OkM m) : Fine m.room (m.users = []) m.time m.now := by
  have := h m.pend.length
  rwa [List.take_length, hok.fold] at this
theorem FineM.same {m m' : Fs} (h : FineM m) (h1 : m'.sure = m.sure) (h2 : m'.pend = m.pend) (h3 : m'.room = m.room) (h4 : m'.users = m.users) (h5 : m'.time = m.time) : FineM m' := by
  intro k
  rw [h1, h2, h3, h4, h5]
  exact h k
/-- A file system behind operations. -/
def playM (room : Int) (l : List Opn) : Fs := l.foldl stepM (newM room)
end Go.Proofs.YtdhgmpibjneplaaGreatDoor
