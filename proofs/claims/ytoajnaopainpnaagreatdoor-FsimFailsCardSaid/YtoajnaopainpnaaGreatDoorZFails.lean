/- marlaw5.FsimFails: whatever the input, the law returns true, and the input reads as it did: its row's statement and its tied card. Conditions: what the row lists: the library's variables hold what the program's text lays. -/
import Derived.Test.YtoajnaopainpnaaGreatDoorZaj
import Derived.Test.YtoajnaopainpnaaGreatDoorZai

set_option linter.unusedVariables false
set_option linter.unusedSimpArgs false
set_option linter.unusedSectionVars false

/-! marlaw5.FsimFails: true at any room, any operations, any path, data, kind of event. Conditions: as each theorem states. -/
namespace Go.Proofs.YtoajnaopainpnaaGreatDoor
open Go Go.RowKit
variable [Inhabited BaseW]

theorem read_one {w : World} {g : Nat} {e : Ev} {fr : Nat × Nat} (hd : e.data = []) (hp : e.path.length ≤ 1000000) (h : w.heap[g]? = some (.cells #[.int .i64 e.t, .int .i64 e.kind, .int .i64 e.mode, .int .i64 e.keep, .int .i64 e.torn, S8 e.path, .slice none 0 0] 63 fr)) : ReadB w (.slice (some ⟨g, 0, none⟩) 1 1) [e] := by
  refine ⟨[[.int .i64 e.t, .int .i64 e.kind, .int .i64 e.mode, .int .i64 e.keep, .int .i64 e.torn, S8 e.path, .slice none 0 0]], Row.new h (by omega) _ rfl, rfl, fun i c x hc hx => ?_⟩
  cases i with
  | succ i => simp at hc
  | zero =>
    simp only [List.getElem?_cons_zero, Option.some.injEq] at hc hx
    subst hc hx
    exact ⟨_, rfl, by rw [hd]; exact IsBytes.nil w, hp⟩

set_option maxRecDepth 100000 in
set_option maxHeartbeats 16000000 in
theorem fails_any (room : Int) (v : Value) (l : List Opn) (path : B8) (vd : Value) (data : B8) (kind : Int) (w : World) (hb : Ext baseW w) (hE : Env w) (hv : IsOps w v l) (hi : ∀ o ∈ l, I64 o.keep ∧ I64 o.torn ∧ ∀ e ∈ o.plan, I64 e.keep ∧ I64 e.torn) (hd : OldB vd data) :
    Calls Tryz.prog 7 #[.int .i64 room, v, S8 path, vd, .int .i64 kind] w fun e w' => e = .returned (.bool true) ∧ Ext w w' := by
  obtain ⟨a0, cap, rfl, h1, h2, h3, -⟩ := ops_cells hv
  obtain ⟨d1, d2, rfl, -⟩ := OldB.at hd hb
  have HD : Hid _ := hd
  have HV : Hid _ := hv
  have HI : Hid _ := hi
  have HE : Hid _ := hE
  have HB : Hid _ := hb
  clear hv hi hE hb hd
  go_enter Tryz.func7, Tryz.ntmps7
  go_wp2_with fail
  go_at_call 10
  refine (first_any w HE.out).mono ?_
  rintro e w1 ⟨rfl, hx1⟩
  have HE1 : Hid _ := HE.out.ext hx1
  go_wp2_with fail
  go_at_call 11
  refine (played_any room _ l w1 (Ext.trans HB.out hx1) HE1.out (IsOps.ext HV.out hx1) HI.out).mono ?_
  rintro e w2 ⟨hr, hx2⟩
  have HE2 : Hid _ := HE1.out.ext hx2
  have hx02 := hx1.trans hx2
  rcases hr with rfl | ⟨g, S, O, rfl, hOne, hG, hF, hR⟩
  · go_wp2_with fail
    go_at_call 10
    refine (first_any _ HE2.out).mono ?_
    rintro e wz ⟨rfl, hxz⟩
    go_wp2
    go_ret
    exact ⟨rfl, hx02.trans hxz⟩
  · obtain ⟨m, hm⟩ : ∃ m, playM room l = m := ⟨_, rfl⟩
    rw [hm] at hOne hG hF hR
    have HP0 : Hid (Pile w w2 [(0, .fs (.pointer (some ⟨g, 0, none⟩)) m)]) := Pile.base (Pile.one hOne 0) hx1
    have HX02 : Hid _ := hx02
    have HG : Hid _ := hG
    clear hm hOne hG hF hR hx1 hx2 hx02
    by_cases ha : (400 : Int) < (path.length : Int)
    · go_wp2_with fail
      go_at_call 10
      refine (first_any _ HE2.out).mono ?_
      rintro e wz ⟨rfl, hxz⟩
      go_wp2
      go_ret
      exact ⟨rfl, Ext.trans HX02.out hxz⟩
    by_cases hb : (3000 : Int) < (data.length : Int)
    · go_wp2_with fail
      go_at_call 10
      refine (first_any _ HE2.out).mono ?_
      rintro e wz ⟨rfl, hxz⟩
      go_wp2
      go_ret
      exact ⟨rfl, Ext.trans HX02.out hxz⟩
    obtain ⟨S1, O1, hO1, hbk1, hbl1⟩ := Pile.post HP0.out 0 (f := (.pointer (some ⟨g, 0, none⟩))) (m := m) (by simp)
    go_wp2_with fail
    go_at_call 28
    refine (reboot_any hO1.fs).mono ?_
    rintro e w3 ⟨rfl, h4⟩
    have HP3 : Hid (Pile w w3 [(0, .fs (.pointer (some ⟨g, 0, none⟩)) (rebootM m))]) := hbk1 _ _ _ h4 (by intro y hy; simp only [List.mem_cons, List.not_mem_nil, or_false] at hy ⊢; rcases hy with rfl <;> simp)
    clear h4
    clear hO1 hbk1 hbl1
    have HG1 : Hid (Good 100 (rebootM m)) := good_reboot HG.out
    have hd1 : (rebootM m).down = false := rfl
    generalize rebootM m = m1 at *
    obtain ⟨c0, hc0⟩ : ∃ c, m1.calls = c := ⟨_, rfl⟩
    have hcl := HG1.out.calls
    rw [hc0] at hcl
    have HD1 : Hid _ := hd1
    have HC0 : Hid _ := hc0
    clear hd1 hc0
    obtain ⟨S1, O1, hO1, hbk1, hbl1⟩ := Pile.post HP3.out 0 (f := (.pointer (some ⟨g, 0, none⟩))) (m := m1) (by simp)
    go_wp2_with fail
    go_at_call 23
    refine (calls_any hO1.fs).mono ?_
    rw [HC0.out]
    rintro e w4 ⟨rfl, rfl⟩
    clear hO1 hbk1 hbl1
    go_wp2_with fail
    obtain ⟨wa, hwa⟩ : ∃ wa, wa = w4.alloc (.cells #[.int .i64 ((c0 : Int) + 1), .int .i64 kind, .int .i64 0, .int .i64 0, .int .i64 0, S8 [], .slice none 0 0] 63) := ⟨_, rfl⟩
    rw [← hwa]
    have hxa : Ext w4 wa := by rw [hwa]; exact (Ext.refl _).alloc _
    have hba : wa.heap[w4.heap.size]? = some (.cells #[.int .i64 ((c0 : Int) + 1), .int .i64 kind, .int .i64 0, .int .i64 0, .int .i64 0, S8 [], .slice none 0 0] 63 (0, 0)) := by rw [hwa]; exact alloc_at _ _
    have HRB : Hid (ReadB wa (.slice (some ⟨w4.heap.size, 0, none⟩) 1 1) [(⟨(c0 : Int) + 1, kind, 0, 0, 0, [], []⟩ : Ev)]) := read_one rfl (by simp) hba
    have HPa : Hid (Pile w wa [(0, .fs (.pointer (some ⟨g, 0, none⟩)) m1)]) := Pile.more HP3.out hxa
    clear hwa hxa hba
    obtain ⟨gb, hgb⟩ : ∃ k, w4.heap.size = k := ⟨_, rfl⟩
    rw [hgb] at HRB ⊢
    clear hgb
    obtain ⟨S1, O1, hO1, hbk1, hbl1⟩ := Pile.post HPa.out 0 (f := (.pointer (some ⟨g, 0, none⟩))) (m := m1) (by simp)
    go_at_call 27
    refine (plan_any hO1.fs (fun k hk => (hO1.lo k hk).2) HRB.out (by simp)).mono ?_
    rintro e w5 ⟨rfl, hf5, hfr5⟩
    have HP5 : Hid (Pile w w5 [(0, .fs (.pointer (some ⟨g, 0, none⟩)) (planM m1 [(⟨(c0 : Int) + 1, kind, 0, 0, 0, [], []⟩ : Ev)]))]) := hbl1 _ _ _ hf5 hfr5 (by intro y hy; simp only [List.mem_cons, List.not_mem_nil, or_false] at hy ⊢; rcases hy with rfl <;> simp)
    clear hf5 hfr5
    clear hO1 hbk1 hbl1
    have hpl : (planM m1 [(⟨(c0 : Int) + 1, kind, 0, 0, 0, [], []⟩ : Ev)]).plan = [(⟨(c0 : Int) + 1, kind, 0, 0, 0, [], []⟩ : Ev)] := by
      unfold planM
      rw [HC0.out]
      simp only [List.filter_cons, List.filter_nil]
      rw [if_pos (by simp only [decide_eq_true_eq]; omega)]
    have HG2 : Hid (Good 100 (planM m1 [(⟨(c0 : Int) + 1, kind, 0, 0, 0, [], []⟩ : Ev)])) := good_plan HG1.out (by simp) (fun e he => by rw [List.mem_singleton] at he; subst he; exact ⟨(show I64 0 from ⟨by decide, by decide⟩), (show I64 0 from ⟨by decide, by decide⟩), Nat.zero_le _⟩)
    have hd2 : (planM m1 [(⟨(c0 : Int) + 1, kind, 0, 0, 0, [], []⟩ : Ev)]).down = false := HD1.out
    have hc2 : (planM m1 [(⟨(c0 : Int) + 1, kind, 0, 0, 0, [], []⟩ : Ev)]).calls = c0 := HC0.out
    have HPL : Hid _ := hpl
    have HD2 : Hid _ := hd2
    have HC2 : Hid _ := hc2
    clear hpl hd2 hc2
    generalize planM m1 [(⟨(c0 : Int) + 1, kind, 0, 0, 0, [], []⟩ : Ev)] = m2 at *
    obtain ⟨S1, O1, hO1, hbk1, hbl1⟩ := Pile.post HP5.out 0 (f := (.pointer (some ⟨g, 0, none⟩))) (m := m2) (by simp)
    go_wp2_with fail
    go_at_call 30
    refine (copy_any hO1.fs HG2.out.ok (by have := HG2.out.time; omega) (by have := HG2.out.calls; omega)).mono ?_
    rintro e w6 ⟨⟨p', S', O9, rfl, hf', hS', hO'⟩, hx6⟩
    obtain ⟨-, -, g5, rfl⟩ := hf'.rise
    have HP6 : Hid (Pile w w6 [(1, .fs (.pointer (some ⟨g5, 0, none⟩)) m2), (0, .fs (.pointer (some ⟨g, 0, none⟩)) m2)]) := Pile.addCopy HP5.out 1 (by simp) hx6 hf' hS' hO'
    clear hf' hS' hO' hx6
    clear hO1 hbk1 hbl1
    obtain ⟨S1, O1, hO1, hbk1, hbl1⟩ := Pile.post HP6.out 0 (f := (.pointer (some ⟨g, 0, none⟩))) (m := m2) (by simp)
    go_wp2_with fail
    go_at_call 30
    refine (copy_any hO1.fs HG2.out.ok (by have := HG2.out.time; omega) (by have := HG2.out.calls; omega)).mono ?_
    rintro e w7 ⟨⟨p', S', O9, rfl, hf', hS', hO'⟩, hx7⟩
    obtain ⟨-, -, g6, rfl⟩ := hf'.rise
    have HP7 : Hid (Pile w w7 [(2, .fs (.pointer (some ⟨g6, 0, none⟩)) m2), (1, .fs (.pointer (some ⟨g5, 0, none⟩)) m2), (0, .fs (.pointer (some ⟨g, 0, none⟩)) m2)]) := Pile.addCopy HP6.out 2 (by simp) hx7 hf' hS' hO'
    clear hf' hS' hO' hx7
    clear hO1 hbk1 hbl1
    obtain ⟨S1, O1, hO1, hbk1, hbl1⟩ := Pile.post HP7.out 2 (f := (.pointer (some ⟨g6, 0, none⟩))) (m := m2) (by simp)
    go_wp2_with fail
    go_at_call 27
    refine (plan_any hO1.fs (fun k hk => (hO1.lo k hk).2) (readB_nil _) (Nat.zero_le _)).mono ?_
    rintro e w8 ⟨rfl, hf8, hfr8⟩
    have HP8 : Hid (Pile w w8 [(2, .fs (.pointer (some ⟨g6, 0, none⟩)) (planM m2 [])), (1, .fs (.pointer (some ⟨g5, 0, none⟩)) m2), (0, .fs (.pointer (some ⟨g, 0, none⟩)) m2)]) := hbl1 _ _ _ hf8 hfr8 (by intro y hy; simp only [List.mem_cons, List.not_mem_nil, or_false] at hy ⊢; rcases hy with rfl | rfl | rfl <;> simp)
    clear hf8 hfr8
    clear hO1 hbk1 hbl1
    have HG3 : Hid (Good 100 (planM m2 [])) := good_plan HG2.out (L := []) (Nat.zero_le _) (fun e he => by cases he)
    have HE8 : Hid _ := HE.out.ext HP8.out.ext
    by_cases hk : kind = 2 ∨ kind = 3
    case neg =>
      have k2 : (kind != 2) = true := by simp only [bne_iff_ne, ne_eq]; omega
      have k3 : (kind != 3) = true := by simp only [bne_iff_ne, ne_eq]; omega
      go_wp2_with fail
      go_at_call 10
      refine (first_any _ HE8.out).mono ?_
      rintro e wz ⟨rfl, hxz⟩
      go_wp2
      go_ret
      exact ⟨rfl, Ext.trans HP8.out.ext hxz⟩
    rcases hk with rfl | rfl
    · have HF : Hid _ := fails (m := m2) (ev := (⟨(c0 : Int) + 1, (2 : Int), 0, 0, 0, [], []⟩ : Ev)) (path := path) (data := data) HD2.out HPL.out (by rw [HC2.out]; rfl) (.inl rfl)
      have HG4 : Hid (Good 101 (writeM m2 path 1 data).1) := HG2.out.left (left_putN HG2.out.ok HG2.out.few) (by unfold writeM; rw [put_calls, (call_leftN HG2.out.ok HG2.out.few).2]; have := HG2.out.calls; omega)
      have HG5 : Hid (Good 101 (writeM (planM m2 []) path 1 data).1) := HG3.out.left (left_putN HG3.out.ok HG3.out.few) (by unfold writeM; rw [put_calls, (call_leftN HG3.out.ok HG3.out.few).2]; have := HG3.out.calls; omega)
      have HG6 : Hid (Good 102 (writeM (writeM m2 path 1 data).1 path 1 data).1) := HG4.out.left (left_putN HG4.out.ok HG4.out.few) (by have h9 := HG4.out.calls; have h8 := (call_leftN HG4.out.ok HG4.out.few).2; show (putM (callM (writeM m2 path 1 data).1) path 1 data false).1.calls ≤ _; rw [put_calls, h8]; omega)
      have HEX : Hid (∀ {w9 : World}, Ext w w9 → Ext baseW w9) := fun h => Ext.trans HB.out h
      have HLB : Hid (baseW.heap.size ≤ w.heap.size) := HB.out.size
      obtain ⟨S1, O1, hO1, hbk1, hbl1⟩ := Pile.post HP8.out 0 (f := (.pointer (some ⟨g, 0, none⟩))) (m := m2) (by simp)
      have HW1 : Hid _ := write_any path 1 _ data (One.fin hO1 HE.out HG2.out (by omega)) (by omega) (OldB.at HD.out (HEX.out HP8.out.ext)) (OldB.out HD.out (fun k hk => Nat.le_trans HLB.out (hO1.lo k hk).1))
      obtain ⟨m4, hm4⟩ : ∃ x, (writeM m2 path 1 data).1 = x := ⟨_, rfl⟩
      obtain ⟨e4, he4⟩ : ∃ x, (writeM m2 path 1 data).2 = x := ⟨_, rfl⟩
      obtain ⟨m5, hm5⟩ : ∃ x, (writeM (planM m2 []) path 1 data).1 = x := ⟨_, rfl⟩
      obtain ⟨e5, he5⟩ : ∃ x, (writeM (planM m2 []) path 1 data).2 = x := ⟨_, rfl⟩
      rw [hm4] at HW1 HF HG4 HG6
      rw [he4] at HW1 HF
      rw [hm5] at HF HG5
      rw [he5] at HF
      obtain ⟨m6, hm6⟩ : ∃ x, (writeM m4 path 1 data).1 = x := ⟨_, rfl⟩
      obtain ⟨e6, he6⟩ : ∃ x, (writeM m4 path 1 data).2 = x := ⟨_, rfl⟩
      rw [hm6] at HF HG6
      rw [he6] at HF
      have HM5 : Hid _ := hm5
      have HE5 : Hid _ := he5
      have HM6 : Hid _ := hm6
      have HE6 : Hid _ := he6
      clear hm4 he4 hm5 he5 hm6 he6
      go_wp2_with fail
      go_at_call 39
      refine Calls.mono HW1.out ?_
      rintro e w9 ⟨rfl, h9⟩
      have HP9 : Hid (Pile w w9 [(2, .fs (.pointer (some ⟨g6, 0, none⟩)) (planM m2 [])), (1, .fs (.pointer (some ⟨g5, 0, none⟩)) m2), (0, .fs (.pointer (some ⟨g, 0, none⟩)) m4)]) := hbk1 _ _ _ h9 (by intro y hy; simp only [List.mem_cons, List.not_mem_nil, or_false] at hy ⊢; rcases hy with rfl | rfl | rfl <;> simp)
      clear h9
      clear hO1 hbk1 hbl1
      obtain ⟨S1, O1, hO1, hbk1, hbl1⟩ := Pile.post HP9.out 2 (f := (.pointer (some ⟨g6, 0, none⟩))) (m := (planM m2 [])) (by simp)
      go_wp2_with fail
      go_at_call 39
      refine (write_any path 1 _ data (One.fin hO1 HE.out HG3.out (by omega)) (by omega) (OldB.at HD.out (HEX.out HP9.out.ext)) (OldB.out HD.out (fun k hk => Nat.le_trans HLB.out (hO1.lo k hk).1))).mono ?_
      rw [HM5.out, HE5.out]
      rintro e wA ⟨rfl, h9⟩
      have HPA : Hid (Pile w wA [(2, .fs (.pointer (some ⟨g6, 0, none⟩)) m5), (1, .fs (.pointer (some ⟨g5, 0, none⟩)) m2), (0, .fs (.pointer (some ⟨g, 0, none⟩)) m4)]) := hbk1 _ _ _ h9 (by intro y hy; simp only [List.mem_cons, List.not_mem_nil, or_false] at hy ⊢; rcases hy with rfl | rfl | rfl <;> simp)
      clear h9
      clear hO1 hbk1 hbl1
      have HAL : Hid (m4.now = m2.now ∧ m4.time = m2.time) := by have := HF.out.same; rw [this]; exact ⟨rfl, rfl⟩
      have ht4 : m4.time = m2.time := HAL.out.2
      have hno := HF.out.no
      have hbr := HF.out.broken
      have hfu := HF.out.full
      have hag := HF.out.again
      have hco := HF.out.count
      obtain rfl : e6 = e5 := hag
      obtain ⟨c5, hc5⟩ : ∃ c, m5.calls = c := ⟨_, rfl⟩
      obtain ⟨c6, hc6⟩ : ∃ c, m6.calls = c := ⟨_, rfl⟩
      rw [hc5, hc6] at hco
      have hcl5 := HG5.out.calls
      rw [hc5] at hcl5
      have HC5 : Hid _ := hc5
      have HC6 : Hid _ := hc6
      clear hc5 hc6
      obtain ⟨t4, ht4'⟩ : ∃ t, m2.time = t := ⟨_, rfl⟩
      rw [ht4'] at ht4
      have HT2 : Hid _ := ht4'
      have HT4 : Hid _ := ht4
      clear ht4 ht4'
      have b0 : (e4 == 0) = false := by simpa using hno
      clear HW1 hbr hno
      by_cases h6 : e6 = 0
      · obtain rfl : e4 = 10 := hfu rfl h6
        subst h6
        clear hfu b0
        obtain ⟨S1, O1, hO1, hbk1, hbl1⟩ := Pile.post HPA.out 0 (f := (.pointer (some ⟨g, 0, none⟩))) (m := m4) (by simp)
        obtain ⟨S2, O2, hO2, hbk2, hbl2⟩ := Pile.post HPA.out 1 (f := (.pointer (some ⟨g5, 0, none⟩))) (m := m2) (by simp)
        go_wp2_with fail
        go_at_call 33
        refine (alike_any hO1.fs hO2.fs (by have := HG4.out.ok.lnow; have := HG4.out.time; omega) (by have := HG2.out.ok.lnow; have := HG2.out.time; omega)).mono ?_
        rintro e wB ⟨⟨r, rfl, hr⟩, hxB⟩
        obtain rfl : r = true := hr.2 HAL.out.1
        have HPB : Hid _ := Pile.more HPA.out hxB
        clear hr hxB
        clear hO1 hbk1 hbl1
        clear hO2 hbk2 hbl2
        obtain ⟨S1, O1, hO1, hbk1, hbl1⟩ := Pile.post HPB.out 0 (f := (.pointer (some ⟨g, 0, none⟩))) (m := m4) (by simp)
        obtain ⟨S2, O2, hO2, hbk2, hbl2⟩ := Pile.post HPB.out 1 (f := (.pointer (some ⟨g5, 0, none⟩))) (m := m2) (by simp)
        go_wp2_with fail
        go_at_call 17
        refine (now_any hO1.fs).mono ?_
        rw [HT4.out]
        rintro e wC ⟨rfl, rfl⟩
        go_wp2_with fail
        go_at_call 17
        refine (now_any hO2.fs).mono ?_
        rw [HT2.out]
        rintro e wC ⟨rfl, rfl⟩
        clear hO1 hbk1 hbl1
        clear hO2 hbk2 hbl2
        go_wp2_with fail
        go_at_call 10
        refine (first_any _ (HE.out.ext HPB.out.ext)).mono ?_
        rintro e wD ⟨rfl, hxD⟩
        have HPD : Hid _ := Pile.more HPB.out hxD
        clear hxD
        obtain ⟨S1, O1, hO1, hbk1, hbl1⟩ := Pile.post HPD.out 0 (f := (.pointer (some ⟨g, 0, none⟩))) (m := m4) (by simp)
        go_wp2_with fail
        go_at_call 39
        refine (write_any path 1 _ data (One.fin hO1 HE.out HG4.out (by omega)) (by omega) (OldB.at HD.out (HEX.out HPD.out.ext)) (OldB.out HD.out (fun k hk => Nat.le_trans HLB.out (hO1.lo k hk).1))).mono ?_
        rw [HM6.out, HE6.out]
        rintro e wE ⟨rfl, h9⟩
        have HPE : Hid (Pile w wE [(2, .fs (.pointer (some ⟨g6, 0, none⟩)) m5), (1, .fs (.pointer (some ⟨g5, 0, none⟩)) m2), (0, .fs (.pointer (some ⟨g, 0, none⟩)) m6)]) := hbk1 _ _ _ h9 (by intro y hy; simp only [List.mem_cons, List.not_mem_nil, or_false] at hy ⊢; rcases hy with rfl | rfl | rfl <;> simp)
        clear h9
        clear hO1 hbk1 hbl1
        obtain ⟨S1, O1, hO1, hbk1, hbl1⟩ := Pile.post HPE.out 0 (f := (.pointer (some ⟨g, 0, none⟩))) (m := m6) (by simp)
        obtain ⟨S2, O2, hO2, hbk2, hbl2⟩ := Pile.post HPE.out 2 (f := (.pointer (some ⟨g6, 0, none⟩))) (m := m5) (by simp)
        go_wp2_with fail
        go_at_call 33
        refine (alike_any hO1.fs hO2.fs (by have := HG6.out.ok.lnow; have := HG6.out.time; omega) (by have := HG5.out.ok.lnow; have := HG5.out.time; omega)).mono ?_
        rintro e wF ⟨⟨r, rfl, hr⟩, hxF⟩
        obtain rfl : r = true := hr.2 HF.out.alike
        have HPF : Hid _ := Pile.more HPE.out hxF
        clear hr hxF
        clear hO1 hbk1 hbl1
        clear hO2 hbk2 hbl2
        obtain ⟨S1, O1, hO1, hbk1, hbl1⟩ := Pile.post HPF.out 0 (f := (.pointer (some ⟨g, 0, none⟩))) (m := m6) (by simp)
        obtain ⟨S2, O2, hO2, hbk2, hbl2⟩ := Pile.post HPF.out 2 (f := (.pointer (some ⟨g6, 0, none⟩))) (m := m5) (by simp)
        go_wp2_with fail
        go_at_call 23
        refine (calls_any hO1.fs).mono ?_
        rw [HC6.out]
        rintro e wC ⟨rfl, rfl⟩
        go_wp2_with fail
        go_at_call 23
        refine (calls_any hO2.fs).mono ?_
        rw [HC5.out]
        rintro e wC ⟨rfl, rfl⟩
        subst hco
        go_wp2
        go_ret
        exact ⟨rfl, HPF.out.ext⟩
      · have b6 : (e6 == 0) = false := by simpa using h6
        have b7 : (e6 != 0) = true := by simpa using h6
        clear hfu h6
        obtain ⟨S1, O1, hO1, hbk1, hbl1⟩ := Pile.post HPA.out 0 (f := (.pointer (some ⟨g, 0, none⟩))) (m := m4) (by simp)
        obtain ⟨S2, O2, hO2, hbk2, hbl2⟩ := Pile.post HPA.out 1 (f := (.pointer (some ⟨g5, 0, none⟩))) (m := m2) (by simp)
        go_wp2_with fail
        go_at_call 33
        refine (alike_any hO1.fs hO2.fs (by have := HG4.out.ok.lnow; have := HG4.out.time; omega) (by have := HG2.out.ok.lnow; have := HG2.out.time; omega)).mono ?_
        rintro e wB ⟨⟨r, rfl, hr⟩, hxB⟩
        obtain rfl : r = true := hr.2 HAL.out.1
        have HPB : Hid _ := Pile.more HPA.out hxB
        clear hr hxB
        clear hO1 hbk1 hbl1
        clear hO2 hbk2 hbl2
        obtain ⟨S1, O1, hO1, hbk1, hbl1⟩ := Pile.post HPB.out 0 (f := (.pointer (some ⟨g, 0, none⟩))) (m := m4) (by simp)
        obtain ⟨S2, O2, hO2, hbk2, hbl2⟩ := Pile.post HPB.out 1 (f := (.pointer (some ⟨g5, 0, none⟩))) (m := m2) (by simp)
        go_wp2_with fail
        go_at_call 17
        refine (now_any hO1.fs).mono ?_
        rw [HT4.out]
        rintro e wC ⟨rfl, rfl⟩
        go_wp2_with fail
        go_at_call 17
        refine (now_any hO2.fs).mono ?_
        rw [HT2.out]
        rintro e wC ⟨rfl, rfl⟩
        clear hO1 hbk1 hbl1
        clear hO2 hbk2 hbl2
        go_wp2_with fail
        go_at_call 10
        refine (first_any _ (HE.out.ext HPB.out.ext)).mono ?_
        rintro e wD ⟨rfl, hxD⟩
        have HPD : Hid _ := Pile.more HPB.out hxD
        clear hxD
        obtain ⟨S1, O1, hO1, hbk1, hbl1⟩ := Pile.post HPD.out 0 (f := (.pointer (some ⟨g, 0, none⟩))) (m := m4) (by simp)
        go_wp2_with fail
        go_at_call 39
        refine (write_any path 1 _ data (One.fin hO1 HE.out HG4.out (by omega)) (by omega) (OldB.at HD.out (HEX.out HPD.out.ext)) (OldB.out HD.out (fun k hk => Nat.le_trans HLB.out (hO1.lo k hk).1))).mono ?_
        rw [HM6.out, HE6.out]
        rintro e wE ⟨rfl, h9⟩
        have HPE : Hid (Pile w wE [(2, .fs (.pointer (some ⟨g6, 0, none⟩)) m5), (1, .fs (.pointer (some ⟨g5, 0, none⟩)) m2), (0, .fs (.pointer (some ⟨g, 0, none⟩)) m6)]) := hbk1 _ _ _ h9 (by intro y hy; simp only [List.mem_cons, List.not_mem_nil, or_false] at hy ⊢; rcases hy with rfl | rfl | rfl <;> simp)
        clear h9
        clear hO1 hbk1 hbl1
        obtain ⟨S1, O1, hO1, hbk1, hbl1⟩ := Pile.post HPE.out 0 (f := (.pointer (some ⟨g, 0, none⟩))) (m := m6) (by simp)
        obtain ⟨S2, O2, hO2, hbk2, hbl2⟩ := Pile.post HPE.out 2 (f := (.pointer (some ⟨g6, 0, none⟩))) (m := m5) (by simp)
        go_wp2_with fail
        go_at_call 23
        refine (calls_any hO1.fs).mono ?_
        rw [HC6.out]
        rintro e wC ⟨rfl, rfl⟩
        go_wp2_with fail
        go_at_call 23
        refine (calls_any hO2.fs).mono ?_
        rw [HC5.out]
        rintro e wC ⟨rfl, rfl⟩
        subst hco
        go_wp2
        go_ret
        exact ⟨rfl, HPE.out.ext⟩
    · have HF : Hid _ := fails (m := m2) (ev := (⟨(c0 : Int) + 1, (3 : Int), 0, 0, 0, [], []⟩ : Ev)) (path := path) (data := data) HD2.out HPL.out (by rw [HC2.out]; rfl) (.inr rfl)
      have HG4 : Hid (Good 101 (writeM m2 path 1 data).1) := HG2.out.left (left_putN HG2.out.ok HG2.out.few) (by unfold writeM; rw [put_calls, (call_leftN HG2.out.ok HG2.out.few).2]; have := HG2.out.calls; omega)
      have HG5 : Hid (Good 101 (writeM (planM m2 []) path 1 data).1) := HG3.out.left (left_putN HG3.out.ok HG3.out.few) (by unfold writeM; rw [put_calls, (call_leftN HG3.out.ok HG3.out.few).2]; have := HG3.out.calls; omega)
      have HG6 : Hid (Good 102 (writeM (writeM m2 path 1 data).1 path 1 data).1) := HG4.out.left (left_putN HG4.out.ok HG4.out.few) (by have h9 := HG4.out.calls; have h8 := (call_leftN HG4.out.ok HG4.out.few).2; show (putM (callM (writeM m2 path 1 data).1) path 1 data false).1.calls ≤ _; rw [put_calls, h8]; omega)
      have HEX : Hid (∀ {w9 : World}, Ext w w9 → Ext baseW w9) := fun h => Ext.trans HB.out h
      have HLB : Hid (baseW.heap.size ≤ w.heap.size) := HB.out.size
      obtain ⟨S1, O1, hO1, hbk1, hbl1⟩ := Pile.post HP8.out 0 (f := (.pointer (some ⟨g, 0, none⟩))) (m := m2) (by simp)
      have HW1 : Hid _ := write_any path 1 _ data (One.fin hO1 HE.out HG2.out (by omega)) (by omega) (OldB.at HD.out (HEX.out HP8.out.ext)) (OldB.out HD.out (fun k hk => Nat.le_trans HLB.out (hO1.lo k hk).1))
      obtain ⟨m4, hm4⟩ : ∃ x, (writeM m2 path 1 data).1 = x := ⟨_, rfl⟩
      obtain ⟨e4, he4⟩ : ∃ x, (writeM m2 path 1 data).2 = x := ⟨_, rfl⟩
      obtain ⟨m5, hm5⟩ : ∃ x, (writeM (planM m2 []) path 1 data).1 = x := ⟨_, rfl⟩
      obtain ⟨e5, he5⟩ : ∃ x, (writeM (planM m2 []) path 1 data).2 = x := ⟨_, rfl⟩
      rw [hm4] at HW1 HF HG4 HG6
      rw [he4] at HW1 HF
      rw [hm5] at HF HG5
      rw [he5] at HF
      obtain ⟨m6, hm6⟩ : ∃ x, (writeM m4 path 1 data).1 = x := ⟨_, rfl⟩
      obtain ⟨e6, he6⟩ : ∃ x, (writeM m4 path 1 data).2 = x := ⟨_, rfl⟩
      rw [hm6] at HF HG6
      rw [he6] at HF
      have HM5 : Hid _ := hm5
      have HE5 : Hid _ := he5
      have HM6 : Hid _ := hm6
      have HE6 : Hid _ := he6
      clear hm4 he4 hm5 he5 hm6 he6
      go_wp2_with fail
      go_at_call 39
      refine Calls.mono HW1.out ?_
      rintro e w9 ⟨rfl, h9⟩
      have HP9 : Hid (Pile w w9 [(2, .fs (.pointer (some ⟨g6, 0, none⟩)) (planM m2 [])), (1, .fs (.pointer (some ⟨g5, 0, none⟩)) m2), (0, .fs (.pointer (some ⟨g, 0, none⟩)) m4)]) := hbk1 _ _ _ h9 (by intro y hy; simp only [List.mem_cons, List.not_mem_nil, or_false] at hy ⊢; rcases hy with rfl | rfl | rfl <;> simp)
      clear h9
      clear hO1 hbk1 hbl1
      obtain ⟨S1, O1, hO1, hbk1, hbl1⟩ := Pile.post HP9.out 2 (f := (.pointer (some ⟨g6, 0, none⟩))) (m := (planM m2 [])) (by simp)
      go_wp2_with fail
      go_at_call 39
      refine (write_any path 1 _ data (One.fin hO1 HE.out HG3.out (by omega)) (by omega) (OldB.at HD.out (HEX.out HP9.out.ext)) (OldB.out HD.out (fun k hk => Nat.le_trans HLB.out (hO1.lo k hk).1))).mono ?_
      rw [HM5.out, HE5.out]
      rintro e wA ⟨rfl, h9⟩
      have HPA : Hid (Pile w wA [(2, .fs (.pointer (some ⟨g6, 0, none⟩)) m5), (1, .fs (.pointer (some ⟨g5, 0, none⟩)) m2), (0, .fs (.pointer (some ⟨g, 0, none⟩)) m4)]) := hbk1 _ _ _ h9 (by intro y hy; simp only [List.mem_cons, List.not_mem_nil, or_false] at hy ⊢; rcases hy with rfl | rfl | rfl <;> simp)
      clear h9
      clear hO1 hbk1 hbl1
      have HAL : Hid (m4.now = m2.now ∧ m4.time = m2.time) := by have := HF.out.same; rw [this]; exact ⟨rfl, rfl⟩
      have ht4 : m4.time = m2.time := HAL.out.2
      have hno := HF.out.no
      have hbr := HF.out.broken
      have hfu := HF.out.full
      have hag := HF.out.again
      have hco := HF.out.count
      obtain rfl : e6 = e5 := hag
      obtain ⟨c5, hc5⟩ : ∃ c, m5.calls = c := ⟨_, rfl⟩
      obtain ⟨c6, hc6⟩ : ∃ c, m6.calls = c := ⟨_, rfl⟩
      rw [hc5, hc6] at hco
      have hcl5 := HG5.out.calls
      rw [hc5] at hcl5
      have HC5 : Hid _ := hc5
      have HC6 : Hid _ := hc6
      clear hc5 hc6
      obtain ⟨t4, ht4'⟩ : ∃ t, m2.time = t := ⟨_, rfl⟩
      rw [ht4'] at ht4
      have HT2 : Hid _ := ht4'
      have HT4 : Hid _ := ht4
      clear ht4 ht4'
      have b0 : (e4 == 0) = false := by simpa using hno
      obtain rfl : e4 = 11 := hbr rfl
      clear HW1 hbr hfu hno b0
      obtain ⟨S1, O1, hO1, hbk1, hbl1⟩ := Pile.post HPA.out 0 (f := (.pointer (some ⟨g, 0, none⟩))) (m := m4) (by simp)
      obtain ⟨S2, O2, hO2, hbk2, hbl2⟩ := Pile.post HPA.out 1 (f := (.pointer (some ⟨g5, 0, none⟩))) (m := m2) (by simp)
      go_wp2_with fail
      go_at_call 33
      refine (alike_any hO1.fs hO2.fs (by have := HG4.out.ok.lnow; have := HG4.out.time; omega) (by have := HG2.out.ok.lnow; have := HG2.out.time; omega)).mono ?_
      rintro e wB ⟨⟨r, rfl, hr⟩, hxB⟩
      obtain rfl : r = true := hr.2 HAL.out.1
      have HPB : Hid _ := Pile.more HPA.out hxB
      clear hr hxB
      clear hO1 hbk1 hbl1
      clear hO2 hbk2 hbl2
      obtain ⟨S1, O1, hO1, hbk1, hbl1⟩ := Pile.post HPB.out 0 (f := (.pointer (some ⟨g, 0, none⟩))) (m := m4) (by simp)
      obtain ⟨S2, O2, hO2, hbk2, hbl2⟩ := Pile.post HPB.out 1 (f := (.pointer (some ⟨g5, 0, none⟩))) (m := m2) (by simp)
      go_wp2_with fail
      go_at_call 17
      refine (now_any hO1.fs).mono ?_
      rw [HT4.out]
      rintro e wC ⟨rfl, rfl⟩
      go_wp2_with fail
      go_at_call 17
      refine (now_any hO2.fs).mono ?_
      rw [HT2.out]
      rintro e wC ⟨rfl, rfl⟩
      clear hO1 hbk1 hbl1
      clear hO2 hbk2 hbl2
      go_wp2_with fail
      go_at_call 10
      refine (first_any _ (HE.out.ext HPB.out.ext)).mono ?_
      rintro e wD ⟨rfl, hxD⟩
      have HPD : Hid _ := Pile.more HPB.out hxD
      clear hxD
      obtain ⟨S1, O1, hO1, hbk1, hbl1⟩ := Pile.post HPD.out 0 (f := (.pointer (some ⟨g, 0, none⟩))) (m := m4) (by simp)
      go_wp2_with fail
      go_at_call 39
      refine (write_any path 1 _ data (One.fin hO1 HE.out HG4.out (by omega)) (by omega) (OldB.at HD.out (HEX.out HPD.out.ext)) (OldB.out HD.out (fun k hk => Nat.le_trans HLB.out (hO1.lo k hk).1))).mono ?_
      rw [HM6.out, HE6.out]
      rintro e wE ⟨rfl, h9⟩
      have HPE : Hid (Pile w wE [(2, .fs (.pointer (some ⟨g6, 0, none⟩)) m5), (1, .fs (.pointer (some ⟨g5, 0, none⟩)) m2), (0, .fs (.pointer (some ⟨g, 0, none⟩)) m6)]) := hbk1 _ _ _ h9 (by intro y hy; simp only [List.mem_cons, List.not_mem_nil, or_false] at hy ⊢; rcases hy with rfl | rfl | rfl <;> simp)
      clear h9
      clear hO1 hbk1 hbl1
      by_cases h6 : e6 = 0
      · subst h6
        obtain ⟨S1, O1, hO1, hbk1, hbl1⟩ := Pile.post HPE.out 0 (f := (.pointer (some ⟨g, 0, none⟩))) (m := m6) (by simp)
        obtain ⟨S2, O2, hO2, hbk2, hbl2⟩ := Pile.post HPE.out 2 (f := (.pointer (some ⟨g6, 0, none⟩))) (m := m5) (by simp)
        go_wp2_with fail
        go_at_call 33
        refine (alike_any hO1.fs hO2.fs (by have := HG6.out.ok.lnow; have := HG6.out.time; omega) (by have := HG5.out.ok.lnow; have := HG5.out.time; omega)).mono ?_
        rintro e wF ⟨⟨r, rfl, hr⟩, hxF⟩
        obtain rfl : r = true := hr.2 HF.out.alike
        have HPF : Hid _ := Pile.more HPE.out hxF
        clear hr hxF
        clear hO1 hbk1 hbl1
        clear hO2 hbk2 hbl2
        obtain ⟨S1, O1, hO1, hbk1, hbl1⟩ := Pile.post HPF.out 0 (f := (.pointer (some ⟨g, 0, none⟩))) (m := m6) (by simp)
        obtain ⟨S2, O2, hO2, hbk2, hbl2⟩ := Pile.post HPF.out 2 (f := (.pointer (some ⟨g6, 0, none⟩))) (m := m5) (by simp)
        go_wp2_with fail
        go_at_call 23
        refine (calls_any hO1.fs).mono ?_
        rw [HC6.out]
        rintro e wC ⟨rfl, rfl⟩
        go_wp2_with fail
        go_at_call 23
        refine (calls_any hO2.fs).mono ?_
        rw [HC5.out]
        rintro e wC ⟨rfl, rfl⟩
        subst hco
        go_wp2
        go_ret
        exact ⟨rfl, HPF.out.ext⟩
      · have b6 : (e6 == 0) = false := by simpa using h6
        have b7 : (e6 != 0) = true := by simpa using h6
        clear h6
        obtain ⟨S1, O1, hO1, hbk1, hbl1⟩ := Pile.post HPE.out 0 (f := (.pointer (some ⟨g, 0, none⟩))) (m := m6) (by simp)
        obtain ⟨S2, O2, hO2, hbk2, hbl2⟩ := Pile.post HPE.out 2 (f := (.pointer (some ⟨g6, 0, none⟩))) (m := m5) (by simp)
        go_wp2_with fail
        go_at_call 23
        refine (calls_any hO1.fs).mono ?_
        rw [HC6.out]
        rintro e wC ⟨rfl, rfl⟩
        go_wp2_with fail
        go_at_call 23
        refine (calls_any hO2.fs).mono ?_
        rw [HC5.out]
        rintro e wC ⟨rfl, rfl⟩
        subst hco
        go_wp2
        go_ret
        exact ⟨rfl, HPE.out.ext⟩

end Go.Proofs.YtoajnaopainpnaaGreatDoor

/-! marlaw5.FsimFails: whatever the input, the law returns true, and the input reads as it did: its row's statement and its tied card. Conditions: what the row lists: the library's variables hold what the program's text lays. -/
namespace Go.Proofs.YtoajnaopainpnaaGreatDoor.fsimFails
open Go Go.ChangeShapes Go.WideShapes Go.ChangeAt Go.RowKit Go.Deep

set_option maxRecDepth 100000 in
theorem contract (H : Type) (enc : TypeId × Value → H) (W : World) (base : Nat) (args : Array Value) (ds gs : List (DataW H)) (before : List MemPlace)
    (hval : ∀ (j : Nat) t v, Tryz.f7.params[j]? = some t → args[j]? = some v → Value.okWide Tryz.prog W .any base t v)
    (hW : DataW.Whole enc Tryz.prog Tryz.f7.params.toList Rows.fsimFailsSpec.vars false W args.toList ds gs before)
    (hsz : (DataW.weightsEach Tryz.prog (Tryz.f7.params.toList ++ (OpenSpec.ofChange Rows.fsimFailsSpec).bare.plain.varTypes Tryz.prog) (ds ++ gs)).all (· ≤ reachBytes) = true)
    (hL : laidMetH Tryz.prog Rows.fsimFailsRow.laid W) (hS : W.ShapedOpen Tryz.prog) :
    Calls Tryz.prog 7 args W fun e W' => ∃ v, e = .returned v ∧ Rows.fsimFailsSpec.post enc Tryz.prog Tryz.f7 false true false false W args v W' := by
  have hW' := hW
  obtain ⟨p, q, hA0, hV, rfl, hfz, hnd⟩ := hW
  have hA : DataW.TrodAll enc Tryz.prog W 0 (fun _ => true) true Tryz.f7.params.toList args.toList ds p := hA0
  obtain ⟨rfl, rfl⟩ := trodVars_none hV
  clear hA0
  simp only [List.append_nil] at hW'
  have hE : Env W := env_of hS
  letI : Inhabited BaseW := ⟨⟨W⟩⟩
  have hBW : baseW = W := rfl
  have hBE : Ext baseW W := Ext.refl W
  have hAll := hA
  have hlt : ∀ x ∈ p, x.block < W.heap.size := fun x hx => by simpa using hW'.lt x (by simpa using hx)
  rw [Tryz.params7] at hA hval hsz
  obtain ⟨v0, vs0, d0, ds0, p0, q0, ha0, hd0, hp0, h0, hA⟩ := trodAll_cons hA
  obtain ⟨v1, vs1, d1, ds1, p1, q1, ha1, hd1, hp1, h1, hA⟩ := trodAll_cons hA
  obtain ⟨v2, vs2, d2, ds2, p2, q2, ha2, hd2, hp2, h2, hA⟩ := trodAll_cons hA
  obtain ⟨v3, vs3, d3, ds3, p3, q3, ha3, hd3, hp3, h3, hA⟩ := trodAll_cons hA
  obtain ⟨v4, vs4, d4, ds4, p4, q4, ha4, hd4, hp4, h4, hA⟩ := trodAll_cons hA
  obtain ⟨hn0, hn1, hn2⟩ := trodAll_nil hA
  subst hn0 hn1 hn2
  subst hp4 hd4 ha4
  subst hp3 hd3 ha3
  subst hp2 hd2 ha2
  subst hp1 hd1 ha1
  subst hp0 hd0
  obtain rfl : args = #[v0, v1, v2, v3, v4] := by cases args; simp_all
  clear ha0
  have hv0 := hval 0 3 v0 rfl rfl
  obtain ⟨n, rfl, -, -, hw0⟩ := open_int Tryz.underlying3 hv0 h0
  have hn : I64 n := i64_wf hw0
  have hv1 := hval 1 22 v1 rfl rfl
  obtain ⟨l, hl, hil⟩ := arg_ops (j := 1) hBW hv1 h1 hsz rfl rfl
  have hv2 := hval 2 9 v2 rfl rfl
  obtain ⟨path, rfl⟩ : ∃ l : B8, v2 = S8 l := by obtain ⟨s, rfl⟩ := okWide_string Tryz.underlying9 hv2; exact ⟨s.data.toList, rfl⟩
  have hv3 := hval 3 28 v3 rfl rfl
  obtain ⟨data, hdata⟩ := arg_bytes (j := 3) hv3 h3 hsz rfl rfl
  have hv4 := hval 4 3 v4 rfl rfl
  obtain ⟨kind, rfl, -, -, hw4⟩ := open_int Tryz.underlying3 hv4 h4
  have hkind : I64 kind := i64_wf hw4
  refine (fails_any n v1 l path v3 data kind W hBE hE hl hil (oldB_of hdata)).mono fun e W' ⟨he, hg⟩ => ?_
  subst he
  have harg := trodAll_below laidOut hg hAll hlt (by rw [Tryz.params7]; exact fun t ht => by simp only [List.mem_cons, List.not_mem_nil, or_false] at ht; rcases ht with rfl | rfl | rfl | rfl | rfl <;> exact ⟨by kernel_rfl, of_decide_eq_true (by kernel_rfl)⟩)
  exact ⟨_, rfl, _, _, _, [], _, [], hW', trodAll_mk1 (shut_bool Tryz.underlying4 _), harg, rfl, hg.frame _, fun h => by cases h⟩

theorem laid_met (os : Os) : laidMetH Tryz.prog Rows.fsimFailsRow.laid ((World.laidAll Tryz.prog os Rows.fsimFailsRow.laid).forCall (fun _ _ => 0) ⟨#[], #[.int .i64 0, .slice none 0 0, .string ⟨#[]⟩, .slice none 0 0, .int .i64 0], []⟩).memory := by
  rw [MakeChecks.laidMetH_plain _ _ _ (by kernel_rfl)]
  exact laidMet_laidAll _ (by kernel_rfl) (by kernel_rfl)
theorem reads (os : Os) {H : Type} (enc : TypeId × Value → H) : ∃ places, DataW.whole enc Tryz.prog ((World.laidAll Tryz.prog os Rows.fsimFailsRow.laid).forCall (fun _ _ => 0) ⟨#[], #[.int .i64 0, .slice none 0 0, .string ⟨#[]⟩, .slice none 0 0, .int .i64 0], []⟩).memory Tryz.f7.params.toList Rows.fsimFailsSpec.vars false #[.int .i64 0, .slice none 0 0, .string ⟨#[]⟩, .slice none 0 0, .int .i64 0].toList 8 = some ([.lit (.int .i64 0), .nil, .lit (.string []), .nil, .lit (.int .i64 0)], [], places) :=
  ⟨[], by kernel_rfl⟩

set_option maxRecDepth 100000 in
theorem lifted (os : Os) (started : os.Started) (H : Type) (enc : TypeId × Value → H) (F : Stop.Interp) :
    ReturnsInHanded {} Tryz.checked os 7 .any ((OpenSpec.ofChange Rows.fsimFailsSpec).preRow enc Tryz.prog Tryz.f7 Rows.fsimFailsRow.domain false Rows.fsimFailsRow.laid) (((OpenSpec.ofChange Rows.fsimFailsSpec).at F).post enc Tryz.prog Tryz.f7 false true false false) := by
  obtain ⟨places, hx⟩ := reads os enc
  refine returnsInHanded_of_row (C := Tryz.checked) (s := OpenSpec.ofChange Rows.fsimFailsSpec) own started (by kernel_rfl) Tryz.func7
    (witness_row_at (enc := enc) (C := Tryz.checked) false (World.laidAll Tryz.prog os Rows.fsimFailsRow.laid) #[.int .i64 0, .slice none 0 0, .string ⟨#[]⟩, .slice none 0 0, .int .i64 0] (World.laidAll_os _ _ _) (by kernel_rfl) (by kernel_rfl) (by kernel_rfl)
      (OpenSpec.preRow_of_cond 8 hx (by kernel_rfl) (fun k hk => by cases hk) (by kernel_rfl) (laid_met os))) ?_
  intro W base args ds gs before hval hW _ _ hsz hL hS _
  exact contract H enc W base args ds gs before hval hW hsz hL hS

theorem said : Rows.FsimFailsSaid :=
  OpenClaim.holds_of_cond 7 Tryz.f7 rfl rfl rfl rfl rfl rfl rfl ⟨rfl, rfl, rfl, rfl, rfl⟩ rfl rfl rfl rfl rfl (by kernel_rfl) Tryz.func7 (by kernel_rfl)
    (of_decide_eq_true (by kernel_rfl)) (by unfold Func.isWrapper; first | (rw [if_pos (by decide +kernel)]; kernel_rfl) | (rw [if_neg (by decide +kernel)]; exact ⟨rfl, rfl⟩))
    (fun os started H enc _ F => by rw [OpenClaim.pre_eq_preRow]; exact lifted os started H enc F)

theorem plain (f : FuncId) (fn : Func) (hf : Tryz.pinned.checked.prog.funcNamed "marline/marlaw5.FsimFails" = some f) (hfn : Tryz.pinned.checked.prog.funcs[f]? = some fn) :
    false = Tryz.pinned.checked.prog.looks [] ∧ ∀ (j : Nat) t, fn.params[j]? = some t → Tryz.pinned.checked.prog.wantsStandIn t = false := by
  obtain rfl : f = 7 := Option.some.inj ((show Tryz.prog.funcNamed "marline/marlaw5.FsimFails" = some 7 by kernel_rfl).symm.trans hf) |>.symm
  obtain rfl : fn = Tryz.f7 := (Option.some.inj (Tryz.func7.symm.trans hfn)).symm
  refine ⟨by kernel_rfl, fun j t ht => ?_⟩
  rw [Tryz.params7] at ht
  have hm : t ∈ [3, 22, 9, 28, 3] := by simpa using Array.mem_of_getElem? ht
  simp only [List.mem_cons, List.not_mem_nil, or_false] at hm
  rcases hm with rfl | rfl | rfl | rfl | rfl
  · exact (show Tryz.prog.wantsStandIn 3 = false by kernel_rfl)
  · exact (show Tryz.prog.wantsStandIn 22 = false by kernel_rfl)
  · exact (show Tryz.prog.wantsStandIn 9 = false by kernel_rfl)
  · exact (show Tryz.prog.wantsStandIn 28 = false by kernel_rfl)
  · exact (show Tryz.prog.wantsStandIn 3 = false by kernel_rfl)

/-- The card. -/
theorem card : Rows.FsimFailsCardSaid :=
  Claim7.holds_tied_plain_at .later [] _ _ _ _ said (fun _ h => by cases h) (by kernel_rfl) (fun _ h => by cases h) fsimFails_row_tie rfl ⟨rfl, rfl⟩ (by kernel_rfl) rfl plain (by kernel_rfl)

end Go.Proofs.YtoajnaopainpnaaGreatDoor.fsimFails
