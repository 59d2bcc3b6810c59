/- marlaw7.StoreWhole. Conditions: as each theorem states. -/
import Derived.Test.YtfimfbdlegookaaGreatDoorZaj
import Derived.Test.YtfimfbdlegookaaGreatDoorZai
import Derived.Test.YtfimfbdlegookaaGreatDoorZah
import Derived.Test.YtfimfbdlegookaaGreatDoorZaa
import Derived.Test.YtfimfbdlegookaaGreatDoorZab
import Derived.Deep.DeepCutAuto

set_option linter.unusedVariables false
set_option linter.unusedSimpArgs false
set_option linter.unusedSectionVars false

/-! marref5.FS: New, Plan, User, and what each tells of itself. Conditions: what holds of a file system at all times. -/
namespace Go.Proofs.YtfimfbdlegookaaGreatDoor
open Go Go.RowKit
variable [Inhabited BaseW]

section
variable {O R : Nat → Prop} {w : World} {p : Value} {m : Fs}
end

def NewRPost (room : Int) (w : World) (e : Ending) (w' : World) : Prop := (∃ p, e = .returned (.tuple #[p, .int .i64 0]) ∧ IsRef (Nu w w') (fun _ => False) w' p (newM room)) ∧ Ext w w'
end Go.Proofs.YtfimfbdlegookaaGreatDoor

/-! marref5.FS: User. Conditions: at most 1000000 events. -/
namespace Go.Proofs.YtfimfbdlegookaaGreatDoor
open Go Go.RowKit
variable [Inhabited BaseW]

section
variable {ops : Array Oper} {rest : List Oper} {o : Oper} {a : Act} {Q : Exit → Act → World → Prop} {w : World}
end

end Go.Proofs.YtfimfbdlegookaaGreatDoor

/-! marref: Bytes, Texts, Has; marlaw5: flag, file. Conditions: at most 1000000 texts. -/
namespace Go.Proofs.YtfimfbdlegookaaGreatDoor
open Go Go.RowKit

set_option maxRecDepth 100000 in
set_option maxHeartbeats 1000000 in
theorem texts_any (a b : Value) (la lb : List B8) (w : World) (ha : IsStrs w a la) (hb : IsStrs w b lb) :
    Calls Tryz.prog 35 #[a, b] w fun e w' => e = .returned (.bool (la == lb)) ∧ Ext w w' := by
  obtain ⟨a1, c1, rfl, l1, l2, l3, hg1⟩ := ha.get
  obtain ⟨a2, c2, rfl, k1, k2, k3, hg2⟩ := hb.get
  have H1 : Hid _ := hg1
  have H2 : Hid _ := hg2
  clear ha hb hg1 hg2
  by_cases hl : la.length = lb.length
  · have hli : ((la.length : Int) == (lb.length : Int)) = true := by rw [beq_iff_eq]; omega
    have HL : Hid _ := hl
    rw [← hl] at k1 k2
    have HB : Hid (∀ k, k < la.length → ∃ b o, a2 = some ⟨b, o, none⟩ ∧ (∀ i, i < la.length → w.cell? ⟨b, o + i, none⟩ = some (S8 (lb.getD i [])))) := by
      unfold Hid; rw [hl]; exact H2.out
    obtain ⟨n2, hn2⟩ : ∃ n2, lb.length = n2 := ⟨_, rfl⟩
    have hn2l : n2 = la.length := by omega
    rw [hn2, hn2l]
    clear hn2 hli hl hn2l
    go_enter Tryz.func35, Tryz.ntmps35
    go_wp2
    go_loopw [5] (fun i wr => ∃ k : Nat, k ≤ la.length ∧ i = .int .i64 k ∧ la.take k = lb.take k ∧ Ext w wr) (fun i _ => la.length - (intOf i).toNat)
    case atStart => exact ⟨0, Nat.zero_le _, rfl, by simp, Ext.refl _⟩
    case round =>
      obtain ⟨k, hk, rfl, htk, hx⟩ := hrel
      have HT : Hid _ := htk
      clear htk
      by_cases hlt : k < la.length
      · obtain ⟨b1, o1, rfl, hc1⟩ := H1.out k hlt
        obtain ⟨b2, o2, rfl, hc2⟩ := HB.out k hlt
        have y1 := hx.cell (hc1 k hlt)
        have y2 := hx.cell (hc2 k hlt)
        obtain ⟨p, hp⟩ : ∃ p, la.getD k [] = p := ⟨_, rfl⟩
        obtain ⟨q, hq⟩ : ∃ q, lb.getD k [] = q := ⟨_, rfl⟩
        rw [hp] at y1
        rw [hq] at y2
        have HP : Hid (la[k]? = some p) := by
          unfold Hid; rw [List.getElem?_eq_getElem hlt, ← hp]; simp [hlt]
        have hlt2 : k < lb.length := by rw [← HL.out]; exact hlt
        have HQ : Hid (lb[k]? = some q) := by
          unfold Hid; rw [List.getElem?_eq_getElem hlt2, ← hq]; simp [hlt2]
        have tp := tl p
        have tq := tl q
        obtain ⟨bq, hbq⟩ : ∃ bq, (p == q) = bq := ⟨_, rfl⟩
        have HBQ : Hid _ := hbq
        clear hc1 hc2 hp hq hlt2
        go_wp2_with fail
        apply wp_region_mix 9 [_, _, _, _, _, _, _, _, .bool (!bq)] [none, none, none, none, none, none, none, none, none] [[], [], [0, 1], [2], [], [], [4, 5], [6], [3, 7]] (by kernel_rfl) (by kernel_rfl) (by simp [mixV])
        · trivial
        · simp (maxSteps := 1000000) only [List.take_succ_cons, List.take_zero, oblFrom, stepObl, fillFrom, Act.put, List.setIfInBounds_toArray, List.set_cons_zero, List.set_cons_succ, knows, getV, mixV, List.getD_cons_zero, List.getD_cons_succ, and_true, true_and, forall_const]
          refine ⟨?_, ?_, ?_, ?_, ?_, ?_, ?_, ?_, ?_⟩
          · intro xs wq hq R hR
            have f1 := hq.cell y1; have f2 := hq.cell y2
            go_simp
            exact hR _ _ (Ext.refl _) rfl
          · intro xs wq hq R hR
            have f1 := hq.cell y1; have f2 := hq.cell y2
            go_simp
            exact hR _ _ (Ext.refl _) rfl
          · intro xs wq hq hk R hR
            obtain ⟨hk0, hk1⟩ := hk
            have f1 := hq.cell y1; have f2 := hq.cell y2
            go_simp
            exact hR _ _ (Ext.refl _) rfl
          · intro xs wq hq hk R hR
            have f1 := hq.cell y1; have f2 := hq.cell y2
            go_simp
            exact hR _ _ (Ext.refl _) rfl
          · intro xs wq hq R hR
            have f1 := hq.cell y1; have f2 := hq.cell y2
            go_simp
            exact hR _ _ (Ext.refl _) rfl
          · intro xs wq hq R hR
            have f1 := hq.cell y1; have f2 := hq.cell y2
            go_simp
            exact hR _ _ (Ext.refl _) rfl
          · intro xs wq hq hk R hR
            obtain ⟨hk0, hk1⟩ := hk
            have f1 := hq.cell y1; have f2 := hq.cell y2
            go_simp
            exact hR _ _ (Ext.refl _) rfl
          · intro xs wq hq hk R hR
            have f1 := hq.cell y1; have f2 := hq.cell y2
            go_simp
            exact hR _ _ (Ext.refl _) rfl
          · intro xs wq hq hk R hR
            obtain ⟨hk0, hk1⟩ := hk
            have f1 := hq.cell y1; have f2 := hq.cell y2
            go_simp
            exact hR _ _ (Ext.refl _) rfl
        intro xs w2 hx2 hk
        simp only [heldV, Nat.zero_add, Nat.reduceAdd, and_true] at hk
        obtain ⟨q0, q1, q2, q3, q4, q5, q6, q7, q8⟩ := hk
        simp (maxSteps := 1000000) only [List.take_succ_cons, List.take_zero, List.drop_succ_cons, List.drop_zero, fillFrom, Act.put, List.setIfInBounds_toArray, List.set_cons_zero, List.set_cons_succ, Nat.zero_add, Nat.reduceAdd, q0, q1, q2, q3, q4, q5, q6, q7, q8]
        clear q0 q1 q2 q3 q4 q5 q6 q7 q8
        have hxr := hx.trans hx2
        clear hbq
        cases bq with
        | false =>
          have hne : p ≠ q := by simpa using HBQ.out
          have HF : Hid ((la == lb) = false) := by
            unfold Hid
            rw [beq_eq_false_iff_ne]
            intro e
            have h1 := HP.out
            rw [e, HQ.out] at h1
            exact hne (Option.some.inj h1).symm
          clear hne
          go_wp2
          go_ret
          exact ⟨ret_b HF.out.symm, hxr⟩
        | true =>
          have heq : p = q := by simpa using HBQ.out
          have HE : Hid _ := heq
          clear heq
          go_wp2
          go_roundw
          case rel => exact ⟨k + 1, by omega, by go_num, by rw [List.take_add_one, List.take_add_one, HP.out, HQ.out, HE.out, HT.out], hxr⟩
          case measure => simp [intOf]; omega
      · have hkk : la.length ≤ k := by omega
        have HF : Hid ((la == lb) = true) := by
          have := HT.out
          rw [List.take_of_length_le hkk, List.take_of_length_le (by rw [← HL.out]; exact hkk)] at this
          unfold Hid; simpa using this
        go_wp2
        go_ret
        exact ⟨ret_b HF.out.symm, hx⟩
  · have hli : ((la.length : Int) == (lb.length : Int)) = false := by rw [beq_eq_false_iff_ne]; omega
    have HF : Hid ((la == lb) = false) := by
      unfold Hid
      rw [beq_eq_false_iff_ne]
      intro e; exact hl (by rw [e])
    clear hl
    go_enter Tryz.func35, Tryz.ntmps35
    go_wp2
    go_ret
    exact ⟨ret_b HF.out.symm, Ext.refl _⟩

def FilePost (f g : Fi) (w : World) (e : Ending) (w' : World) : Prop := (∃ r : Bool, e = .returned (.bool r) ∧ (f = g → r = true)) ∧ Ext w w'
end Go.Proofs.YtfimfbdlegookaaGreatDoor

/-! store: Put. Conditions: as each theorem states. -/
namespace Go.Proofs.YtfimfbdlegookaaGreatDoor
open Go Go.RowKit
set_option linter.unusedVariables false
set_option linter.unusedSimpArgs false
set_option linter.unusedSectionVars false

theorem bytesEqual_any (a b : Value) (la lb : B8) (w : World) (ha : IsBytes w a la) (hb : IsBytes w b lb) :
    Calls Tryz.prog 117 #[a, b] w fun e w' => e = .returned (.bool (la == lb)) ∧ w' = w := by
  have h1 := conv_bytes ha
  have h2 := conv_bytes hb
  have t1 := tl la
  have t2 := tl lb
  obtain ⟨a1, c1, rfl, -⟩ := ha
  obtain ⟨a2, c2, rfl, -⟩ := hb
  obtain ⟨bq, hbq⟩ : ∃ bq, (la == lb) = bq := ⟨_, rfl⟩
  rw [hbq]
  go_enter Tryz.func117, Tryz.ntmps117
  go_wp2
  go_ret
  exact ⟨by first | rfl | exact ret_b (by assumption), rfl⟩
theorem old_out {O : Nat → Prop} {w0 w : World} {v : Value} {l : B8} (h : IsBytes w0 v l) (hO : ∀ k, O k → w0.heap.size ≤ k) : Out O w v := by
  obtain ⟨a, cap, rfl, h1, h2, h3, h4⟩ := h
  intro a' n c he hn
  cases he
  refine .inl fun ho => ?_
  cases hl : l with
  | nil => rw [hl] at hn; exact hn rfl
  | cons x r =>
    obtain ⟨b, o, e, hc⟩ := h4 (by rw [hl]; simp)
    cases e
    have := World.block_lt_of_cell? _ _ (hc 0 (.int .u8 x.toNat) (by rw [hl]; rfl))
    have h9 := hO _ ho
    simp only at this h9
    omega
/-- Bytes that a call is handed: old ones, or typed ones. -/
def Arg (w0 w : World) (v : Value) (b : B8) : Prop := IsBytes w0 v b ∨ IsBytes w v b ∧ TypB w v
theorem Arg.keep {w0 w w' : World} {v : Value} {b : B8} (h : Arg w0 w v b) (hk : KeepB w w') : Arg w0 w' v b := by
  rcases h with h | ⟨h1, h2⟩
  · exact .inl h
  · exact .inr ⟨Row.keepB h1 h2 hk, h2.keep hk⟩
theorem Arg.bytes {w0 w : World} {v : Value} {b : B8} (h : Arg w0 w v b) (hx : Ext w0 w) : IsBytes w v b := by
  rcases h with h | h
  · exact IsBytes.ext h hx
  · exact h.1
theorem Arg.out {O : Nat → Prop} {w0 w : World} {v : Value} {b : B8} (h : Arg w0 w v b) (hO : ∀ k, O k → w0.heap.size ≤ k) : Out O w v := by
  rcases h with h | h
  · exact old_out h hO
  · exact fun a n c he _ => .inr (h.2 a n c he)
variable [Inhabited BaseW] [KW : Inhabited KeptW]
set_option maxRecDepth 100000 in
set_option maxHeartbeats 4000000 in
theorem storePut_any {w0 w : World} {S O : Nat → Prop} {f : Value} {gs gc : Nat} {m : Fs} {n : Int} {k : Nat} (v : Value) (b : B8) (h : St w0 S O w f gs gc m n) (hE : Env w0) (hS : EnvS w0) (hg : Good k m) (hk : k ≤ 980) (hn0 : 0 ≤ n) (hn1 : n ≤ 100000) (hv : Arg w0 w v b) (hb : b.length ≤ 140737488355328) :
    Calls Tryz.prog 41 #[.pointer (some ⟨gs, 0, none⟩), v] w fun e w' => ∃ (O' : Nat → Prop) (n' : Int), e = .returned (.tuple #[S8 (putO m b).2.1, .int .i64 (putO m b).2.2]) ∧ (n ≤ n' ∧ n' ≤ n + 1) ∧ St w0 S O' w' f gs gc (putO m b).1 n' := by
  have H : Hid (St w0 S O w f gs gc m n) := h
  have HE : Hid (Env w0) := hE
  have HS : Hid (EnvS w0) := hS
  have HG : Hid (Good k m) := hg
  have HA : Hid (Arg w0 w v b) := hv
  have hsl : (shaM b).length ≤ 100 := by rw [sha_len]; omega
  have hpl : (placeO (shaM b)).length ≤ 400 := by unfold placeO; simp; omega
  obtain ⟨g, rfl⟩ : ∃ g, f = .pointer (some ⟨g, 0, none⟩) := by
    obtain ⟨g, gm, gd, vp, vl, vu, L, c0, hpe, -⟩ := h.one.fs
    exact ⟨g, hpe⟩
  obtain ⟨s0, t0, rfl, -⟩ := id (hv.bytes h.one.ext)
  clear h hE hS hg hv
  go_enter Tryz.func41, Tryz.ntmps41
  by_cases hl : 20000 < b.length
  case pos =>
    have hl1 : decide ((20000 : Int) < (b.length : Int)) = true := decide_eq_true (by omega)
    have q : putO m b = (m, [], 3) := by unfold putO; rw [if_pos hl]
    have Q : Hid _ := q
    clear q
    go_wp2
    go_ret2
    rw [Q.out]
    exact ⟨_, _, rfl, ⟨by omega, by omega⟩, H.out⟩
  have hl1 : decide ((20000 : Int) < (b.length : Int)) = false := decide_eq_false (by omega)
  go_wp2_with fail
  go_at_call 114
  refine (newLazy_any _ b w (HA.out.bytes H.out.one.ext) (by omega)).mono ?_
  rintro e w1 ⟨⟨u1, rfl, hz1⟩, hx1⟩
  have HZ1 : Hid _ := hz1
  have HX1 : Hid _ := hx1
  have hw2 : 2 ≤ w.heap.size := by have := H.out.one.ext.size; have := env_ltR HE.out; omega
  clear hz1 hx1
  go_wp2_with fail
  go_at_call 115
  refine (lazyID_any w w1 b u1 (EnvS.ext HS.out (H.out.one.ext.trans HX1.out)) hw2 HX1.out HZ1.out (by omega)).mono ?_
  rintro e w2 ⟨rfl, hx2⟩
  have H2 : Hid (St w0 S O w2 (.pointer (some ⟨g, 0, none⟩)) gs gc m n) := St.more H.out hx2
  have HA2 : Hid (Arg w0 w2 (.slice s0 b.length t0) b) := Arg.keep HA.out (KeepB.of_ext hx2)
  clear hx2 HZ1 HX1 H
  go_wp2_with fail
  go_at_call 116
  obtain ⟨⟨m1, fx, er⟩, hr⟩ : ∃ q, readM m (placeO (shaM b)) = q := ⟨_, rfl⟩
  have HR : Hid _ := hr
  have hrd := readO_any (shaM b) H2.out HE.out HG.out (by omega) hn0 hn1 hsl
  rw [hr] at hrd
  refine hrd.mono ?_
  rintro e w3 ⟨v3, O3, rfl, hd3, hk3, h3⟩
  have HA3 : Hid (Arg w0 w3 (.slice s0 b.length t0) b) := Arg.keep HA2.out hk3
  clear hk3
  obtain ⟨n', hn'⟩ : ∃ n', n + 1 = n' := ⟨_, rfl⟩
  have HN : Hid (n ≤ n' ∧ n' ≤ n + 1) := ⟨by omega, by omega⟩
  rw [hn'] at h3
  have H3 : Hid (St w0 S O3 w3 (.pointer (some ⟨g, 0, none⟩)) gs gc m1 n') := h3
  have HD3 : Hid (IsBytes w3 v3 fx.data) := hd3
  clear hr hrd hd3 h3 H2
  try dsimp only
  by_cases her : er = 0
  case pos =>
    subst her
    by_cases hq : fx.data = b
    case pos =>
      have hqb : (fx.data == b) = true := by simpa using hq
      have q : putO m b = (m1, shaM b, 0) := by
        unfold putO
        rw [if_neg hl, HR.out, if_pos ⟨rfl, hq⟩]
      have Q : Hid _ := q
      clear q hq
      go_wp2_with fail
      go_at_call 117
      refine (bytesEqual_any _ _ _ _ _ HD3.out (HA3.out.bytes H3.out.one.ext)).mono ?_
      rintro e w4 ⟨rfl, rfl⟩
      rw [hqb]
      go_wp2
      go_ret2
      rw [Q.out]
      exact ⟨_, _, rfl, HN.out, H3.out⟩
    have hqb : (fx.data == b) = false := by simpa using hq
    go_wp2_with fail
    go_at_call 117
    refine (bytesEqual_any _ _ _ _ _ HD3.out (HA3.out.bytes H3.out.one.ext)).mono ?_
    rintro e w4 ⟨rfl, rfl⟩
    rw [hqb]
    go_wp2_with fail
    have hdl : fx.data.length ≤ 1000000 := by have := read_len (p := placeO (shaM b)) HG.out.ok HG.out.plan; rw [HR.out] at this; simp only at this; omega
    go_at_call 114
    refine (newLazy_any _ fx.data w4 HD3.out hdl).mono ?_
    rintro e w5 ⟨⟨u5, rfl, hz5⟩, hx5⟩
    have HZ5 : Hid _ := hz5
    have HX5 : Hid _ := hx5
    have hw5 : 2 ≤ w4.heap.size := by have := H3.out.one.ext.size; have := env_ltR HE.out; have := HS.out.two; omega
    clear hz5 hx5
    go_wp2_with fail
    go_at_call 115
    refine (lazyID_any w4 w5 fx.data u5 (EnvS.ext HS.out (H3.out.one.ext.trans HX5.out)) hw5 HX5.out HZ5.out hdl).mono ?_
    rintro e w6 ⟨rfl, hx6⟩
    have H6 : Hid (St w0 S O3 w6 (.pointer (some ⟨g, 0, none⟩)) gs gc m1 n') := St.more H3.out hx6
    have HA6 : Hid (Arg w0 w6 (.slice s0 b.length t0) b) := Arg.keep HA3.out (KeepB.of_ext hx6)
    clear hx6 HZ5 HX5 H3 HD3 HA3
    have HA3 : Hid (Arg w0 w6 (.slice s0 b.length t0) b) := HA6.out
    clear HA6
    have t1 := tl (shaM b)
    have t2 := tl (shaM fx.data)
    by_cases hs5 : shaM fx.data = shaM b
    case pos =>
      have hsb : (shaM fx.data == shaM b) = true := by simpa using hs5
      have q : putO m b = (m1, [], 5) := by
        unfold putO
        rw [if_neg hl, HR.out, if_neg (fun h => hq h.2), if_pos ⟨rfl, hs5⟩]
      have Q : Hid _ := q
      clear q hs5 hq
      go_wp2
      go_ret2
      rw [Q.out]
      exact ⟨_, _, rfl, HN.out, H6.out⟩
    have hsb : (shaM fx.data == shaM b) = false := by simpa using hs5
    have HPUT : Hid (putO m b = putEnd (writeM m1 tempP 1 b) (shaM b)) := by
      unfold Hid putO
      rw [if_neg hl, HR.out, if_neg (fun h => hq h.2), if_neg (fun h => hs5 h.2), if_neg (fun h => h.1 rfl)]
    have H3 : Hid (St w0 S O3 w6 (.pointer (some ⟨g, 0, none⟩)) gs gc m1 n') := H6
    clear H6 hq hs5
    have HG1 : Hid (Good (k + 1) m1) := by have := good_read HG.out (placeO (shaM b)); rw [HR.out] at this; exact this
    clear HR
    have d1 : w6.cell? ⟨gs, 0, none⟩ = some (.pointer (some ⟨g, 0, none⟩)) := (cell_of_row _ _ 0 _ _ _ H3.out.row).trans rfl
    go_wp2_with fail
    go_at_call 88
    refine (write_any tempP 1 _ b (One.fin H3.out.one HE.out HG1.out (by omega)) (by decide) (HA3.out.bytes H3.out.one.ext) (HA3.out.out (fun k hk => (H3.out.one.lo k hk).1))).mono ?_
    rintro e w7 ⟨rfl, hp4⟩
    have h4 := St.post H3.out hp4
    obtain ⟨⟨m2, e2⟩, hq2⟩ : ∃ q, writeM m1 tempP 1 b = q := ⟨_, rfl⟩
    have hput := HPUT.out
    rw [hq2] at h4 hput ⊢
    have HG2 : Hid (Good (k + 2) m2) := by have := good_write HG1.out tempP 1 b; rw [hq2] at this; exact this
    have H4 : Hid (St w0 S _ w7 (.pointer (some ⟨g, 0, none⟩)) gs gc m2 n') := h4
    clear hp4 hq2 h4 HPUT H3
    try dsimp only
    by_cases h5 : e2 = 0
    case neg =>
      have h5n : (e2 == 0) = false := by simpa using h5
      have h5m : (e2 != 0) = true := by simpa using h5
      have q : putO m b = (m2, [], e2) := hput.trans (by unfold putEnd; rw [if_pos h5])
      have Q : Hid _ := q
      clear q hput h5
      go_wp2
      go_ret2
      rw [Q.out]
      exact ⟨_, _, rfl, HN.out, H4.out⟩
    subst h5
    have d0 : w7.cell? ⟨gs, 0, none⟩ = some (.pointer (some ⟨g, 0, none⟩)) := (cell_of_row _ _ 0 _ _ _ H4.out.row).trans rfl
    have HPUT : Hid _ := hput
    clear hput
    go_upto_region 14 with fail
    apply wp_region_mix 6 [_, _, _, .pointer (some ⟨g, 0, none⟩), _, S8 (placeO (shaM b))] [none, none, none, none, none, none] [[], [0], [1], [2], [], [4]] (by kernel_rfl) (by kernel_rfl) (by simp [mixV])
    · trivial
    · simp (maxSteps := 1000000) only [List.take_succ_cons, List.take_zero, oblFrom, stepObl, fillFrom, Act.put, List.setIfInBounds_toArray, List.set_cons_zero, List.set_cons_succ, knows, getV, mixV, List.getD_cons_zero, List.getD_cons_succ, and_true, true_and, forall_const]
      refine ⟨?_, ?_, ?_, ?_, ?_, ?_⟩
      · intro xs wq hq R hR
        have f0 := hq.cell d0
        go_simp
        exact hR _ _ (Ext.refl _) rfl
      · intro xs wq hq hk R hR
        have f0 := hq.cell d0
        go_simp
        exact hR _ _ (Ext.refl _) rfl
      · intro xs wq hq hk R hR
        have f0 := hq.cell d0
        go_simp
        exact hR _ _ (Ext.refl _) rfl
      · intro xs wq hq hk R hR
        have f0 := hq.cell d0
        go_simp
        exact hR _ _ (Ext.refl _) rfl
      · intro xs wq hq R hR
        have f0 := hq.cell d0
        go_simp
        exact hR _ _ (Ext.refl _) rfl
      · intro xs wq hq hk R hR
        go_simp
        exact (placeO_any (shaM b) _ (by omega)).mono (by rintro e' w7 ⟨rfl, rfl⟩; exact ⟨_, rfl, hR _ _ (Ext.refl _) rfl⟩)
    intro xs w8 hx5 hk
    simp only [heldV, Nat.zero_add, Nat.reduceAdd, and_true] at hk
    obtain ⟨q0, q1, q2, q3, q4, q5⟩ := hk
    simp (maxSteps := 1000000) only [List.take_succ_cons, List.take_zero, List.drop_succ_cons, List.drop_zero, fillFrom, Act.put, List.setIfInBounds_toArray, List.set_cons_zero, List.set_cons_succ, Nat.zero_add, Nat.reduceAdd, q0, q1, q2, q3, q4, q5]
    clear q0 q1 q2 q3 q4 q5
    have H5 : Hid (St w0 S _ w8 (.pointer (some ⟨g, 0, none⟩)) gs gc m2 n') := St.more H4.out hx5
    clear hx5 d0 H4
    go_wp2_with fail
    go_at_call 64
    refine (move_any tempP (placeO (shaM b)) (One.fin H5.out.one HE.out HG2.out (by omega)) (by decide) (by omega)).mono ?_
    rintro e w9 ⟨rfl, hp6⟩
    have h6 := St.post H5.out hp6
    obtain ⟨⟨m3, e3⟩, hq3⟩ : ∃ q, moveM m2 tempP (placeO (shaM b)) false = q := ⟨_, rfl⟩
    have hput := HPUT.out
    unfold putEnd at hput
    rw [if_neg (by simp)] at hput
    simp only [] at hput
    rw [hq3] at h6 hput ⊢
    have H6 : Hid (St w0 S _ w9 (.pointer (some ⟨g, 0, none⟩)) gs gc m3 n') := h6
    clear hp6 hq3 h6 HPUT H5
    try dsimp only
    by_cases h5 : e3 = 0
    case neg =>
      have h5n : (e3 == 0) = false := by simpa using h5
      have h5m : (e3 != 0) = true := by simpa using h5
      have q : putO m b = (m3, [], e3) := hput.trans (by rw [if_pos h5])
      have Q : Hid _ := q
      clear q hput h5
      go_wp2
      go_ret2
      rw [Q.out]
      exact ⟨_, _, rfl, HN.out, H6.out⟩
    subst h5
    have q : putO m b = (m3, shaM b, 0) := hput.trans (by rw [if_neg (by simp)])
    have Q : Hid _ := q
    clear q hput
    go_wp2
    go_ret2
    rw [Q.out]
    exact ⟨_, _, rfl, HN.out, H6.out⟩
  have her0 : (er == 0) = false := by simpa using her
  have her1 : (er != 0) = true := by simpa using her
  by_cases h7 : er = 7
  case neg =>
    have h71 : (er != 7) = true := by simpa using h7
    have h70 : (er == 7) = false := by simpa using h7
    have q : putO m b = (m1, [], er) := by
      unfold putO
      rw [if_neg hl, HR.out, if_neg (fun h => her h.1), if_neg (fun h => her h.1), if_pos ⟨her, h7⟩]
    have Q : Hid _ := q
    clear q
    go_wp2
    go_ret2
    rw [Q.out]
    exact ⟨_, _, rfl, HN.out, H3.out⟩
  subst h7
  have HPUT : Hid (putO m b = putEnd (writeM m1 tempP 1 b) (shaM b)) := by
    unfold Hid putO
    rw [if_neg hl, HR.out, if_neg (fun h => her h.1), if_neg (fun h => her h.1), if_neg (fun h => h.2 rfl)]
  have HG1 : Hid (Good (k + 1) m1) := by have := good_read HG.out (placeO (shaM b)); rw [HR.out] at this; exact this
  clear HR
  have d1 : w3.cell? ⟨gs, 0, none⟩ = some (.pointer (some ⟨g, 0, none⟩)) := (cell_of_row _ _ 0 _ _ _ H3.out.row).trans rfl
  go_wp2_with fail
  go_at_call 88
  refine (write_any tempP 1 _ b (One.fin H3.out.one HE.out HG1.out (by omega)) (by decide) (HA3.out.bytes H3.out.one.ext) (HA3.out.out (fun k hk => (H3.out.one.lo k hk).1))).mono ?_
  rintro e w4 ⟨rfl, hp4⟩
  have h4 := St.post H3.out hp4
  obtain ⟨⟨m2, e2⟩, hq2⟩ : ∃ q, writeM m1 tempP 1 b = q := ⟨_, rfl⟩
  have hput := HPUT.out
  rw [hq2] at h4 hput ⊢
  have HG2 : Hid (Good (k + 2) m2) := by have := good_write HG1.out tempP 1 b; rw [hq2] at this; exact this
  have H4 : Hid (St w0 S _ w4 (.pointer (some ⟨g, 0, none⟩)) gs gc m2 n') := h4
  clear hp4 hq2 h4 HPUT H3
  try dsimp only
  by_cases h5 : e2 = 0
  case neg =>
    have h5n : (e2 == 0) = false := by simpa using h5
    have h5m : (e2 != 0) = true := by simpa using h5
    have q : putO m b = (m2, [], e2) := hput.trans (by unfold putEnd; rw [if_pos h5])
    have Q : Hid _ := q
    clear q hput h5
    go_wp2
    go_ret2
    rw [Q.out]
    exact ⟨_, _, rfl, HN.out, H4.out⟩
  subst h5
  have d0 : w4.cell? ⟨gs, 0, none⟩ = some (.pointer (some ⟨g, 0, none⟩)) := (cell_of_row _ _ 0 _ _ _ H4.out.row).trans rfl
  have HPUT : Hid _ := hput
  clear hput
  go_upto_region 14 with fail
  apply wp_region_mix 6 [_, _, _, .pointer (some ⟨g, 0, none⟩), _, S8 (placeO (shaM b))] [none, none, none, none, none, none] [[], [0], [1], [2], [], [4]] (by kernel_rfl) (by kernel_rfl) (by simp [mixV])
  · trivial
  · simp (maxSteps := 1000000) only [List.take_succ_cons, List.take_zero, oblFrom, stepObl, fillFrom, Act.put, List.setIfInBounds_toArray, List.set_cons_zero, List.set_cons_succ, knows, getV, mixV, List.getD_cons_zero, List.getD_cons_succ, and_true, true_and, forall_const]
    refine ⟨?_, ?_, ?_, ?_, ?_, ?_⟩
    · intro xs wq hq R hR
      have f0 := hq.cell d0
      go_simp
      exact hR _ _ (Ext.refl _) rfl
    · intro xs wq hq hk R hR
      have f0 := hq.cell d0
      go_simp
      exact hR _ _ (Ext.refl _) rfl
    · intro xs wq hq hk R hR
      have f0 := hq.cell d0
      go_simp
      exact hR _ _ (Ext.refl _) rfl
    · intro xs wq hq hk R hR
      have f0 := hq.cell d0
      go_simp
      exact hR _ _ (Ext.refl _) rfl
    · intro xs wq hq R hR
      have f0 := hq.cell d0
      go_simp
      exact hR _ _ (Ext.refl _) rfl
    · intro xs wq hq hk R hR
      go_simp
      exact (placeO_any (shaM b) _ (by omega)).mono (by rintro e' w4 ⟨rfl, rfl⟩; exact ⟨_, rfl, hR _ _ (Ext.refl _) rfl⟩)
  intro xs w5 hx5 hk
  simp only [heldV, Nat.zero_add, Nat.reduceAdd, and_true] at hk
  obtain ⟨q0, q1, q2, q3, q4, q5⟩ := hk
  simp (maxSteps := 1000000) only [List.take_succ_cons, List.take_zero, List.drop_succ_cons, List.drop_zero, fillFrom, Act.put, List.setIfInBounds_toArray, List.set_cons_zero, List.set_cons_succ, Nat.zero_add, Nat.reduceAdd, q0, q1, q2, q3, q4, q5]
  clear q0 q1 q2 q3 q4 q5
  have H5 : Hid (St w0 S _ w5 (.pointer (some ⟨g, 0, none⟩)) gs gc m2 n') := St.more H4.out hx5
  clear hx5 d0 H4
  go_wp2_with fail
  go_at_call 64
  refine (move_any tempP (placeO (shaM b)) (One.fin H5.out.one HE.out HG2.out (by omega)) (by decide) (by omega)).mono ?_
  rintro e w6 ⟨rfl, hp6⟩
  have h6 := St.post H5.out hp6
  obtain ⟨⟨m3, e3⟩, hq3⟩ : ∃ q, moveM m2 tempP (placeO (shaM b)) false = q := ⟨_, rfl⟩
  have hput := HPUT.out
  unfold putEnd at hput
  rw [if_neg (by simp)] at hput
  simp only [] at hput
  rw [hq3] at h6 hput ⊢
  have H6 : Hid (St w0 S _ w6 (.pointer (some ⟨g, 0, none⟩)) gs gc m3 n') := h6
  clear hp6 hq3 h6 HPUT H5
  try dsimp only
  by_cases h5 : e3 = 0
  case neg =>
    have h5n : (e3 == 0) = false := by simpa using h5
    have h5m : (e3 != 0) = true := by simpa using h5
    have q : putO m b = (m3, [], e3) := hput.trans (by rw [if_pos h5])
    have Q : Hid _ := q
    clear q hput h5
    go_wp2
    go_ret2
    rw [Q.out]
    exact ⟨_, _, rfl, HN.out, H6.out⟩
  subst h5
  have q : putO m b = (m3, shaM b, 0) := hput.trans (by rw [if_neg (by simp)])
  have Q : Hid _ := q
  clear q hput
  go_wp2
  go_ret2
  rw [Q.out]
  exact ⟨_, _, rfl, HN.out, H6.out⟩

end Go.Proofs.YtfimfbdlegookaaGreatDoor

/-! store: List. Conditions: as each theorem states. -/
namespace Go.Proofs.YtfimfbdlegookaaGreatDoor
open Go Go.RowKit
set_option linter.unusedVariables false
set_option linter.unusedSimpArgs false
set_option linter.unusedSectionVars false

def dirO : B8 := [115, 47, 111]
def dirS : B8 := [115, 47, 111, 47]
def idsL (l : List B8) : List B8 := (l.map fun p => Lib.trimPrefix p dirS).filter validB
def storeListM (m : Fs) : Fs × List B8 × Int := if (listM m dirO).2.2 ≠ 0 then ((listM m dirO).1, [], (listM m dirO).2.2) else ((listM m dirO).1, idsL (listM m dirO).2.1, 0)
theorem trimO_any (s : B8) (w : World) : Calls Tryz.prog 139 #[S8 s, S8 dirS] w fun e w' => e = .returned (S8 (Lib.trimPrefix s dirS)) ∧ w' = w :=
  Tryz.strings_TrimPrefix ⟨s.toArray⟩ ⟨dirS.toArray⟩ w
theorem ids_snoc {ss : List B8} {k : Nat} {s : B8} (h : ss[k]? = some s) : idsL (ss.take (k + 1)) = idsL (ss.take k) ++ (if validB (Lib.trimPrefix s dirS) = true then [Lib.trimPrefix s dirS] else []) := by
  obtain ⟨hlt, rfl⟩ := (List.getElem?_eq_some_iff.1 h)
  unfold idsL
  rw [List.take_succ_eq_append_getElem hlt, List.map_append, List.filter_append]
  by_cases hc : validB (Lib.trimPrefix ss[k] dirS) = true
  · rw [if_pos hc, List.map_cons, List.map_nil, List.filter_cons_of_pos hc, List.filter_nil]
  · rw [if_neg hc, List.map_cons, List.map_nil, List.filter_cons_of_neg hc, List.filter_nil]
theorem ids_len (ss : List B8) : (idsL ss).length ≤ ss.length := by
  unfold idsL
  exact Nat.le_trans (List.length_filter_le _ _) (by simp)
variable [Inhabited BaseW] [KW : Inhabited KeptW]
set_option maxRecDepth 100000 in
set_option maxHeartbeats 4000000 in
theorem storeList_any {w0 w : World} {S O : Nat → Prop} {f : Value} {gs gc : Nat} {m : Fs} {n : Int} {k : Nat} (h : St w0 S O w f gs gc m n) (hE : Env w0) (hg : Good k m) (hk : k ≤ 980) :
    Calls Tryz.prog 48 #[.pointer (some ⟨gs, 0, none⟩)] w fun e w' => ∃ (O' : Nat → Prop) (v : Value), e = .returned (.tuple #[v, .int .i64 (storeListM m).2.2]) ∧ IsStrs w' v (storeListM m).2.1 ∧ St w0 S O' w' f gs gc (storeListM m).1 n := by
  have H : Hid (St w0 S O w f gs gc m n) := h
  obtain ⟨g, rfl⟩ : ∃ g, f = .pointer (some ⟨g, 0, none⟩) := by
    obtain ⟨g, gm, gd, vp, vl, vu, L, c0, hpe, -⟩ := h.one.fs
    exact ⟨g, hpe⟩
  have hfin := One.fin h.one hE hg (by omega)
  have HSH : Hid _ := list_short (dir := dirO) hg.ok hg.plan
  have hlen := list_len (dir := dirO) hg.ok hg.plan hfin.time
  have HL : Hid _ := list_any dirO hfin (by decide)
  have d0 : w.cell? ⟨gs, 0, none⟩ = some (.pointer (some ⟨g, 0, none⟩)) := (cell_of_row _ _ 0 _ _ _ h.row).trans rfl
  obtain ⟨⟨m1, ss, er⟩, hr⟩ : ∃ q, listM m dirO = q := ⟨_, rfl⟩
  rw [hr] at HL HSH hlen
  have HR : Hid _ := hr
  have HSS : Hid (∀ s ∈ ss, s.length ≤ 200) := HSH
  have hlen' : ss.length ≤ 701000 := hlen
  clear h hE hg hfin hr hlen HSH
  try dsimp only
  go_enter Tryz.func48, Tryz.ntmps48
  go_wp2_with fail
  go_at_call 70
  refine Calls.mono HL.out ?_
  rintro e w1 ⟨⟨v, rfl, hv, -⟩, hp1⟩
  have H1 : Hid (St w0 S _ w1 (.pointer (some ⟨g, 0, none⟩)) gs gc m1 n) := St.post H.out hp1
  have HV : Hid (IsStrs w1 v ss) := hv
  obtain ⟨a, cap, rfl, l1, l2, l3, -⟩ := hv.get
  clear hp1 hv H HL d0
  try dsimp only
  by_cases her : er = 0
  case neg =>
    have h5n : (er == 0) = false := by simpa using her
    have h5m : (er != 0) = true := by simpa using her
    have q : storeListM m = (m1, [], er) := by unfold storeListM; rw [HR.out]; exact if_pos her
    have Q : Hid _ := q
    clear q
    go_wp2
    go_ret2
    rw [Q.out]
    exact ⟨_, _, rfl, Row.nil _, H1.out⟩
  subst her
  have q : storeListM m = (m1, idsL ss, 0) := by unfold storeListM; rw [HR.out]; exact if_neg (by simp)
  have Q : Hid _ := q
  clear q
  go_wp2
  go_loopw [6, 23] (fun v i wr => ∃ (k n : Nat), k ≤ ss.length ∧ i = .int .i64 k ∧ Hid ((idsL (ss.take k)).length = n) ∧ wr.ownsRow w1.heap.size 9 1 v n ((idsL (ss.take k)).map S8) ∧ Ext w1 wr) (fun _ i _ => ss.length - (intOf i).toNat)
  case atStart => exact ⟨0, 0, Nat.zero_le _, rfl, rfl, World.ownsRow_nil _ _ _ _, Ext.refl _⟩
  case round =>
    obtain ⟨k, n2, hk2, rfl, HN, hown, hx⟩ := hrel
    have hnk : n2 ≤ ss.length := by rw [← HN.out]; exact Nat.le_trans (ids_len _) (List.length_take_le' _ _)
    by_cases hlt : k < ss.length
    · obtain ⟨s, hse⟩ : ∃ s, ss[k]? = some s := ⟨_, List.getElem?_eq_getElem hlt⟩
      have hsl := HSS.out s (List.mem_of_getElem? hse)
      obtain ⟨_, _, he, -, -, -, hg⟩ := (IsStrs.ext HV.out hx).get
      cases he
      obtain ⟨bb, oo, rfl, hc⟩ := hg k hlt
      have y1 := hc k hlt
      rw [show ss.getD k [] = s by rw [List.getD_eq_getElem?_getD, hse]; rfl] at y1
      obtain ⟨t, ht⟩ : ∃ t, Lib.trimPrefix s dirS = t := ⟨_, rfl⟩
      have hsn := ids_snoc hse
      have htl := trim_len s dirS
      rw [ht] at hsn htl
      have HSN : Hid _ := hsn
      have HT : Hid _ := ht
      obtain ⟨nb, hnb⟩ : ∃ nb, validB t = nb := ⟨_, rfl⟩
      have HNB : Hid _ := hnb
      clear hsn ht hnb hse hg hc
      go_wp2_with fail
      go_at_call 139
      refine Calls.mono (trimO_any s wr) ?_
      rw [HT.out]
      rintro e w3 ⟨rfl, rfl⟩
      go_wp2_with fail
      go_at_call 14
      refine (valid_any t _ (by omega)).mono ?_
      rw [HNB.out]
      rintro e w4 ⟨rfl, hx4⟩
      have hown4 := owns_ext hown hx4
      have hx5 := hx.trans hx4
      have hsz := hx5.size
      cases nb with
      | true =>
        go_wp2_with (at_builtin; go_must (refine app_str rfl _ _ rfl w1.heap.size _ n2 _ rfl (hown4.alloc _) w4.heap.size 1 1 [t] rfl rfl (alloc_at _ _) (by omega) (by simp; omega) ?_; intro v' w3 hown3 hg3))
        go_roundw
        case rel =>
          refine ⟨k + 1, n2 + 1, by omega, by go_num, ?_, ?_, owns_ext_app (hx5.alloc _) (hown4.alloc _) hg3⟩
          · unfold Hid; rw [HSN.out, HNB.out, if_pos rfl, List.length_append, HN.out]; rfl
          · rw [HSN.out, HNB.out, if_pos rfl]; exact hown3
        case measure => simp [intOf]; omega
      | false =>
        go_wp2
        go_roundw
        case rel => exact ⟨k + 1, n2, by omega, by go_num, by unfold Hid; rw [HSN.out, HNB.out, if_neg (by simp), List.append_nil]; exact HN.out, by rw [HSN.out, HNB.out, if_neg (by simp), List.append_nil]; exact hown4, hx5⟩
        case measure => simp [intOf]; omega
    · have hkk : k = ss.length := by omega
      subst hkk
      have hn := HN.out
      rw [List.take_length] at hown hn
      subst hn
      have HRW : Hid (IsStrs wr _ (idsL ss)) := Row.of_owns hown (by omega)
      have H2 : Hid _ := St.more H1.out hx
      clear hown
      go_wp2
      go_ret2
      rw [Q.out]
      exact ⟨_, _, rfl, HRW.out, H2.out⟩

end Go.Proofs.YtfimfbdlegookaaGreatDoor

/-! store: what the chapter's examples fix. Conditions: as each theorem states. -/
namespace Go.Proofs.YtfimfbdlegookaaGreatDoor
open Go Go.RowKit
set_option linter.unusedVariables false
set_option linter.unusedSimpArgs false
set_option linter.unusedSectionVars false

def xB : B8 := shaM [120]
def sm0 : Fs := newM 1000
def sm1 : Fs := (putO sm0 [120]).1
def sm2 : Fs := (putO sm1 [120]).1
theorem s_first : (putO sm0 [120]).2 = (xB, 0) ∧ (putO sm1 [120]).2 = (xB, 0) ∧ (storeListM sm2).2 = ([xB], 0) := by decide +kernel
theorem good_putEnd {n : Nat} {x : Fs × Int} {id : B8} (h : Good n x.1) : Good (n + 1) (putEnd x id).1 := by
  unfold putEnd
  split
  · exact h.mono (by omega)
  · split
    · exact good_move h _ _ _
    · exact good_move h _ _ _
theorem good_putO {n : Nat} {m : Fs} (h : Good n m) (b : B8) : Good (n + 3) (putO m b).1 := by
  unfold putO
  split
  · exact h.mono (by omega)
  · split
    · exact (good_read h _).mono (by omega)
    · split
      · exact (good_read h _).mono (by omega)
      · split
        · exact (good_read h _).mono (by omega)
        · exact good_putEnd (good_write (good_read h _) _ _ _)
theorem s_good : Good 0 sm0 ∧ Good 3 sm1 ∧ Good 6 sm2 := by
  have g0 : Good 0 sm0 := good_new (by omega) (by omega)
  exact ⟨g0, good_putO g0 _, good_putO (good_putO g0 _) _⟩

section
variable [Inhabited BaseW] [KW : Inhabited KeptW]
set_option maxRecDepth 100000 in
set_option maxHeartbeats 4000000 in
theorem first7_kept (w : World) (hE : Env w) (hS : EnvS w) (hkp : ∀ k, keptW k = none) :
    Calls Tryz.prog 39 #[] w fun e w' => e = .returned (.bool true) ∧ Ext w w' := by
  obtain ⟨g0, g1, g2⟩ := s_good
  obtain ⟨f0, f1, f2⟩ := s_first
  have HKP : Hid (∀ k, keptW k = none) := hkp
  clear hkp
  have HE : Hid (Env w) := hE
  have HS : Hid (EnvS w) := hS
  have F0 : Hid _ := f0
  have F1 : Hid _ := f1
  have F2 : Hid _ := f2
  have xl : xB.length = 64 := sha_len _
  clear hE hS f0 f1 f2
  have kc := fun (w : World) (C : Array Value) (n c : Nat) => Lib.run_convert_bytes_const (P := Tryz.prog) w 31 5 C n c Tryz.underlying31 Tryz.underlying5
  go_enter Tryz.func39, Tryz.ntmps39
  go_wp2_with fail
  go_at_call 11
  refine (new_yes 1000 _ (by omega) (by omega)).mono ?_
  rintro e w1 ⟨⟨p, rfl, hf⟩, hx1⟩
  have H1 : Hid (One w (fun _ => False) (Nu w w1) w1 p sm0) := One.new hf hx1
  obtain ⟨g, rfl⟩ : ∃ g, p = .pointer (some ⟨g, 0, none⟩) := by
    obtain ⟨g, gm, gd, vp, vl, vu, L, c0, hpe, -⟩ := hf
    exact ⟨g, hpe⟩
  clear hf hx1
  go_wp2_with fail
  go_at_call 40
  refine (open_any H1.out HKP.out).mono ?_
  rintro e w2 ⟨gs, gc, rfl, h2, -⟩
  have H2 : Hid (St w _ _ w2 (.pointer (some ⟨g, 0, none⟩)) gs gc sm0 0) := h2
  clear h2
  have HQ : Hid (St w _ _ w2 (.pointer (some ⟨g, 0, none⟩)) gs gc sm0 0) := H2.out
  clear H2 H1
  go_upto_region 7 with fail
  go_wp2_with fail
  obtain ⟨wa, hwa⟩ : ∃ wa, wa = w2.alloc (.cells #[.int .u8 120] 5 (1, 2)) := ⟨_, rfl⟩
  have hxa : Ext w2 wa := by rw [hwa]; exact (Ext.refl _).alloc _
  have hrow : wa.heap[w2.heap.size]? = some (.cells #[.int .u8 120] 5 (1, 2)) := by rw [hwa]; exact alloc_at _ _
  have HA : Hid (Arg w wa (.slice (some ⟨w2.heap.size, 0, none⟩) 1 1) [120]) := .inr ⟨one_byte (x := 120) (fr := (1, 2)) hrow, fun a n c he => (by cases he; exact ⟨_, _, _, hrow, by kernel_rfl⟩)⟩
  have HP : Hid (St w _ _ wa (.pointer (some ⟨g, 0, none⟩)) gs gc sm0 _) := St.more HQ.out hxa
  rw [← hwa]
  clear hwa hxa hrow HQ
  go_at_call 41
  refine (storePut_any _ [120] HP.out HE.out HS.out g0 (by omega) (by omega) (by omega) HA.out (by decide)).mono ?_
  rw [show putO sm0 [120] = (sm1, xB, 0) from Prod.ext rfl F0.out]
  rintro e w3 ⟨O3, n3, rfl, hn, h3⟩
  obtain ⟨hn1, hn2⟩ := hn
  have HQ : Hid (St w _ _ w3 (.pointer (some ⟨g, 0, none⟩)) gs gc sm1 n3) := h3
  clear h3 HP HA
  try dsimp only
  go_upto_region 8 with fail
  go_wp2_with fail
  obtain ⟨wb, hwa⟩ : ∃ wb, wb = w3.alloc (.cells #[.int .u8 120] 5 (1, 2)) := ⟨_, rfl⟩
  have hxa : Ext w3 wb := by rw [hwa]; exact (Ext.refl _).alloc _
  have hrow : wb.heap[w3.heap.size]? = some (.cells #[.int .u8 120] 5 (1, 2)) := by rw [hwa]; exact alloc_at _ _
  have HA : Hid (Arg w wb (.slice (some ⟨w3.heap.size, 0, none⟩) 1 1) [120]) := .inr ⟨one_byte (x := 120) (fr := (1, 2)) hrow, fun a n c he => (by cases he; exact ⟨_, _, _, hrow, by kernel_rfl⟩)⟩
  have HP : Hid (St w _ _ wb (.pointer (some ⟨g, 0, none⟩)) gs gc sm1 _) := St.more HQ.out hxa
  rw [← hwa]
  clear hwa hxa hrow HQ
  go_at_call 41
  refine (storePut_any _ [120] HP.out HE.out HS.out g1 (by omega) (by omega) (by omega) HA.out (by decide)).mono ?_
  rw [show putO sm1 [120] = (sm2, xB, 0) from Prod.ext rfl F1.out]
  rintro e w4 ⟨O3, n4, rfl, hn, h3⟩
  obtain ⟨hn1, hn2⟩ := hn
  have HQ : Hid (St w _ _ w4 (.pointer (some ⟨g, 0, none⟩)) gs gc sm2 n4) := h3
  clear h3 HP HA
  try dsimp only
  go_wp2_with fail
  go_at_call 48
  refine (storeList_any HQ.out HE.out g2 (by omega)).mono ?_
  rw [show storeListM sm2 = ((storeListM sm2).1, [xB], 0) from Prod.ext rfl F2.out]
  rintro e w5 ⟨O5, v5, rfl, hv5, h5⟩
  have HV5 : Hid (IsStrs w5 v5 [xB]) := hv5
  have H5 : Hid (Ext w w5) := h5.one.ext
  clear hv5 h5 HQ
  try dsimp only
  have t1 := tl xB
  have hxx : (xB == xB) = true := by simp
  go_wp2_with fail
  obtain ⟨wc, hwc⟩ : ∃ wc, wc = w5.alloc (.cells #[S8 xB] 9) := ⟨_, rfl⟩
  have hxc : Ext w5 wc := by rw [hwc]; exact (Ext.refl _).alloc _
  have hrow : wc.heap[w5.heap.size]? = some (.cells #[S8 xB] 9 (0, 0)) := by rw [hwc]; exact alloc_at _ _
  have HC : Hid (IsStrs wc (.slice (some ⟨w5.heap.size, 0, none⟩) 1 1) [xB]) := Row.new hrow (by decide) _ rfl
  have HXC : Hid (Ext w wc) := H5.out.trans hxc
  have HV6 : Hid (IsStrs wc v5 [xB]) := IsStrs.ext HV5.out hxc
  rw [← hwc]
  clear hwc hxc hrow
  go_at_call 35
  refine (texts_any _ _ [xB] [xB] wc HV6.out HC.out).mono ?_
  rw [show ([xB] == [xB]) = true by simp]
  rintro e w6 ⟨rfl, hx6⟩
  go_wp2
  go_ret
  exact ⟨rfl, HXC.out.trans hx6⟩
end
theorem first7_any [Inhabited BaseW] (w : World) (hE : Env w) (hS : EnvS w) :
    Calls Tryz.prog 39 #[] w fun e w' => e = .returned (.bool true) ∧ Ext w w' :=
  first7_kept (KW := ⟨⟨fun _ => none⟩⟩) w hE hS (fun _ => rfl)

end Go.Proofs.YtfimfbdlegookaaGreatDoor

/-! The places of a store of objects: their names, what stands there; in plain Lean. Conditions: as each theorem states. -/
namespace Go.Proofs.YtfimfbdlegookaaGreatDoor
open Go Go.RowKit

theorem sha_no47 (l : B8) : (47 : UInt8) ∉ shaM l := fun h => by
  have h1 := (unhex_len (shaM l) (b := sumM l) (unhex_hex _)).2 47 h
  revert h1
  decide
theorem sha_no (d : B8) : ∀ x ∈ shaM d, x ≠ 47 := fun x hx e => sha_no47 d (by rw [← e]; exact hx)
theorem split_place {d : B8} (h : pathB (placeO (shaM d)) = true) : splitL (placeO (shaM d)) = [[115], [111], shaM d] := by
  unfold splitL
  rw [if_pos h]
  have h1 : cut 47 (placeO (shaM d)) = [115] :: [111] :: cut 47 (shaM d) := by
    have hc := cut_none (c := 47) (sha_no d)
    unfold placeO
    show cut 47 (115 :: 47 :: 111 :: 47 :: shaM d) = _
    rw [hc]
    simp [cut, hc]
  rw [h1, cut_none (c := 47) (sha_no d)]
theorem place_ne_temp {a : B8} : placeO a ≠ tempP := fun h => temp_place h.symm
/-- What is seen at a path that is told. -/
theorem wh_peek {m : Fs} {told : List B8} (h : Wh m told) {p : B8} (hp : p ∈ pathsL m.now) : ∃ f, peekM m p = (f, true) ∧ (p = tempP ∨ p = placeO (shaM f.data)) := by
  obtain ⟨e, he, rfl⟩ := List.mem_map.1 hp
  have h1 : (look m.now e.1).isSome = true := look_some.2 ⟨e, he, rfl⟩
  cases hq : look m.now e.1 with
  | none => rw [hq] at h1; cases h1
  | some f =>
    have hm := look_mem hq
    refine ⟨f, ?_, h.now _ hm⟩
    unfold peekM
    rw [hq]
theorem wh_told {m : Fs} {told : List B8} (h : Wh m told) (hd : m.down = false) {id : B8} (hid : id ∈ told) : (peekM m (placeO id)).2 = true := by
  have h1 := (h.up hd).2.2 id hid
  unfold peekM
  cases hq : look m.now (placeO id) with
  | none => rw [hq] at h1; cases h1
  | some f => rfl
theorem wh_start {room : Int} {P : List Ev} (h : NoUser P) : Wh (planM (newM room) P) [] := by
  refine ⟨fun e he => h e (List.mem_filter.1 he).1, fun e he => ?_, fun _ => ⟨rfl, rfl⟩, fun _ => ⟨fun k e he => ?_, fun c hc => ?_, fun id hid => ?_⟩⟩
  · cases he
  · simp [planM, newM] at he
  · cases hc
  · cases hid
theorem ok_path {m : Fs} (h : OkM m) {p : B8} (hp : p ∈ pathsL m.now) : pathB p = true ∧ p.length ≤ 200 := by
  obtain ⟨e, he, rfl⟩ := List.mem_map.1 hp
  exact ⟨(h.dnow e he).1, path_short (h.dnow e he).1⟩
theorem ok_peek {m : Fs} (h : OkM m) {p : B8} {f : Fi} (hf : peekM m p = (f, true)) : f.data.length ≤ 20000 := by
  unfold peekM at hf
  cases hq : look m.now p with
  | none => rw [hq] at hf; cases hf
  | some g =>
    rw [hq] at hf
    cases hf
    exact (h.dnow _ (look_mem hq)).2

end Go.Proofs.YtfimfbdlegookaaGreatDoor

/-! store.Put, while a slice of texts is kept. Conditions: as each theorem states. -/
namespace Go.Proofs.YtfimfbdlegookaaGreatDoor
open Go Go.RowKit
set_option linter.unusedVariables false
set_option linter.unusedSimpArgs false
set_option linter.unusedSectionVars false

section
variable {ops : Array Oper} {rest : List Oper} {o : Oper} {a : Act} {Q : Exit → Act → World → Prop} {w : World}
/-- One text is appended; where the slice then lies. -/
theorem app_str1 (hgd : o.guard = none) (s x : Operand) (ho : o.op = .call { callee := .builtin .append, args := #[s, x], argTypes := #[48, 48] })
    (base : Nat) (v : Value) (n : Nat) (l : List B8) (hs : a.eval s = v) (hown : w.ownsRow base 9 1 v n (l.map S8))
    (g c : Nat) (b : B8) (hx : a.eval x = .slice (some ⟨g, 0, none⟩) 1 c) {fr : Nat × Nat} (hg : w.heap[g]? = some (.cells #[S8 b] 9 fr))
    (hb : n ≤ 10000000) (hbase : base ≤ w.heap.size)
    (h : ∀ v' w', w'.ownsRow base 9 1 v' (n + 1) ((l ++ [b]).map S8) → w.grownBy w' v.ownBlock → (∀ k, v'.ownBlock = some k → v.ownBlock = some k ∨ w.heap.size ≤ k) → wpList Tryz.prog ops Q rest (a.put o.dst v') w') : wpList Tryz.prog ops Q (o :: rest) a w := by
  obtain ⟨i0, hi, hz0, hz1, hz2⟩ := info_parts info_str
  exact wpList_append_own_at w hgd s x _ ho base _ i0 _ 1 16 Tryz.underlying48 hi hz0 hz1 hz2 rfl (by omega) v n _ hs hown ⟨g, 0, none⟩ 1 c [S8 b] hx rfl (by simpa using news_of_block hg) (fun u hu => by rw [List.mem_singleton.1 hu]; rfl) (by unfold maxLen; omega) (by omega) hbase
    (fun v' w' h1 h2 _ h4 => h v' w' (by rw [List.map_append]; exact h1) h2 (fun k hk => by
      rcases h4 with h4 | h4
      · exact .inl (h4.symm.trans hk)
      · rw [h4] at hk; simp only [Option.some.injEq] at hk; exact .inr (by omega)))
end
/-- A slice of texts of the call's own grows. -/
theorem St.app [Inhabited BaseW] [KW : Inhabited KeptW] (hkp : ∀ k, keptW k = none) {w0 w w' : World} {S O : Nat → Prop} {f : Value} {gs gc : Nat} {m : Fs} {n : Int} (h : St w0 S O w f gs gc m n) {base c : Nat} {vt : Value} {l : List Value} (hown : w.ownsRow base 9 1 vt c l) (hg : w.grownBy w' vt.ownBlock)
    (hbs : gs < base ∧ gc < base) (h0 : w0.heap.size ≤ base) (hO : ∀ j, vt.ownBlock = some j → ¬ O j) (hS : ∀ j, base ≤ j → ¬ S j) : St w0 S O w' f gs gc m n := by
  have hlt := hown.lt
  obtain ⟨-, ⟨rfl, -⟩ | ⟨g, cap, cur, rfl, h1, h2, h3⟩⟩ := hown
  · exact h.more (Below.grown (Ext.refl w) hg (Nat.le_refl _) (fun k hk => by cases hk))
  · exact h.but (b := g) hg (Nat.le_trans h0 h1) (hO g rfl) (hS g h1) (cells_u8 h2 (by kernel_rfl)) (by omega) (by omega) (hkp g)
/-- Put, while a slice of texts of the call's own is kept. -/
theorem put_told [Inhabited BaseW] [KW : Inhabited KeptW] (hkp : ∀ k, keptW k = none) {w0 w : World} {S O : Nat → Prop} {f : Value} {gs gc : Nat} {m : Fs} {n : Int} {k : Nat} (v : Value) (b : B8) (h : St w0 S O w f gs gc m n) (hE : Env w0) (hS : EnvS w0) (hg : Good k m) (hk : k ≤ 980) (hn0 : 0 ≤ n) (hn1 : n ≤ 100000) (hv : Arg w0 w v b) (hb : b.length ≤ 140737488355328)
    {base c : Nat} {vt : Value} {l : List Value} (hown : w.ownsRow base 9 1 vt c l) (hbs : gs < base ∧ gc < base) (hO : ∀ j, vt.ownBlock = some j → ¬ O j) :
    Calls Tryz.prog 41 #[.pointer (some ⟨gs, 0, none⟩), v] w fun e w' => ∃ (O' : Nat → Prop) (n' : Int), e = .returned (.tuple #[S8 (putO m b).2.1, .int .i64 (putO m b).2.2]) ∧ (n ≤ n' ∧ n' ≤ n + 1) ∧ St w0 S O' w' f gs gc (putO m b).1 n' ∧ w'.ownsRow base 9 1 vt c l ∧ ∀ j, vt.ownBlock = some j → ¬ O' j := by
  obtain ⟨hl, ⟨rfl, hc⟩ | ⟨g, cap, cur, rfl, h1, h2, h3⟩⟩ := hown
  · refine (storePut_any v b h hE hS hg hk hn0 hn1 hv hb).mono ?_
    rintro e w' ⟨O', n', he, hn, hs⟩
    exact ⟨O', n', he, hn, hs, ⟨hl, .inl ⟨rfl, hc⟩⟩, fun j hj => by cases hj⟩
  · obtain ⟨g1, g2, g3, g4, g5⟩ : One w0 S O w f m ∧ w.heap[gs]? = some (.cells #[f, .pointer (some ⟨gc, 0, none⟩)] 150 (0, 0)) ∧ w.heap[gc]? = some (.cells #[.int .i64 n] 189 (0, 0)) ∧ (w0.heap.size ≤ gs ∧ w0.heap.size ≤ gc ∧ gs ≠ gc) ∧ (¬ O gs ∧ ¬ O gc ∧ ¬ S gs ∧ ¬ S gc) := ⟨h.one, h.row, h.cnt, h.lo, h.out⟩
    obtain ⟨K2, hK2⟩ : ∃ K : Inhabited KeptW, ∀ k, @keptW K k = if k = g then some (.cells cur 9 (0, 0)) else none := ⟨⟨⟨fun k => if k = g then some (.cells cur 9 (0, 0)) else none⟩⟩, fun _ => rfl⟩
    have hs : St (KW := K2) w0 S O w f gs gc m n := St.mk (KW := K2) g1 g2 g3 g4 g5 (fun k o hk => by
      rw [hK2] at hk
      by_cases hkg : k = g
      · subst hkg
        rw [if_pos rfl] at hk
        cases hk
        exact ⟨h2, hO _ rfl, by omega, by omega⟩
      · rw [if_neg hkg] at hk; cases hk)
    refine (storePut_any (KW := K2) v b hs hE hS hg hk hn0 hn1 hv hb).mono ?_
    rintro e w' ⟨O', n', he, hn, hs'⟩
    obtain ⟨q1, q2, q3⟩ := St.kp (KW := K2) hs' g (.cells cur 9 (0, 0)) (by rw [hK2, if_pos rfl])
    have f1 := St.one (KW := K2) hs'
    have f2 := St.row (KW := K2) hs'
    have f3 := St.cnt (KW := K2) hs'
    have f4 := St.lo (KW := K2) hs'
    have f5 := St.out (KW := K2) hs'
    clear hs' hs
    have hs2 : St (KW := KW) w0 S O' w' f gs gc (putO m b).1 n' := St.mk (KW := KW) f1 f2 f3 f4 f5 (fun k o hk => by rw [hkp] at hk; cases hk)
    exact ⟨O', n', he, hn, hs2, ⟨hl, .inr ⟨g, cap, cur, rfl, h1, q1, h3⟩⟩, fun j hj => by cases hj; exact q2⟩

end Go.Proofs.YtfimfbdlegookaaGreatDoor

/-! A slice of slices of bytes. Conditions: as each theorem states. -/
namespace Go.Proofs.YtfimfbdlegookaaGreatDoor
open Go Go.RowKit

/-- A slice of slices of bytes. -/
def IsBss (w : World) (v : Value) (L : List B8) : Prop := ∃ vs : List Value, vs.length = L.length ∧ Row w v L.length vs ∧ ∀ (k : Nat) u b, vs[k]? = some u → L[k]? = some b → IsBytes w u b
theorem IsBss.get {w : World} {v : Value} {L : List B8} (h : IsBss w v L) : ∃ a cap, v = .slice a L.length cap ∧ L.length ≤ cap ∧ cap ≤ 9223372036854775807 ∧ L.length ≤ 140737488355328 ∧ ∀ (k : Nat) b, L[k]? = some b → ∃ bb oo u, a = some ⟨bb, oo, none⟩ ∧ w.cell? ⟨bb, oo + k, none⟩ = some u ∧ IsBytes w u b := by
  obtain ⟨vs, hn, ⟨a, cap, rfl, h1, h2, h3, h4⟩, hb⟩ := h
  refine ⟨a, cap, rfl, h1, h2, h3, fun k b hk => ?_⟩
  have hlt := (List.getElem?_eq_some_iff.1 hk).1
  obtain ⟨u, hu⟩ : ∃ u, vs[k]? = some u := ⟨_, List.getElem?_eq_getElem (by omega)⟩
  obtain ⟨bb, oo, rfl, hc⟩ := h4 (fun e => by rw [e] at hn; simp at hn; omega)
  exact ⟨bb, oo, u, rfl, hc k u hu, hb k u b hu hk⟩

end Go.Proofs.YtfimfbdlegookaaGreatDoor

/-! marlaw8.is; a plan of events that is given to a file system. Conditions: as each theorem states. -/
namespace Go.Proofs.YtfimfbdlegookaaGreatDoor
open Go Go.RowKit
set_option linter.unusedVariables false
set_option linter.unusedSimpArgs false
set_option linter.unusedSectionVars false

variable [Inhabited BaseW]
/-- Events are given to a file system of the call's own. -/
theorem One.plan {w0 w w' : World} {S O : Nat → Prop} {f : Value} {m : Fs} {L : List Ev} (h : One w0 S O w f m) (hf : IsFs (Nu w w') O (Nw (fun k => k < w.heap.size) w w') w' f (planM m L)) (hr : Fr O w w') : One w0 (Nu w w') O w' f (planM m L) := by
  have hs := hr.size
  have hs0 := h.ext.size
  refine ⟨Ext.of_fr h.ext hr (fun k hk => (h.lo k hk).1), hf.mono (fun _ h => h) (fun k hk => by rcases hk with hk | hk <;> omega), fun k hk => by have := h.lo k hk; omega, fun k hk => ⟨by have := hk.1; omega, hk.2⟩, fun k hk ho => ?_⟩
  have h1 := h.lo k ho
  have h2 := hk.1
  omega

/-! ### What holds at each stage -/
def otherB : B8 := [111, 116, 104, 101, 114]
structure Bef (m : Fs) (a oth : B8) (hv : B8 → Option B8) (n : Nat) : Prop where
  ap : Ap m none hv n
  head : (hv headB).getD [] = a
  oth : hv otherB = some oth
  pend : m.pend = []
  sure : m.sure = m.now
def hvO (oth : B8) : B8 → Option B8 := updH (fun _ => none) otherB oth
theorem Bef.mono {m : Fs} {a oth : B8} {hv : B8 → Option B8} {n k : Nat} (h : Bef m a oth hv n) (hk : n ≤ k) : Bef m a oth hv k := ⟨⟨h.ap.plan, h.ap.down, h.ap.room, h.ap.f.mono hk⟩, h.head, h.oth, h.pend, h.sure⟩
/-! ### What is asked ahead -/
def okE (a b oth : B8) (L : List Ev) : Bool := fewEv L && (decide (a.length ≤ 100) && (decide (b.length ≤ 100) && (decide (oth.length ≤ 100) && (validB b && ((a == [] || validB a) && validB oth)))))
/-! ### Events that are given on -/
def evIn (e : Ev) : Bool := decide (0 < e.t) && decide (e.t < 100)
def planE (c : Nat) (L : List Ev) : List Ev := (L.filter evIn).map fun e => { e with t := e.t + c }
theorem noU_snoc {L : List Ev} {k : Nat} {e : Ev} (h : L[k]? = some e) (h0 : NoUser (L.take k)) (h1 : e.kind ≠ 4 ∧ e.kind ≠ 5) : NoUser (L.take (k + 1)) := by
  rw [take_snocN h]
  intro d hd
  rcases List.mem_append.1 hd with hd | hd
  · exact h0 d hd
  · rw [List.mem_singleton.1 hd]; exact h1
theorem few_path {L : List Ev} (h : fewEv L = true) : L.length ≤ 60 ∧ ∀ e ∈ L, e.path.length ≤ 400 := by
  unfold fewEv at h
  simp only [Bool.and_eq_true, decide_eq_true_eq, List.all_eq_true] at h
  exact ⟨h.1, h.2.1⟩
theorem good_crash {n : Nat} {m : Fs} (h : Good n m) (keep torn : Int) : Good (n + 1) (crash m keep torn) :=
  have k10 := left_hap h.ok ⟨0, 1, 0, keep, torn, [], []⟩
  h.left (k10.1.mono (by omega)) (by have := k10.2; show (hapM m ⟨0, 1, 0, keep, torn, [], []⟩).calls ≤ _; omega)

end Go.Proofs.YtfimfbdlegookaaGreatDoor

/-! marlaw7.StoreWhole. Conditions: as each theorem states. -/
namespace Go.Proofs.YtfimfbdlegookaaGreatDoor
open Go Go.RowKit Go.Sort
set_option linter.unusedVariables false
set_option linter.unusedSimpArgs false
set_option linter.unusedSectionVars false

def sumL (L : List B8) : Nat := L.foldl (fun n b => min (n + min b.length 40000) 160000) 0
theorem sumL_snoc {L : List B8} {k : Nat} {b : B8} (h : L[k]? = some b) : sumL (L.take (k + 1)) = min (sumL (L.take k) + min b.length 40000) 160000 := by
  obtain ⟨hlt, rfl⟩ := List.getElem?_eq_some_iff.1 h
  unfold sumL
  rw [List.take_succ_eq_append_getElem hlt, List.foldl_append]
  rfl
theorem sumL_le (L : List B8) : sumL L ≤ 160000 := by
  have h : ∀ (l : List B8) (n : Nat), n ≤ 160000 → l.foldl (fun n b => min (n + min b.length 40000) 160000) n ≤ 160000 := by
    intro l
    induction l with
    | nil => intro n hn; exact hn
    | cons b l ih => intro n hn; exact ih _ (Nat.min_le_right _ _)
  exact h L 0 (by omega)
def okS (bs : List B8) (L : List Ev) : Bool := decide (bs.length ≤ 60) && decide (sumL bs ≤ 40000) && fewEv L
theorem okS_bad {bs : List B8} {L : List Ev} {bad : Bool} (h : okS bs L = !bad) (h2 : okS bs L = false) : bad = true := by
  rw [h2] at h
  cases bad
  · exact absurd h (by decide)
  · rfl
theorem okS_good {bs : List B8} {L : List Ev} {bad : Bool} (h : okS bs L = !bad) (h1 : bs.length ≤ 60) (h2 : sumL bs ≤ 40000) (h3 : fewEv L = true) : bad = false := by
  unfold okS at h
  rw [decide_eq_true h1, decide_eq_true h2, h3] at h
  clear h1 h2 h3
  cases bad
  · rfl
  · exact absurd h (by decide)
theorem okS_all {bs : List B8} {L : List Ev} (h : okS bs L = !false) : bs.length ≤ 60 ∧ sumL bs ≤ 40000 ∧ fewEv L = true := by
  unfold okS at h
  simp only [Bool.not_false, Bool.and_eq_true, decide_eq_true_eq] at h
  exact ⟨h.1.1, h.1.2, h.2⟩
variable [Inhabited BaseW]
def In60 (k : Nat) (bs : List B8) : Bool := decide (k < bs.length) && decide (k < 60)
set_option maxRecDepth 100000 in
set_option maxHeartbeats 16000000 in
theorem whole_kept [KW : Inhabited KeptW] (hkp : ∀ k, keptW k = none) (room : Int) (vl : Value) (bs : List B8) (vp : Value) (L : List Ev) (keep torn : Int) (w : World) (hB : Ext baseW w) (hE : Env w) (hS : EnvS w) (hbs : IsBss w vl bs) (hv : ReadO w IsEvI vp L) (hi : ∀ e ∈ L, I64 e.keep ∧ I64 e.torn) (hk : I64 keep) (ht : I64 torn) :
    Calls Tryz.prog 7 #[.int .i64 room, vl, vp, .int .i64 keep, .int .i64 torn] w fun e w' => e = .returned (.bool true) ∧ Ext w w' := by
  obtain ⟨pa, pc, rfl, l1, l2, l3, h4⟩ := readO_get 7 (fun c x hx => hx.length.1) (by omega) hv
  have H4 : Hid _ := h4
  obtain ⟨ba, bc, rfl, b1, b2, b3, hbg⟩ := hbs.get
  have HBG : Hid _ := hbg
  have HKP : Hid (∀ k, keptW k = none) := hkp
  have HV : Hid (ReadO w IsEvI (.slice pa L.length pc) L) := hv
  have HE : Hid (Env w) := hE
  have HS : Hid (EnvS w) := hS
  have HBW : Hid (Ext baseW w) := hB
  have HI : Hid (∀ e ∈ L, I64 e.keep ∧ I64 e.torn) := hi
  have HK : Hid (I64 keep) := hk
  have HTN : Hid (I64 torn) := ht
  clear h4 hv hE hS hB hi hk ht hbs hbg hkp
  go_enter Tryz.func7, Tryz.ntmps7
  go_wp2_with fail
  go_at_call 39
  refine (first7_any w HE.out HS.out).mono ?_
  rintro e w1 ⟨rfl, hx1⟩
  have HX1 : Hid (Ext w w1) := hx1
  clear hx1
  go_wp2_with fail
  go_loopw [11, 12] (fun v i wr => ∃ k : Nat, k ≤ bs.length ∧ k ≤ 60 ∧ i = .int .i64 k ∧ v = .int .i64 (sumL (bs.take k) : Nat) ∧ wr = w1) (fun _ i _ => bs.length - (intOf i).toNat)
  case atStart => exact ⟨0, Nat.zero_le _, Nat.zero_le _, rfl, rfl, rfl⟩
  case round =>
    obtain ⟨k, hk, hk6, rfl, rfl, rfl⟩ := hrel
    have hsl := sumL_le (bs.take k)
    obtain ⟨sn, hsn⟩ : ∃ sn, sumL (bs.take k) = sn := ⟨_, rfl⟩
    have HSN : Hid _ := hsn
    rw [hsn] at hsl ⊢
    clear hsn
    obtain ⟨c6, hc6⟩ : ∃ c, In60 k bs = c := ⟨_, rfl⟩
    have HC6 : Hid _ := hc6
    clear hc6
    go_upto_region 5 with fail
    go_cut [38] (fun c wx => c = .bool c6 ∧ wx = wr)
    case first =>
      by_cases hlt : k < bs.length
      · have hlt2 : (k : Int) < (bs.length : Int) := by omega
        by_cases hl6 : k < 60
        · have hl62 : (k : Int) < 60 := by omega
          have HR : Hid (c6 = true) := by rw [← HC6.out]; unfold Hid In60; rw [decide_eq_true hlt, decide_eq_true hl6]; rfl
          go_wp2_with fail
          go_meet
          case rel => exact ⟨by rw [HR.out], rfl⟩
        · have hl62 : ¬ (k : Int) < 60 := by omega
          have HR : Hid (c6 = false) := by rw [← HC6.out]; unfold Hid In60; rw [decide_eq_true hlt, decide_eq_false hl6]; rfl
          go_wp2_with fail
          go_meet
          case rel => exact ⟨by rw [HR.out], rfl⟩
      · have hlt2 : ¬ (k : Int) < (bs.length : Int) := by omega
        have HR : Hid (c6 = false) := by rw [← HC6.out]; unfold Hid In60; rw [decide_eq_false hlt]; rfl
        go_wp2_with fail
        go_meet
        case rel => exact ⟨by rw [HR.out], rfl⟩
    case rest =>
    obtain ⟨rfl, rfl⟩ := hcut
    cases c6 with
    | true =>
      have hlt : k < bs.length ∧ k < 60 := by
        have h9 := HC6.out
        unfold In60 at h9
        simpa using h9
      obtain ⟨hlt, hlt6⟩ := hlt
      obtain ⟨b, hkb⟩ : ∃ b, bs[k]? = some b := ⟨_, List.getElem?_eq_getElem hlt⟩
      obtain ⟨bb, oo, u, rfl, hcu, hby⟩ := HBG.out k b hkb
      obtain ⟨s1, s2, rfl, -, -, hbl, -⟩ := hby
      have c1 := HX1.out.cell hcu
      have hsx := sumL_snoc hkb
      have HSX : Hid _ := hsx
      clear hsx hcu hkb
      go_wp2_with fail
      go_roundw
      case rel => exact ⟨k + 1, by omega, by omega, by go_num, by rw [HSX.out, HSN.out]; go_num, trivial⟩
      case measure => simp [intOf]; omega
    | false =>
      have hnk : ¬ (k < bs.length ∧ k < 60) := by
        have h9 := HC6.out
        unfold In60 at h9
        intro hc
        rw [decide_eq_true hc.1, decide_eq_true hc.2] at h9
        cases h9
      have HNK : Hid (k = bs.length ∨ k = 60 ∧ 60 < bs.length) := by
        show _ ∨ _
        omega
      clear hnk
      go_wp2_with fail
      go_at_call 11
      by_cases hroom : room < 0 ∨ 1073741824 < room
      · refine (new_no room _ hroom).mono ?_
        rintro e w3 ⟨rfl, rfl⟩
        clear hroom
        go_wp2_with fail
        go_at_call 39
        refine (first7_any _ (HE.out.ext HX1.out) (HS.out.ext HX1.out)).mono ?_
        rintro e w4 ⟨rfl, hx4⟩
        go_wp2
        go_ret
        exact ⟨rfl, HX1.out.trans hx4⟩
      have hr0 : 0 ≤ room := by omega
      have hr1 : room ≤ 1073741824 := by omega
      obtain ⟨wb, hwb⟩ : ∃ wb, wb = wc := ⟨_, rfl⟩
      subst hwb
      refine (new_yes room _ hr0 hr1).mono ?_
      rintro e w2 ⟨⟨p, rfl, hf⟩, hx2⟩
      have H2 : Hid (One wb (fun _ => False) (Nu wb w2) w2 p (newM room)) := One.new hf hx2
      obtain ⟨g, rfl⟩ : ∃ g, p = .pointer (some ⟨g, 0, none⟩) := by
        obtain ⟨g, gm, gd, vp, vl, vu, L, c0, hpe, -⟩ := hf
        exact ⟨g, hpe⟩
      have HX2 : Hid (Ext w w2) := HX1.out.trans hx2
      clear hf hx2 hroom
      obtain ⟨bad, hbad⟩ : ∃ c : Bool, okS bs L = !c := ⟨!okS bs L, by simp⟩
      have HBAD : Hid _ := hbad
      clear hbad
      go_upto_region 9 with fail
      go_cut [74] (fun c wx => c = .bool bad ∧ Ext w2 wx)
      case first => as_aux_lemma =>
        by_cases hl60 : (60 : Int) < (bs.length : Int)
        · have HR : Hid (bad = true) := okS_bad HBAD.out (by unfold okS; rw [decide_eq_false (by omega : ¬ bs.length ≤ 60)]; simp)
          go_wp2_with fail
          go_meet
          case rel => exact ⟨by rw [HR.out], Ext.refl _⟩
        have HKE : Hid (sumL bs = sn) := by
          have h9 := HSN.out
          have h8 := HNK.out
          rw [show bs.take _ = bs from List.take_of_length_le (by omega)] at h9
          exact h9
        by_cases hln : (40000 : Int) < (sn : Int)
        · have HR : Hid (bad = true) := okS_bad HBAD.out (by unfold okS; rw [HKE.out, decide_eq_false (by omega : ¬ sn ≤ 40000)]; simp)
          go_wp2_with fail
          go_meet
          case rel => exact ⟨by rw [HR.out], Ext.refl _⟩
        obtain ⟨fw, hfw⟩ : ∃ b, fewEv L = b := ⟨_, rfl⟩
        have HFW : Hid _ := hfw
        clear hfw
        go_wp2_with fail
        go_at_call 23
        refine (fewEvents_any (HV.out.dExt HX2.out)).mono ?_
        rw [HFW.out]
        rintro e w3 ⟨rfl, hx3⟩
        have H3 : Hid (Ext w2 w3) := hx3
        clear hx3
        cases fw with
        | false =>
          have HR : Hid (bad = true) := okS_bad HBAD.out (by unfold okS; rw [HFW.out]; simp)
          go_wp2_with fail
          go_meet
          case rel => exact ⟨by rw [HR.out], H3.out⟩
        | true =>
          have HR : Hid (bad = false) := okS_good HBAD.out (by omega) (by rw [HKE.out]; omega) HFW.out
          go_wp2_with fail
          go_meet
          case rel => exact ⟨by rw [HR.out], H3.out⟩
      case rest =>
      obtain ⟨rfl, hx26⟩ := hcut
      obtain ⟨w6, rfl⟩ : ∃ w6 : World, w6 = wc := ⟨_, rfl⟩
      have HX6 : Hid (Ext w w6) := HX2.out.trans hx26
      have HO6 : Hid (One wb (fun _ => False) (Nu wb w2) w6 (.pointer (some ⟨g, 0, none⟩)) (newM room)) := One.more H2.out hx26
      clear hx26
      cases bad with
      | true =>
        go_wp2_with fail
        go_at_call 39
        refine (first7_any w6 (HE.out.ext HX6.out) (HS.out.ext HX6.out)).mono ?_
        rintro e wz ⟨rfl, hxz⟩
        go_wp2
        go_ret
        exact ⟨rfl, HX6.out.trans hxz⟩
      | false =>
      obtain ⟨hb60, hbs4, hfw⟩ := okS_all HBAD.out
      obtain ⟨hl60, hpth⟩ := few_path hfw
      have HPTH : Hid _ := hpth
      clear hpth hfw HSN
      go_wp2_with fail
      go_loopw [15] (fun i wq => ∃ k : Nat, k ≤ L.length ∧ i = .int .i64 k ∧ NoUser (L.take k) ∧ Ext w6 wq) (fun i _ => L.length - (intOf i).toNat)
      case atStart => exact ⟨0, Nat.zero_le _, rfl, (fun e he => by simp at he), Ext.refl _⟩
      case round =>
      obtain ⟨k, hk, rfl, hnu, hxr⟩ := hrel
      have HNU : Hid (NoUser (L.take k)) := hnu
      have HXR : Hid (Ext w6 wr) := hxr
      have HXW : Hid (Ext w wr) := HX6.out.trans hxr
      clear hnu hxr
      by_cases hlt : k < L.length
      · skip
        obtain ⟨e, hke⟩ : ∃ e, L[k]? = some e := ⟨_, List.getElem?_eq_getElem hlt⟩
        obtain ⟨bb, oo, cs, rfl, hev, hc⟩ := H4.out k e hke
        obtain ⟨vd, rfl, hd⟩ := hev
        have c1 := HXW.out.cell (hc 1 _ rfl)
        have HKE : Hid _ := hke
        clear hc hd hke
        by_cases k4 : e.kind = 4
        · have hk4 : (e.kind == 4) = true := by simpa using k4
          clear k4
          go_wp2_with fail
          go_at_call 39
          refine (first7_any wr (HE.out.ext HXW.out) (HS.out.ext HXW.out)).mono ?_
          rintro e wz ⟨rfl, hxz⟩
          go_wp2
          go_ret
          exact ⟨rfl, HXW.out.trans hxz⟩
        · have hk4 : (e.kind == 4) = false := by simpa using k4
          by_cases k5 : e.kind = 5
          · have hk5 : (e.kind == 5) = true := by simpa using k5
            clear k4 k5
            go_wp2_with fail
            go_at_call 39
            refine (first7_any wr (HE.out.ext HXW.out) (HS.out.ext HXW.out)).mono ?_
            rintro e wz ⟨rfl, hxz⟩
            go_wp2
            go_ret
            exact ⟨rfl, HXW.out.trans hxz⟩
          · have hk5 : (e.kind == 5) = false := by simpa using k5
            have HNU2 : Hid (NoUser (L.take (k + 1))) := noU_snoc HKE.out HNU.out ⟨k4, k5⟩
            clear k4 k5
            go_wp2_with fail
            go_roundw
            case rel => exact ⟨k + 1, by omega, by go_num, HNU2.out, HXR.out⟩
            case measure => simp [intOf]; omega
      · have hkk : k = L.length := by omega
        subst hkk
        have HNUL : Hid (NoUser L) := by have h9 := HNU.out; rw [List.take_length] at h9; exact h9
        have HE1 : Hid (Env wb) := HE.out.ext HX1.out
        have HS1 : Hid (EnvS wb) := HS.out.ext HX1.out
        have HOR : Hid (One wb (fun _ => False) (Nu wb w2) wr (.pointer (some ⟨g, 0, none⟩)) (newM room)) := One.more HO6.out HXR.out
        have HRB : Hid (ReadB wr (.slice pa L.length pc) L) := (ReadO.dUp (HV.out.dExt HXW.out) (fun e he => HPTH.out e he)).dRead (HBW.out.trans HXW.out)
        have HWH : Hid (Wh (planM (newM room) L) []) := wh_start HNUL.out
        have HG0 : Hid (Good 0 (planM (newM room) L)) := good_plan (good_new hr0 hr1) hl60 (fun e he => ⟨(HI.out e he).1, (HI.out e he).2, HPTH.out e he⟩)
        have hPl : L.length ≤ 1000 := by omega
        clear HNUL HNU HO6 H2 HPTH HXR
        go_wp2_with fail
        go_at_call 25
        refine (plan_any HOR.out.fs (fun k hk => (HOR.out.lo k hk).2) HRB.out hPl).mono ?_
        rintro e9 w11 ⟨rfl, hf11, hr11⟩
        obtain ⟨S1, hS1⟩ : ∃ S, S = Nu wr w11 := ⟨_, rfl⟩
        have HO11 : Hid (One wb S1 (Nu wb w2) w11 (.pointer (some ⟨g, 0, none⟩)) (planM (newM room) L)) := by rw [hS1]; exact One.plan HOR.out hf11 hr11
        clear hf11 hr11 hS1 HOR HRB
        generalize planM (newM room) L = m1 at *
        go_wp2_with fail
        go_at_call 40
        refine (open_any HO11.out HKP.out).mono ?_
        rintro e w12 ⟨gs, gc, rfl, hst, hsz12⟩
        have HST : Hid (St wb S1 (Nu wb w2) w12 (.pointer (some ⟨g, 0, none⟩)) gs gc m1 0) := hst
        have hlt2 := hst.lt
        clear hst HO11
        have HLO : Hid (wb.heap.size ≤ w12.heap.size) := HST.out.one.ext.size
        have HS1L : Hid (∀ j, w12.heap.size ≤ j → ¬ S1 j) := fun j hj hs => by have := (HST.out.one.loS j hs).2; omega
        go_wp2_with fail
        go_loopw [17, 18] (fun vt i wr => ∃ (k : Nat) (T : List B8) (m : Fs) (O' : Nat → Prop) (n : Int), k ≤ bs.length ∧ i = .int .i64 k ∧ T.length ≤ k ∧ (0 ≤ n ∧ n ≤ k) ∧ (∀ s ∈ T, s.length = 64) ∧ Hid (Wh m T) ∧ Hid (Good (3 * k) m) ∧ Hid (St wb S1 O' wr (.pointer (some ⟨g, 0, none⟩)) gs gc m n) ∧ Hid (wr.ownsRow w12.heap.size 9 1 vt T.length (T.map S8)) ∧ ∀ j, vt.ownBlock = some j → ¬ O' j) (fun _ i _ => bs.length - (intOf i).toNat)
        case atStart => exact ⟨0, [], m1, _, 0, Nat.zero_le _, rfl, Nat.le_refl _, ⟨by omega, by omega⟩, (fun s hs => by cases hs), HWH, HG0, HST, World.ownsRow_nil _ _ _ _, (fun j hj => by cases hj)⟩
        case round =>
        obtain ⟨k, T, m, O1, n, hk, rfl, hT, ⟨hn0, hn1⟩, hT64, HWH, HG, HST, HOW, hOj⟩ := hrel
        have HT64 : Hid _ := hT64
        have HOJ : Hid _ := hOj
        clear hT64 hOj
        by_cases hlt : k < bs.length
        · skip
          obtain ⟨b, hkb⟩ : ∃ b, bs[k]? = some b := ⟨_, List.getElem?_eq_getElem hlt⟩
          obtain ⟨bb, oo, u, rfl, hcu, hby⟩ := HBG.out k b hkb
          have hbl := hby.len
          have HA : Hid (Arg wb wr u b) := .inl (IsBytes.ext hby HX1.out)
          obtain ⟨s1, s2, rfl, -⟩ := hby
          have c1 := HST.out.one.ext.cell (HX1.out.cell hcu)
          have hp := put_wh HG.out.ok HG.out.plan HWH.out b
          have hgp := good_putO HG.out b
          have hc := put_told HKP.out _ b HST.out HE1.out HS1.out HG.out (by omega) hn0 (by omega) HA.out hbl HOW.out hlt2 HOJ.out
          obtain ⟨⟨m2, id, er⟩, hm2⟩ : ∃ q, putO m b = q := ⟨_, rfl⟩
          rw [hm2] at hp hgp hc
          obtain ⟨hp1, hp2⟩ := hp
          have HC : Hid _ := hc
          have HGP : Hid _ := hgp
          have HP1 : Hid _ := hp1
          have HP2 : Hid _ := hp2
          clear hp1 hp2 hgp hc hm2 hcu hkb HA HG HWH HST HOW HOJ
          go_wp2_with fail
          go_at_call 41
          refine Calls.mono HC.out ?_
          rintro e w3 ⟨O2, n2, rfl, ⟨hn2, hn3⟩, hst, hown, hO2⟩
          have HST : Hid (St wb S1 O2 w3 (.pointer (some ⟨g, 0, none⟩)) gs gc m2 n2) := hst
          have hsz3 := hst.lt
          have hs3 := hst.one.ext.size
          clear hst HC
          try dsimp only
          by_cases her : er = 0
          · have herb : (er == 0) = true := by simpa using her
            obtain ⟨hid, hwh⟩ := HP2.out her
            have hid64 : id.length = 64 := by rw [hid]; exact sha_len _
            rw [← hid] at hwh
            have HWH2 : Hid (Wh m2 (T ++ [id])) := hwh
            have HT2 : Hid (∀ s ∈ T ++ [id], s.length = 64) := fun s hs => by
              rcases List.mem_append.1 hs with hs | hs
              · exact HT64.out s hs
              · rw [List.mem_singleton.1 hs]; exact hid64
            clear her hid hwh HP1 HP2
            obtain ⟨wa, hwa⟩ : ∃ wa, wa = w3.alloc (.cells #[S8 id] 9) := ⟨_, rfl⟩
            have hxa : Ext w3 wa := by rw [hwa]; exact (Ext.refl _).alloc _
            have hga : wa.heap[w3.heap.size]? = some (.cells #[S8 id] 9 (0, 0)) := by rw [hwa]; exact alloc_at _ _
            have hsa := hxa.size
            have hsta := HST.out.more hxa
            have howa := owns_ext hown hxa
            go_wp2_with (at_builtin; go_must (rw [← hwa]; refine app_str1 rfl _ _ rfl w12.heap.size _ T.length T rfl howa w3.heap.size 1 id rfl hga (by omega) (by omega) ?_; intro v' w4 hown4 hg4 hob4))
            have hst4 := St.app HKP.out hsta howa hg4 hlt2 HLO.out hO2 HS1L.out
            have HO4 : Hid (∀ j, v'.ownBlock = some j → ¬ O2 j) := fun j hj ho => by
              rcases hob4 j hj with h9 | h9
              · exact hO2 j h9 ho
              · have := (HST.out.one.lo j ho).2; omega
            go_roundw
            case rel => exact ⟨k + 1, T ++ [id], m2, O2, n2, by omega, by go_num, by simp; omega, ⟨by omega, by omega⟩, HT2.out, HWH2, HGP, hst4, (by unfold Hid; rw [List.length_append]; exact hown4), HO4.out⟩
            case measure => simp [intOf]; omega
          · have herb : (er == 0) = false := by simpa using her
            obtain ⟨hid, hwh⟩ := HP1.out her
            subst hid
            have HWH2 : Hid (Wh m2 T) := hwh
            have HOW : Hid _ := hown
            have HO2 : Hid _ := hO2
            clear her hwh HP1 HP2 hown hO2
            go_wp2_with fail
            go_roundw
            case rel => exact ⟨k + 1, T, m2, O2, n2, by omega, by go_num, by omega, ⟨by omega, by omega⟩, HT64.out, HWH2, HGP, HST, HOW, HO2.out⟩
            case measure => simp [intOf]; omega
        · have hkk : k = bs.length := by omega
          subst hkk
          have hTl : T.length ≤ 60 := by omega
          have HV3 : Hid (IsStrs wr u17 T) := by unfold Hid IsStrs; exact Row.of_owns HOW.out (by omega)
          obtain ⟨ta, tc, rfl, t1, t2, t3, tg⟩ := HV3.out.get
          have HO1 : Hid (One wb S1 O1 wr (.pointer (some ⟨g, 0, none⟩)) m) := HST.out.one
          obtain ⟨dn, hdn⟩ : ∃ dn, (!m.down) = dn := ⟨_, rfl⟩
          have HDN : Hid _ := hdn
          obtain ⟨wS, hwS⟩ : ∃ wS, wS = wr := ⟨_, rfl⟩
          subst hwS
          clear hdn tg HOW HOJ HST
          go_wp2_with fail
          go_at_call 26
          refine (up_any HO1.out.fs).mono ?_
          rw [HDN.out]
          rintro e9 wu ⟨rfl, hwu⟩
          rw [hwu]
          clear hwu
          go_upto_if 135 with fail
          go_cut [21, 22, 23] (fun a b c wx => One wb S1 O1 wx (.pointer (some ⟨g, 0, none⟩)) m)
          case first =>
            cases dn with
            | false =>
              go_wp2_with fail
              go_meet
              case rel => exact HO1.out
            | true =>
              have hmd : m.down = false := by simpa using HDN.out
              have HMD : Hid _ := hmd
              clear hmd
              go_wp2_with fail
              go_loopw [21] (fun i wr => ∃ k : Nat, k ≤ T.length ∧ i = .int .i64 k ∧ Hid (Ext wS wr)) (fun i _ => T.length - (intOf i).toNat)
              case atStart => exact ⟨0, Nat.zero_le _, rfl, Ext.refl _⟩
              case round =>
              obtain ⟨k, hk, rfl, HXR⟩ := hrel
              by_cases hlt : k < T.length
              · obtain ⟨x, hxe⟩ : ∃ x, T[k]? = some x := ⟨_, List.getElem?_eq_getElem hlt⟩
                have hxm := List.mem_of_getElem? hxe
                have hxl := HT64.out x hxm
                have htold := wh_told HWH.out HMD.out hxm
                obtain ⟨_, _, he, -, -, -, hg⟩ := (IsStrs.ext HV3.out HXR.out).get
                cases he
                obtain ⟨bb, oo, rfl, hc⟩ := hg k hlt
                have y1 := hc k hlt
                rw [show T.getD k [] = x by rw [List.getD_eq_getElem?_getD, hxe]; rfl] at y1
                have hpk := peek_any (placeO x) (One.more HO1.out HXR.out).fs (by unfold placeO; simp; omega)
                obtain ⟨⟨fx, ok⟩, hq⟩ : ∃ q, peekM m (placeO x) = q := ⟨_, rfl⟩
                rw [hq] at hpk htold
                have hok : ok = true := htold
                subst hok
                have HPK : Hid _ := hpk
                clear hpk hq hxe htold hg hc hxm
                go_wp2_with fail
                go_at_call 42
                refine Calls.mono HPK.out ?_
                rintro e9 w3 ⟨⟨v, rfl, hd⟩, hx3⟩
                obtain ⟨s1, t1, rfl, -⟩ := hd.bytes
                have HX3 : Hid (Ext wS w3) := HXR.out.trans hx3
                clear hd hx3 HPK y1
                try dsimp only
                go_wp2_with fail
                go_roundw
                case rel => exact ⟨k + 1, by omega, by go_num, HX3.out.alloc _⟩
                case measure => simp [intOf]; omega
              · have hkk : k = T.length := by omega
                subst hkk
                go_wp2_with fail
                go_meet
                case rel => exact One.more HO1.out HXR.out
          case rest =>
            have HO2 : Hid (One wb S1 O1 wc (.pointer (some ⟨g, 0, none⟩)) m) := hcut
            clear hcut HV3 HO1 HT64
            go_wp2_with fail
            go_at_call 28
            refine (crash_any keep torn HO2.out.fs HG.out.ok (by have := HG.out.time; omega) HK.out HTN.out).mono ?_
            rintro e9 w15 ⟨rfl, hp15⟩
            have HO15 : Hid (One wb S1 _ w15 (.pointer (some ⟨g, 0, none⟩)) (crash m keep torn)) := One.post HO2.out hp15
            have HG5 : Hid (Good (3 * bs.length + 1) (crash m keep torn)) := good_crash HG.out keep torn
            have HW5 : Hid (Wh (crash m keep torn) T) := wh_crash HWH.out keep torn
            clear hp15 HO2 HG HWH HDN
            generalize crash m keep torn = m5 at *
            have hnl : m5.now.length ≤ 1000000 := by have := HG5.out.ok.lnow; have := HG5.out.time; omega
            go_wp2_with fail
            go_at_call 43
            refine (paths_any HO15.out.fs hnl).mono ?_
            rintro e9 w16 ⟨⟨vp, rfl, hvp⟩, hx16⟩
            have HVP : Hid (IsStrs w16 vp (pathsL m5.now)) := by
              unfold Hid IsStrs
              have hpl : (pathsL m5.now).length = m5.now.length := by simp [pathsL]
              rw [hpl]
              exact Row.of_owns hvp (by omega)
            have HO16 : Hid (One wb S1 _ w16 (.pointer (some ⟨g, 0, none⟩)) m5) := One.more HO15.out hx16
            clear hvp hx16 HO15
            obtain ⟨P5, hP5⟩ : ∃ P, pathsL m5.now = P := ⟨_, rfl⟩
            have hP5l : P5.length ≤ 1000000 := by rw [← hP5]; simpa [pathsL] using hnl
            rw [hP5] at HVP
            have HP5 : Hid _ := hP5
            clear hP5
            obtain ⟨pq, pr, rfl, p1, p2, p3, -⟩ := HVP.out.get
            go_wp2_with fail
            go_loopw [25] (fun i wr => ∃ k : Nat, k ≤ P5.length ∧ i = .int .i64 k ∧ Hid (Ext w16 wr)) (fun i _ => P5.length - (intOf i).toNat)
            case atStart => exact ⟨0, Nat.zero_le _, rfl, Ext.refl _⟩
            case round =>
            obtain ⟨k, hk, rfl, HXR⟩ := hrel
            by_cases hlt : k < P5.length
            · obtain ⟨x, hxe⟩ : ∃ x, P5[k]? = some x := ⟨_, List.getElem?_eq_getElem hlt⟩
              have hxm : x ∈ pathsL m5.now := by rw [HP5.out]; exact List.mem_of_getElem? hxe
              obtain ⟨hxp, hxl⟩ := ok_path HG5.out.ok hxm
              obtain ⟨fx, hq, hxo⟩ := wh_peek HW5.out hxm
              have hfl := ok_peek HG5.out.ok hq
              obtain ⟨_, _, he, -, -, -, hg⟩ := (IsStrs.ext HVP.out HXR.out).get
              cases he
              obtain ⟨bb, oo, rfl, hc⟩ := hg k hlt
              have y1 := hc k hlt
              rw [show P5.getD k [] = x by rw [List.getD_eq_getElem?_getD, hxe]; rfl] at y1
              have hpk := peek_any x (One.more HO16.out HXR.out).fs (by omega)
              rw [hq] at hpk
              have HPK : Hid _ := hpk
              have HXO : Hid _ := hxo
              have HXP : Hid _ := hxp
              clear hpk hq hxe hg hc hxm hxo hxp
              go_wp2_with fail
              go_at_call 42
              refine Calls.mono HPK.out ?_
              rintro e9 w3 ⟨⟨v, rfl, hd⟩, hx3⟩
              have hdb := hd.bytes
              obtain ⟨s1, t1, rfl, -⟩ := hdb
              have HD : Hid (IsData _ w3 (.slice s1 fx.data.length t1) fx.data) := hd
              have y2 := hx3.cell y1
              have HX3 : Hid (Ext w16 w3) := HXR.out.trans hx3
              clear hd hx3 HPK y1
              try dsimp only
              go_upto_region 42 with fail
              obtain ⟨w4, hw4⟩ : ∃ w4, w4 = w3.alloc (.cells #[.int .i64 fx.mode, .slice s1 fx.data.length t1, .int .i64 fx.time] 76) := ⟨_, rfl⟩
              have hx4 : Ext w3 w4 := by rw [hw4]; exact (Ext.refl _).alloc _
              have hb4 : w4.heap[w3.heap.size]? = some (.cells #[.int .i64 fx.mode, .slice s1 fx.data.length t1, .int .i64 fx.time] 76 (0, 0)) := by rw [hw4]; exact alloc_at _ _
              rw [← hw4]
              obtain ⟨gx, hgx⟩ : ∃ gx, w3.heap.size = gx := ⟨_, rfl⟩
              rw [hgx] at hb4 ⊢
              have y3 := hx4.cell y2
              have HX4 : Hid (Ext w16 w4) := HX3.out.trans hx4
              have HD4 : Hid (IsBytes w4 (.slice s1 fx.data.length t1) fx.data) := IsBytes.ext HD.out.bytes hx4
              have HXW4 : Hid (Ext w w4) := HX1.out.trans (HO16.out.ext.trans HX4.out)
              obtain ⟨-, z1, -⟩ := cellsAt3 hb4
              clear hw4 hx4 hb4 hgx y2 HD HX3
              go_wp2_with fail
              go_at_call 44
              refine (nsplit_any x w4 (HE.out.ext HXW4.out) (by omega)).mono ?_
              rintro e9 w5 ⟨⟨vq, rfl, hvq⟩, hx5⟩
              have y4 := hx5.cell y3
              have z2 := hx5.cell z1
              have HVQ : Hid (IsStrs w5 vq (splitL x)) := hvq
              have HX5 : Hid (Ext w16 w5) := HX4.out.trans hx5
              have HXW5 : Hid (Ext w w5) := HXW4.out.trans hx5
              have HD5 : Hid (IsBytes w5 (.slice s1 fx.data.length t1) fx.data) := IsBytes.ext HD4.out hx5
              clear hvq hx5 y3 z1 HD4 HX4 HXW4
              go_upto_region 43 with fail
              go_cut [198] (fun c wx => c = .bool false ∧ Ext w5 wx)
              case first =>
                rcases HXO.out with hxt | hxpl
                · have hxb : (x == ([115, 47, 116] : B8)) = true := by rw [hxt]; rfl
                  clear hxt
                  obtain ⟨qa, qc, rfl, -⟩ := HVQ.out.get
                  have v0 := fun d os => cell_regrown y4 d os
                  clear y4 z2
                  refine qw_below (by kernel_rfl) (by kernel_rfl) ?_
                  repeat (refine qw_step (fun K hK => ?_); go_simp; (refine hK _ ?_; clear hK K))
                  refine qw_nil ?_
                  intro _ hw'
                  obtain ⟨⟨dq, osq⟩, hw''⟩ := hw'
                  subst hw''
                  go_wp2_with fail
                  go_meet
                  case rel => exact ⟨rfl, Ext.regrown _ _ _⟩
                · have hxb : (x == ([115, 47, 116] : B8)) = false := by
                    rw [hxpl]
                    have h9 := place_ne_temp (a := shaM fx.data)
                    simpa [bne, tempP] using h9
                  have hsp : splitL x = [[115], [111], shaM fx.data] := by
                    have h9 := HXP.out
                    rw [hxpl] at h9 ⊢
                    exact split_place h9
                  obtain ⟨sh, hsh⟩ : ∃ s, shaM fx.data = s := ⟨_, rfl⟩
                  have HSH : Hid _ := hsh
                  have hvq := HVQ.out
                  rw [hsp, hsh] at hvq
                  obtain ⟨qa, qc, hve, q1, q2, q3, qg⟩ := hvq.get
                  obtain ⟨qb, qo, hqa, qh⟩ := qg 2 (by simp)
                  subst hqa
                  rw [show ([[115], [111], sh] : List B8).length = 3 from rfl] at hve
                  subst hve
                  have z3 : w5.cell? ⟨qb, qo + 2, none⟩ = some (S8 sh) := qh 2 (by simp)
                  have q9 : 3 ≤ qc := q1
                  clear hsh qh qg hvq hsp hxpl q1 q2 q3
                  have hss : (sh == sh) = true := by simp
                  have HID : Hid (∀ d os, Calls Tryz.prog 45 #[.slice s1 fx.data.length t1] (grow (redrawn w5 d) os) fun e w' => e = .returned (S8 sh) ∧ ∃ q : Regrown, w' = grow (redrawn w5 q.d) q.os) := fun d os => Calls.regrown_of (by
                    have h9 := id_sha (.slice s1 fx.data.length t1) fx.data _ (HS.out.ext (HXW5.out.trans (Ext.regrown w5 d os))) (IsBytes.ext HD5.out (Ext.regrown w5 d os)) (by omega)
                    rwa [HSH.out] at h9)
                  have v0 := fun d os => cell_regrown y4 d os
                  have v1 := fun d os => cell_regrown z2 d os
                  have v2 := fun d os => cell_regrown z3 d os
                  clear y4 z2 z3
                  refine qw_below (by kernel_rfl) (by kernel_rfl) ?_
                  repeat (refine qw_step (fun K hK => ?_); go_simp; first | (refine hK _ ?_; clear hK K) | (apply Exists.intro; refine ⟨fun _ => ?_, hK _ ?_⟩; (exact HID.out _ _); clear hK K))
                  refine qw_nil ?_
                  intro _ hw'
                  obtain ⟨⟨dq, osq⟩, hw''⟩ := hw'
                  subst hw''
                  go_wp2_with fail
                  go_meet
                  case rel => exact ⟨rfl, Ext.regrown _ _ _⟩
              case rest =>
                obtain ⟨rfl, hxc⟩ := hcut
                have HXC : Hid (Ext w16 wc) := HX5.out.trans hxc
                clear hxc
                go_wp2_with fail
                go_roundw
                case rel => exact ⟨k + 1, by omega, by go_num, HXC.out⟩
                case measure => simp [intOf]; omega
            · have hkk : k = P5.length := by omega
              subst hkk
              have HXF : Hid (Ext w _) := HX1.out.trans (HO16.out.ext.trans HXR.out)
              go_wp2_with fail
              go_at_call 39
              refine (first7_any _ (HE.out.ext HXF.out) (HS.out.ext HXF.out)).mono ?_
              rintro e9 wz ⟨rfl, hxz⟩
              go_wp2
              go_ret
              exact ⟨rfl, HXF.out.trans hxz⟩

theorem whole_any (room : Int) (vl : Value) (bs : List B8) (vp : Value) (L : List Ev) (keep torn : Int) (w : World) (hB : Ext baseW w) (hE : Env w) (hS : EnvS w) (hbs : IsBss w vl bs) (hv : ReadO w IsEvI vp L) (hi : ∀ e ∈ L, I64 e.keep ∧ I64 e.torn) (hk : I64 keep) (ht : I64 torn) :
    Calls Tryz.prog 7 #[.int .i64 room, vl, vp, .int .i64 keep, .int .i64 torn] w fun e w' => e = .returned (.bool true) ∧ Ext w w' :=
  whole_kept (KW := ⟨⟨fun _ => none⟩⟩) (fun _ => rfl) room vl bs vp L keep torn w hB hE hS hbs hv hi hk ht

end Go.Proofs.YtfimfbdlegookaaGreatDoor
