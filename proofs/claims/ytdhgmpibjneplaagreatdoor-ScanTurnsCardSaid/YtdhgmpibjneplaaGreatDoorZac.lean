/- fsim.FS: happens: an event. Conditions: at most 9000000 ticks; a short path. -/
import Derived.Test.YtdhgmpibjneplaaGreatDoorZab
import Derived.Maps.AppendAt
import Derived.Laws.LoneSync
import Derived.Deep.DeepCutAuto

set_option linter.unusedVariables false
set_option linter.unusedSimpArgs false

/-! fsim.FS: does: a change is done. Conditions: at most 10000000 files, changes, ticks. -/
namespace Go.Proofs.YtdhgmpibjneplaaGreatDoor
open Go Go.RowKit

theorem info_ch : (Tryz.prog.info? 144).map (fun i => (i.zero, i.size, i.bytes)) = some (some (.agg #[S8 [], S8 [], .bool false, .int .i64 0, .slice none 0 0, .int .i64 0]), 6, 80) := by kernel_rfl
theorem size_int : (Tryz.prog.info? 3).map (·.size) = some 1 := by kernel_rfl
theorem size_bytes : (Tryz.prog.info? 35).map (·.size) = some 1 := by kernel_rfl
theorem size_chs : (Tryz.prog.info? 77).map (·.size) = some 1 := by kernel_rfl
theorem size_evs : (Tryz.prog.info? 36).map (·.size) = some 1 := by kernel_rfl
theorem size_map : (Tryz.prog.info? 76).map (·.size) = some 1 := by kernel_rfl
theorem size_bool : (Tryz.prog.info? 4).map (·.size) = some 1 := by kernel_rfl
theorem size_fi : (Tryz.prog.info? 96).map (·.size) = some 3 := by kernel_rfl
section
variable {ops : Array Oper} {rest : List Oper} {o : Oper} {a : Act} {Q : Exit → Act → World → Prop} {w : World}
/-- append of one change. -/
theorem app_ch (hgd : o.guard = none) (s x : Operand) (ho : o.op = .call { callee := .builtin .append, args := #[s, x], argTypes := #[77, 77] })
    (base : Nat) (v : Value) (n : Nat) (xs : List Value) (hs : a.eval s = v) (hown : w.ownsRow base 144 6 v n xs)
    (g c : Nat) (news : List Value) (hx : a.eval x = .slice (some ⟨g, 0, none⟩) 1 c) (hl : news.length = 6) {fr : Nat × Nat} (hg : w.heap[g]? = some (.cells news.toArray 144 fr)) (h1 : news.all (·.oneCell') = true)
    (hb : n ≤ 100000000) (hbase : base ≤ w.heap.size)
    (h : ∀ v' w', w'.ownsRow base 144 6 v' (n + 1) (xs ++ news) → w.grownBy w' v.ownBlock → (∀ k, v'.ownBlock = some k → v.ownBlock = some k ∨ w.heap.size ≤ k) → wpList Tryz.prog ops Q rest (a.put o.dst v') w') : wpList Tryz.prog ops Q (o :: rest) a w := by
  obtain ⟨i0, hi, hz0, hz1, hz2⟩ := info_parts info_ch
  exact wpList_append_own_at w hgd s x _ ho base _ i0 _ 6 80 Tryz.underlying77 hi hz0 hz1 hz2 rfl (by omega) v n xs hs hown ⟨g, 0, none⟩ 1 c news hx (by simpa using hl) (by simpa using news_of_block hg) (fun u hu => List.all_eq_true.1 h1 u hu) (by unfold maxLen; omega) (by omega) hbase
    (fun v' w' h1 h2 _ h4 => h v' w' h1 h2 (fun k hk => by
      rcases h4 with h4 | h4
      · exact .inl (h4.symm.trans hk)
      · rw [h4] at hk; simp only [Option.some.injEq] at hk; exact .inr (by omega)))
end

theorem OwnL.app {α : Type} {w' : World} {t : TypeId} {size : Nat} {p q : List Value → α → Prop} {v' : Value} {xs : List α} {css : List (List Value)} {c : List Value} {x : α} (he : Each p css xs)
    (hn : w'.ownsRow 0 t size v' (xs.length + 1) (css.flatten ++ c)) (hpq : ∀ c x, p c x → q c x) (hc : q c x) : OwnL w' t size q v' (xs ++ [x]) :=
  ⟨css ++ [c], by rw [List.flatten_append]; simpa using hn, (he.imp hpq).snoc hc⟩

set_option maxRecDepth 100000 in
set_option maxHeartbeats 4000000 in
theorem does_put {S O R : Nat → Prop} {w : World} {p : Value} {m : Fs} (q : B8) (f : Fi) (sv : Value) (h : IsFs S O R w p m) (hq : q.length ≤ 10000000) (hd : IsData R w sv f.data) (hl : m.now.length ≤ 10000000) (hpl : m.pend.length ≤ 10000000) (ht : m.time ≤ 10000000) :
    Calls Tryz.prog 89 #[p, .agg #[S8 q, S8 [], .bool true, .int .i64 f.mode, sv, .int .i64 f.time]] w fun e w' => e = .returned (.tuple #[]) ∧ IsFs S (Nw O w w') (Nw R w w') w' p (does m (.put q f)) ∧ Fr O w w' := by
  obtain ⟨g, gm, gd, vp, vl, vu, L, c0, rfl, hg, hO, hP, hpl1, hc0⟩ := h
  obtain ⟨s1, s2, rfl, -⟩ := hd.bytes
  have hx1 : Ext w (w.alloc (.cells #[S8 q, S8 [], .bool true, .int .i64 f.mode, .slice s1 f.data.length s2, .int .i64 f.time] 144)) := (Ext.refl w).alloc _
  have hg1 := Ext.row hx1 hg
  have hb1 := alloc_at w (.cells #[S8 q, S8 [], .bool true, .int .i64 f.mode, .slice s1 f.data.length s2, .int .i64 f.time] 144)
  have hgl := (Array.getElem?_eq_some_iff.1 hg).1
  obtain ⟨d0, d1, d2, d3, d4, d5, d6, d7, d8⟩ := cellsAt9 hg1
  have hbne : w.heap.size ≠ g := by omega
  have HD : Hid _ := hd
  have HX1 : Hid _ := hx1
  have HP : Hid _ := hP
  have HG : Hid _ := hg
  have HG1 : Hid _ := hg1
  have HB1 : Hid _ := hb1
  clear hd hx1 hP hg hg1 hb1
  go_enter Tryz.func89, Tryz.ntmps89
  go_wp2_with (first
    | (refine store_field rfl 3 (.tmp 10) (.tmp 8) rfl g 7 rfl (.int .i64 ((m.time : Int) + 1)) rfl rfl _ _ HG1.out (Nat.le_of_ble_eq_true rfl) size_int (fsCells m.room gm gd vp vl m.calls vu (m.time + 1) m.down) (by simp) ?_; intro w2 hg2 hgr2; obtain ⟨a0, a1, a2, a3, a4, a5, a6, a7, a8⟩ := cellsAt9 hg2; have hb2 := but_row hgr2 HB1.out hbne; obtain ⟨b0, b1, b2, b3, b4, b5⟩ := cellsAt6 hb2; clear d0 d1 d2 d3 d4 d5 d6 d7 d8)
    | (refine store_field rfl 3 (.tmp 18) (.tmp 16) rfl w.heap.size 5 rfl (.int .i64 ((m.time + 1 : Nat) : Int)) rfl rfl _ _ hb2 (Nat.le_of_ble_eq_true rfl) size_int #[S8 q, S8 [], .bool true, .int .i64 f.mode, .slice s1 f.data.length s2, .int .i64 ((m.time + 1 : Nat) : Int)] (by simp) ?_; intro w3 hb3 hgr3; have hg3 := but_row hgr3 hg2 (Ne.symm hbne); obtain ⟨e0, e1, e2, e3, e4, e5, e6, e7, e8⟩ := cellsAt9 hg3; obtain ⟨f0, f1, f2, f3, f4, f5⟩ := cellsAt6 hb3; clear a0 a1 a2 a3 a4 a5 a6 a7 a8 b0 b1 b2 b3 b4 b5))
  go_frame
  apply wp_region_mix 5 [_, _, _, _, .agg #[S8 q, S8 [], .bool true, .int .i64 f.mode, .slice s1 f.data.length s2, .int .i64 ((m.time + 1 : Nat) : Int)]] [none, none, none, none, none] [[], [0], [1], [2], []] (by kernel_rfl) (by kernel_rfl) (by simp [mixV])
  · trivial
  · simp (maxSteps := 1000000) only [List.take_succ_cons, List.take_zero, oblFrom, stepObl, fillFrom, Act.put, List.setIfInBounds_toArray, List.set_cons_zero, List.set_cons_succ, knows, getV, mixV, List.getD_cons_zero, List.getD_cons_succ, and_true, true_and, forall_const]
    refine ⟨?_, ?_, ?_, ?_, ?_⟩
    · intro xs wq hq R hR
      have c1 := hq.cell e1; have c2 := hq.cell f0; have c3 := hq.cell f1; have c4 := hq.cell f2; have c5 := hq.cell f3; have c6 := hq.cell f4; have c7 := hq.cell f5
      go_simp
      exact hR _ _ (Ext.refl _) rfl
    · intro xs wq hq hk R hR
      have c1 := hq.cell e1; have c2 := hq.cell f0; have c3 := hq.cell f1; have c4 := hq.cell f2; have c5 := hq.cell f3; have c6 := hq.cell f4; have c7 := hq.cell f5
      go_simp
      exact hR _ _ (Ext.refl _) rfl
    · intro xs wq hq hk R hR
      have c1 := hq.cell e1; have c2 := hq.cell f0; have c3 := hq.cell f1; have c4 := hq.cell f2; have c5 := hq.cell f3; have c6 := hq.cell f4; have c7 := hq.cell f5
      go_simp
      exact hR _ _ (Ext.refl _) rfl
    · intro xs wq hq hk R hR
      have c1 := hq.cell e1; have c2 := hq.cell f0; have c3 := hq.cell f1; have c4 := hq.cell f2; have c5 := hq.cell f3; have c6 := hq.cell f4; have c7 := hq.cell f5
      go_simp
      exact hR _ _ (Ext.refl _) rfl
    · intro xs wq hq R hR
      have c1 := hq.cell e1; have c2 := hq.cell f0; have c3 := hq.cell f1; have c4 := hq.cell f2; have c5 := hq.cell f3; have c6 := hq.cell f4; have c7 := hq.cell f5
      go_simp
      exact hR _ _ (Ext.refl _) rfl
  intro xs w4 hx4 hk
  simp only [heldV, Nat.zero_add, Nat.reduceAdd, and_true] at hk
  obtain ⟨q0, q1, q2, q3, q4⟩ := hk
  simp (maxSteps := 1000000) only [List.take_succ_cons, List.take_zero, List.drop_succ_cons, List.drop_zero, fillFrom, Act.put, List.setIfInBounds_toArray, List.set_cons_zero, List.set_cons_succ, Nat.zero_add, Nat.reduceAdd, q0, q1, q2, q3, q4]
  clear q0 q1 q2 q3 q4
  have hW3 := (grown_ext HX1.out hgr2).andThen hgr3 (fun j hj => .inl (by cases hj; exact Nat.le_refl _))
  have hP4 := (HP.out.own HG.out hW3).ext hx4
  have hW4 := ext_grown hW3 hx4
  have hg4 := Ext.row hx4 hg3
  have hb4 := Ext.row hx4 hb3
  have hd4 : IsData R w4 (.slice s1 f.data.length s2) f.data := HD.out.keepR (grownR hW4 (by rintro k hk; simp at hk; subst hk; exact cells_u8 HG.out (by kernel_rfl)))
  have hs4 := hx4.size
  have HP4 : Hid _ := hP4
  have HD4 : Hid _ := hd4
  clear hP4 hd4 e0 e1 e2 e3 e4 e5 e6 e7 e8 f0 f1 f2 f3 f4 f5
  go_wp2_with (go_at_call 135; go_must (refine (make_put q { f with time := ((m.time + 1 : Nat) : Int) } (.slice s1 f.data.length s2) HP4.out.now hq HD4.out (by omega)).mono ?_; rintro e w5 ⟨rfl, hf5, hg5⟩; have hne5 := apart_kind hg4 (by exact (HP4.out.now.kind).choose_spec.choose_spec) (by simp); have hne6 := apart_kind hb4 (by exact (HP4.out.now.kind).choose_spec.choose_spec) (by simp); have hgg5 := but_row hg5 hg4 hne5; have hbb5 := but_row hg5 hb4 hne6; obtain ⟨e0, e1, e2, e3, e4, e5, e6, e7, e8⟩ := cellsAt9 hgg5; obtain ⟨f0, f1, f2, f3, f4, f5⟩ := cellsAt6 hbb5))
  have hP5 := HP4.out.mapNow hg5 hf5
  have hW5 : w.grownBy w5 none ∨ True := .inr trivial
  have HP5 : Hid _ := hP5
  obtain ⟨css, hown5, heach5⟩ := HP5.out.pend
  obtain ⟨pa, pc, rfl, -⟩ := Row.of_owns hown5 (by omega)
  have HE5 : Hid _ := heach5
  have hfr5 : Fr O w w5 := ((Fr.refl O w).step hW3 (fun k hk => by cases hk; exact .inl hO) (by rintro k hk; cases hk; exact cells_u8 HG.out (by kernel_rfl))).ext hx4 |>.step hg5 (fun k hk => by cases hk; exact .inl HP.out.om) (by rintro k hk; cases hk; exact HP4.out.now.notU8)
  clear hP5 hW5 heach5
  apply wp_region_free 7 0 (.pointer (some ⟨g, 0, none⟩)) [.pointer (some ⟨g, 0, none⟩), _, _, _, _, .agg #[S8 q, S8 [], .bool true, .int .i64 f.mode, .slice s1 f.data.length s2, .int .i64 ((m.time : Int) + 1)], undef] [none, none, none, none, none, none, some (fun u w' => ∃ k, u = .slice (some ⟨k, 0, none⟩) 1 1 ∧ w'.heap[k]? = some (.cells #[S8 q, S8 [], .bool true, .int .i64 f.mode, .slice s1 f.data.length s2, .int .i64 ((m.time : Int) + 1)] 144 (0, 0)))] [[], [], [1], [2], [3], [], [5]] (by kernel_rfl) (by kernel_rfl) (by simp [mixV])
  · refine ⟨?_, trivial⟩
    · exact fun _ _ _ he ⟨k, h1, h3⟩ => ⟨k, h1, he.row h3⟩
  · exact ⟨_, rfl, rfl, fun w => by go_simp⟩
  · exact fun _ => rfl
  · simp (maxSteps := 1000000) only [List.take_succ_cons, List.take_zero, oblFrom, stepObl, fillFrom, Act.put, List.setIfInBounds_toArray, List.set_cons_zero, List.set_cons_succ, knows, getV, mixV, List.getD_cons_zero, List.getD_cons_succ, and_true, true_and, forall_const]
    refine ⟨?_, ?_, ?_, ?_, ?_, ?_, ?_⟩
    · intro xs wq hq R hR
      have c1 := hq.cell e3; have c2 := hq.cell f0; have c3 := hq.cell f1; have c4 := hq.cell f2; have c5 := hq.cell f3; have c6 := hq.cell f4; have c7 := hq.cell f5
      go_simp
      exact hR _ _ (Ext.refl _) rfl
    · intro xs wq hq R hR
      have c1 := hq.cell e3; have c2 := hq.cell f0; have c3 := hq.cell f1; have c4 := hq.cell f2; have c5 := hq.cell f3; have c6 := hq.cell f4; have c7 := hq.cell f5
      go_simp
      exact hR _ _ (Ext.refl _) rfl
    · intro xs wq hq hk R hR
      have c1 := hq.cell e3; have c2 := hq.cell f0; have c3 := hq.cell f1; have c4 := hq.cell f2; have c5 := hq.cell f3; have c6 := hq.cell f4; have c7 := hq.cell f5
      go_simp
      exact hR _ _ (Ext.refl _) rfl
    · intro xs wq hq hk R hR
      have c1 := hq.cell e3; have c2 := hq.cell f0; have c3 := hq.cell f1; have c4 := hq.cell f2; have c5 := hq.cell f3; have c6 := hq.cell f4; have c7 := hq.cell f5
      go_simp
      exact hR _ _ (Ext.refl _) rfl
    · intro xs wq hq hk R hR
      have c1 := hq.cell e3; have c2 := hq.cell f0; have c3 := hq.cell f1; have c4 := hq.cell f2; have c5 := hq.cell f3; have c6 := hq.cell f4; have c7 := hq.cell f5
      go_simp
      exact hR _ _ (Ext.refl _) rfl
    · intro xs wq hq R hR
      have c1 := hq.cell e3; have c2 := hq.cell f0; have c3 := hq.cell f1; have c4 := hq.cell f2; have c5 := hq.cell f3; have c6 := hq.cell f4; have c7 := hq.cell f5
      go_simp
      exact hR _ _ (Ext.refl _) rfl
    · intro xs wq hq hk R hR
      go_simp
      exact hR _ _ ((Ext.refl _).alloc _) ⟨_, rfl, alloc_at _ _⟩
  intro xs w6 hx6 hk
  simp only [heldV, Nat.zero_add, Nat.reduceAdd, and_true] at hk
  obtain ⟨q0, q1, q2, q3, q4, q5, q6⟩ := hk
  simp (maxSteps := 1000000) only [List.take_succ_cons, List.take_zero, List.drop_succ_cons, List.drop_zero, fillFrom, Act.put, List.setIfInBounds_toArray, List.set_cons_zero, List.set_cons_succ, Nat.zero_add, Nat.reduceAdd, q0, q1, q2, q3, q4, q5]
  clear q0 q1 q2 q3 q4 q5
  generalize xs 6 = x6 at *
  obtain ⟨k6, rfl, hk6⟩ := q6
  have hown6 := owns_ext hown5 hx6
  have hgg6 := Ext.row hx6 hgg5
  have hP6 := HP5.out.ext hx6
  have HP6 : Hid _ := hP6
  clear hown5 hP6 e0 e1 e2 e3 e4 e5 e6 e7 e8 f0 f1 f2 f3 f4 f5
  go_wp2_with (first
    | (at_builtin; go_must (refine app_ch rfl _ _ rfl 0 _ m.pend.length _ rfl hown6 k6 1 _ rfl rfl hk6 (by simp [Value.oneCell']) (by omega) (Nat.zero_le _) ?_; intro v7 w7 hown7 hgr7 hwh7; obtain ⟨va, vc, rfl⟩ := owns_some hown7 (by omega); have hgg7 : w7.heap[g]? = _ := (hgr7.block g (Array.getElem?_eq_some_iff.1 hgg6).1 (fun heq => by obtain ⟨cs9, fr9, hx9⟩ := HP6.out.pend.typed g heq.symm; rw [hgg6] at hx9; simp at hx9)).trans hgg6))
    | (refine store_field rfl 77 (.tmp 34) (.tmp 32) rfl g 3 rfl (.slice (some ⟨va, 0, none⟩) (m.pend.length + 1) vc) rfl rfl _ _ hgg7 (Nat.le_of_ble_eq_true rfl) size_chs (fsCells m.room gm gd (.slice (some ⟨va, 0, none⟩) (m.pend.length + 1) vc) vl m.calls vu (m.time + 1) m.down) (by simp) ?_; intro w8 hg8 hgr8))
  refine NoP.intro ?_
  go_end0
  have hsz : w.heap.size ≤ w6.heap.size := by have := hW4.size; have := hg5.size; have := hx6.size; omega
  have hu6 : ∀ k, Value.ownBlock (.slice pa m.pend.length pc) = some k → ¬ IsU8 w6 k := fun k hk => by
    obtain ⟨cs9, fr9, hx9⟩ := HP6.out.pend.typed k hk
    exact cells_u8 hx9 (by kernel_rfl)
  have k67 : KeepR (On R w.heap.size) w6 w7 := grownR hgr7 hu6
  have k57 : KeepR R w5 w7 := by
    have a := KeepR.of_keep (R := R) (KeepB.of_ext hx6)
    have b : KeepR R w6 w7 := grownR hgr7 hu6
    exact KeepR.trans a b
  have hd7 : IsData R w7 (.slice s1 f.data.length s2) f.data := (HD4.out.keepR (grown_keepR hg5 HP4.out.now.notU8)).keepR k57
  have hc7 : IsCh (On R w.heap.size) w7 [S8 q, S8 [], .bool true, .int .i64 f.mode, .slice s1 f.data.length s2, .int .i64 ((m.time : Int) + 1)] (.put q { f with time := ((m.time + 1 : Nat) : Int) }) :=
    ⟨hq, _, rfl, hd7.mono (fun k hk => .inl hk)⟩
  have hn7 : OwnL w7 144 6 (IsCh (On R w.heap.size) w7) (.slice (some ⟨va, 0, none⟩) (m.pend.length + 1) vc) (m.pend ++ [.put q { f with time := ((m.time + 1 : Nat) : Int) }]) :=
    OwnL.app HE5.out hown7 (fun c x hx => (hx.keepR k57).mono (fun k hk => .inl hk)) hc7
  have hP7 := (HP6.out.mono (O' := On O w.heap.size) (R' := On R w.heap.size) (fun k hk => .inl hk) (fun k hk => .inl hk)).appPend hgr7 hn7 (fun k hk => by
    rcases hwh7 k hk with h1 | h1
    · exact .inl (HP6.out.op k h1)
    · exact .inr (by omega))
  refine ⟨rfl, IsFs.fit ⟨g, gm, gd, _, vl, vu, L, c0, rfl, hg8, .inl hO, hP7.own hgg7 hgr8, hpl1, hc0⟩, ?_⟩
  exact ((hfr5.ext hx6).step hgr7 (fun k hk => .inl (HP6.out.op k hk)) hu6).step hgr8 (fun k hk => by cases hk; exact .inl hO) (by rintro k hk; cases hk; exact cells_u8 hgg7 (by kernel_rfl))

set_option maxRecDepth 100000 in
set_option maxHeartbeats 4000000 in
theorem does_other {S O R : Nat → Prop} {w : World} {p : Value} {m : Fs} (x y : B8) (c : Ch) (h : IsFs S O R w p m) (hc : ∀ R w, IsCh R w [S8 x, S8 y, .bool false, .int .i64 0, .slice none 0 0, .int .i64 0] c) (hat : ∀ t, c.at t = c) (hmv : ∀ s d, c = .mv s d → (look m.now s).isSome = true) (hl : m.now.length ≤ 10000000) (hpl : m.pend.length ≤ 10000000) (ht : m.time ≤ 10000000) :
    Calls Tryz.prog 89 #[p, .agg #[S8 x, S8 y, .bool false, .int .i64 0, .slice none 0 0, .int .i64 0]] w fun e w' => e = .returned (.tuple #[]) ∧ IsFs S (Nw O w w') (Nw R w w') w' p (does m c) ∧ Fr O w w' := by
  obtain ⟨g, gm, gd, vp, vl, vu, L, c0, rfl, hg, hO, hP, hpl1, hc0⟩ := h
  have hx1 : Ext w (w.alloc (.cells #[S8 x, S8 y, .bool false, .int .i64 0, .slice none 0 0, .int .i64 0] 144)) := (Ext.refl w).alloc _
  have hg1 := Ext.row hx1 hg
  have hb1 := alloc_at w (.cells #[S8 x, S8 y, .bool false, .int .i64 0, .slice none 0 0, .int .i64 0] 144)
  have hgl := (Array.getElem?_eq_some_iff.1 hg).1
  obtain ⟨d0, d1, d2, d3, d4, d5, d6, d7, d8⟩ := cellsAt9 hg1
  have hbne : w.heap.size ≠ g := by omega
  have HC : Hid _ := hc
  have HAT : Hid _ := hat
  have HMV : Hid _ := hmv
  have HX1 : Hid _ := hx1
  have HP : Hid _ := hP
  have HG : Hid _ := hg
  have HG1 : Hid _ := hg1
  have HB1 : Hid _ := hb1
  clear hc hat hmv hx1 hP hg hg1 hb1
  go_enter Tryz.func89, Tryz.ntmps89
  go_wp2_with ((refine store_field rfl 3 (.tmp 10) (.tmp 8) rfl g 7 rfl (.int .i64 ((m.time : Int) + 1)) rfl rfl _ _ HG1.out (Nat.le_of_ble_eq_true rfl) size_int (fsCells m.room gm gd vp vl m.calls vu (m.time + 1) m.down) (by simp) ?_; intro w2 hg2 hgr2; obtain ⟨a0, a1, a2, a3, a4, a5, a6, a7, a8⟩ := cellsAt9 hg2; have hb2 := but_row hgr2 HB1.out hbne; obtain ⟨b0, b1, b2, b3, b4, b5⟩ := cellsAt6 hb2; clear d0 d1 d2 d3 d4 d5 d6 d7 d8))
  apply wp_region_mix 5 [_, _, _, _, .agg #[S8 x, S8 y, .bool false, .int .i64 0, .slice none 0 0, .int .i64 0]] [none, none, none, none, none] [[], [0], [1], [2], []] (by kernel_rfl) (by kernel_rfl) (by simp [mixV])
  · trivial
  · simp (maxSteps := 1000000) only [List.take_succ_cons, List.take_zero, oblFrom, stepObl, fillFrom, Act.put, List.setIfInBounds_toArray, List.set_cons_zero, List.set_cons_succ, knows, getV, mixV, List.getD_cons_zero, List.getD_cons_succ, and_true, true_and, forall_const]
    refine ⟨?_, ?_, ?_, ?_, ?_⟩
    · intro xs wq hq R hR
      have c1 := hq.cell a1; have c2 := hq.cell b0; have c3 := hq.cell b1; have c4 := hq.cell b2; have c5 := hq.cell b3; have c6 := hq.cell b4; have c7 := hq.cell b5
      go_simp
      exact hR _ _ (Ext.refl _) rfl
    · intro xs wq hq hk R hR
      have c1 := hq.cell a1; have c2 := hq.cell b0; have c3 := hq.cell b1; have c4 := hq.cell b2; have c5 := hq.cell b3; have c6 := hq.cell b4; have c7 := hq.cell b5
      go_simp
      exact hR _ _ (Ext.refl _) rfl
    · intro xs wq hq hk R hR
      have c1 := hq.cell a1; have c2 := hq.cell b0; have c3 := hq.cell b1; have c4 := hq.cell b2; have c5 := hq.cell b3; have c6 := hq.cell b4; have c7 := hq.cell b5
      go_simp
      exact hR _ _ (Ext.refl _) rfl
    · intro xs wq hq hk R hR
      have c1 := hq.cell a1; have c2 := hq.cell b0; have c3 := hq.cell b1; have c4 := hq.cell b2; have c5 := hq.cell b3; have c6 := hq.cell b4; have c7 := hq.cell b5
      go_simp
      exact hR _ _ (Ext.refl _) rfl
    · intro xs wq hq R hR
      have c1 := hq.cell a1; have c2 := hq.cell b0; have c3 := hq.cell b1; have c4 := hq.cell b2; have c5 := hq.cell b3; have c6 := hq.cell b4; have c7 := hq.cell b5
      go_simp
      exact hR _ _ (Ext.refl _) rfl
  intro xs w4 hx4 hk
  simp only [heldV, Nat.zero_add, Nat.reduceAdd, and_true] at hk
  obtain ⟨q0, q1, q2, q3, q4⟩ := hk
  simp (maxSteps := 1000000) only [List.take_succ_cons, List.take_zero, List.drop_succ_cons, List.drop_zero, fillFrom, Act.put, List.setIfInBounds_toArray, List.set_cons_zero, List.set_cons_succ, Nat.zero_add, Nat.reduceAdd, q0, q1, q2, q3, q4]
  clear q0 q1 q2 q3 q4
  have hW3 := grown_ext HX1.out hgr2
  have hP4 := (HP.out.own HG.out hW3).ext hx4
  have hW4 := ext_grown hW3 hx4
  have hg4 := Ext.row hx4 hg2
  have hb4 := Ext.row hx4 hb2
  have hs4 := hx4.size
  have HP4 : Hid _ := hP4
  clear hP4 a0 a1 a2 a3 a4 a5 a6 a7 a8 b0 b1 b2 b3 b4 b5
  go_wp2_with (go_at_call 135; go_must (refine (make_any c [S8 x, S8 y, .bool false, .int .i64 0, .slice none 0 0, .int .i64 0] HP4.out.now (HC.out _ _) HMV.out (by omega)).mono ?_; rintro e w5 ⟨rfl, hf5, hg5⟩; have hne5 := apart_kind hg4 (by exact (HP4.out.now.kind).choose_spec.choose_spec) (by simp); have hne6 := apart_kind hb4 (by exact (HP4.out.now.kind).choose_spec.choose_spec) (by simp); have hgg5 := but_row hg5 hg4 hne5; have hbb5 := but_row hg5 hb4 hne6; obtain ⟨e0, e1, e2, e3, e4, e5, e6, e7, e8⟩ := cellsAt9 hgg5; obtain ⟨f0, f1, f2, f3, f4, f5⟩ := cellsAt6 hbb5))
  have hP5 := HP4.out.mapNow hg5 hf5
  have hW5 : w.grownBy w5 none ∨ True := .inr trivial
  have HP5 : Hid _ := hP5
  obtain ⟨css, hown5, heach5⟩ := HP5.out.pend
  obtain ⟨pa, pc, rfl, -⟩ := Row.of_owns hown5 (by omega)
  have HE5 : Hid _ := heach5
  have hfr5 : Fr O w w5 := ((Fr.refl O w).step hW3 (fun k hk => by cases hk; exact .inl hO) (by rintro k hk; cases hk; exact cells_u8 HG.out (by kernel_rfl))).ext hx4 |>.step hg5 (fun k hk => by cases hk; exact .inl HP.out.om) (by rintro k hk; cases hk; exact HP4.out.now.notU8)
  clear hP5 hW5 heach5
  apply wp_region_free 7 0 (.pointer (some ⟨g, 0, none⟩)) [.pointer (some ⟨g, 0, none⟩), _, _, _, _, .agg #[S8 x, S8 y, .bool false, .int .i64 0, .slice none 0 0, .int .i64 0], undef] [none, none, none, none, none, none, some (fun u w' => ∃ k, u = .slice (some ⟨k, 0, none⟩) 1 1 ∧ w'.heap[k]? = some (.cells #[S8 x, S8 y, .bool false, .int .i64 0, .slice none 0 0, .int .i64 0] 144 (0, 0)))] [[], [], [1], [2], [3], [], [5]] (by kernel_rfl) (by kernel_rfl) (by simp [mixV])
  · refine ⟨?_, trivial⟩
    · exact fun _ _ _ he ⟨k, h1, h3⟩ => ⟨k, h1, he.row h3⟩
  · exact ⟨_, rfl, rfl, fun w => by go_simp⟩
  · exact fun _ => rfl
  · simp (maxSteps := 1000000) only [List.take_succ_cons, List.take_zero, oblFrom, stepObl, fillFrom, Act.put, List.setIfInBounds_toArray, List.set_cons_zero, List.set_cons_succ, knows, getV, mixV, List.getD_cons_zero, List.getD_cons_succ, and_true, true_and, forall_const]
    refine ⟨?_, ?_, ?_, ?_, ?_, ?_, ?_⟩
    · intro xs wq hq R hR
      have c1 := hq.cell e3; have c2 := hq.cell f0; have c3 := hq.cell f1; have c4 := hq.cell f2; have c5 := hq.cell f3; have c6 := hq.cell f4; have c7 := hq.cell f5
      go_simp
      exact hR _ _ (Ext.refl _) rfl
    · intro xs wq hq R hR
      have c1 := hq.cell e3; have c2 := hq.cell f0; have c3 := hq.cell f1; have c4 := hq.cell f2; have c5 := hq.cell f3; have c6 := hq.cell f4; have c7 := hq.cell f5
      go_simp
      exact hR _ _ (Ext.refl _) rfl
    · intro xs wq hq hk R hR
      have c1 := hq.cell e3; have c2 := hq.cell f0; have c3 := hq.cell f1; have c4 := hq.cell f2; have c5 := hq.cell f3; have c6 := hq.cell f4; have c7 := hq.cell f5
      go_simp
      exact hR _ _ (Ext.refl _) rfl
    · intro xs wq hq hk R hR
      have c1 := hq.cell e3; have c2 := hq.cell f0; have c3 := hq.cell f1; have c4 := hq.cell f2; have c5 := hq.cell f3; have c6 := hq.cell f4; have c7 := hq.cell f5
      go_simp
      exact hR _ _ (Ext.refl _) rfl
    · intro xs wq hq hk R hR
      have c1 := hq.cell e3; have c2 := hq.cell f0; have c3 := hq.cell f1; have c4 := hq.cell f2; have c5 := hq.cell f3; have c6 := hq.cell f4; have c7 := hq.cell f5
      go_simp
      exact hR _ _ (Ext.refl _) rfl
    · intro xs wq hq R hR
      have c1 := hq.cell e3; have c2 := hq.cell f0; have c3 := hq.cell f1; have c4 := hq.cell f2; have c5 := hq.cell f3; have c6 := hq.cell f4; have c7 := hq.cell f5
      go_simp
      exact hR _ _ (Ext.refl _) rfl
    · intro xs wq hq hk R hR
      go_simp
      exact hR _ _ ((Ext.refl _).alloc _) ⟨_, rfl, alloc_at _ _⟩
  intro xs w6 hx6 hk
  simp only [heldV, Nat.zero_add, Nat.reduceAdd, and_true] at hk
  obtain ⟨q0, q1, q2, q3, q4, q5, q6⟩ := hk
  simp (maxSteps := 1000000) only [List.take_succ_cons, List.take_zero, List.drop_succ_cons, List.drop_zero, fillFrom, Act.put, List.setIfInBounds_toArray, List.set_cons_zero, List.set_cons_succ, Nat.zero_add, Nat.reduceAdd, q0, q1, q2, q3, q4, q5]
  clear q0 q1 q2 q3 q4 q5
  generalize xs 6 = x6 at *
  obtain ⟨k6, rfl, hk6⟩ := q6
  have hown6 := owns_ext hown5 hx6
  have hgg6 := Ext.row hx6 hgg5
  have hP6 := HP5.out.ext hx6
  have HP6 : Hid _ := hP6
  clear hown5 hP6 e0 e1 e2 e3 e4 e5 e6 e7 e8 f0 f1 f2 f3 f4 f5
  go_wp2_with (first
    | (at_builtin; go_must (refine app_ch rfl _ _ rfl 0 _ m.pend.length _ rfl hown6 k6 1 _ rfl rfl hk6 (by simp [Value.oneCell']) (by omega) (Nat.zero_le _) ?_; intro v7 w7 hown7 hgr7 hwh7; obtain ⟨va, vc, rfl⟩ := owns_some hown7 (by omega); have hgg7 : w7.heap[g]? = _ := (hgr7.block g (Array.getElem?_eq_some_iff.1 hgg6).1 (fun heq => by obtain ⟨cs9, fr9, hx9⟩ := HP6.out.pend.typed g heq.symm; rw [hgg6] at hx9; simp at hx9)).trans hgg6))
    | (refine store_field rfl 77 (.tmp 34) (.tmp 32) rfl g 3 rfl (.slice (some ⟨va, 0, none⟩) (m.pend.length + 1) vc) rfl rfl _ _ hgg7 (Nat.le_of_ble_eq_true rfl) size_chs (fsCells m.room gm gd (.slice (some ⟨va, 0, none⟩) (m.pend.length + 1) vc) vl m.calls vu (m.time + 1) m.down) (by simp) ?_; intro w8 hg8 hgr8))
  refine NoP.intro ?_
  go_end0
  have hsz : w.heap.size ≤ w6.heap.size := by have := hW4.size; have := hg5.size; have := hx6.size; omega
  have hu6 : ∀ k, Value.ownBlock (.slice pa m.pend.length pc) = some k → ¬ IsU8 w6 k := fun k hk => by
    obtain ⟨cs9, fr9, hx9⟩ := HP6.out.pend.typed k hk
    exact cells_u8 hx9 (by kernel_rfl)
  have k67 : KeepR (On R w.heap.size) w6 w7 := grownR hgr7 hu6
  have k57 : KeepR R w5 w7 := by
    have a := KeepR.of_keep (R := R) (KeepB.of_ext hx6)
    have b : KeepR R w6 w7 := grownR hgr7 hu6
    exact KeepR.trans a b
  have hc7 := HC.out (On R w.heap.size) w7
  have hn7 : OwnL w7 144 6 (IsCh (On R w.heap.size) w7) (.slice (some ⟨va, 0, none⟩) (m.pend.length + 1) vc) (m.pend ++ [c]) :=
    OwnL.app HE5.out hown7 (fun c x hx => (hx.keepR k57).mono (fun k hk => .inl hk)) hc7
  have hP7 := (HP6.out.mono (O' := On O w.heap.size) (R' := On R w.heap.size) (fun k hk => .inl hk) (fun k hk => .inl hk)).appPend hgr7 hn7 (fun k hk => by
    rcases hwh7 k hk with h1 | h1
    · exact .inl (HP6.out.op k h1)
    · exact .inr (by omega))
  have hdm : does m c = { m with time := m.time + 1, now := ap m.now c, pend := m.pend ++ [c] } := by unfold does; rw [HAT.out]
  refine ⟨rfl, ?_, ?_⟩
  · rw [hdm]
    exact IsFs.fit ⟨g, gm, gd, _, vl, vu, L, c0, rfl, hg8, .inl hO, hP7.own hgg7 hgr8, hpl1, hc0⟩
  exact ((hfr5.ext hx6).step hgr7 (fun k hk => .inl (HP6.out.op k hk)) hu6).step hgr8 (fun k hk => by cases hk; exact .inl hO) (by rintro k hk; cases hk; exact cells_u8 hgg7 (by kernel_rfl))


theorem does_any {S O R : Nat → Prop} {w : World} {p : Value} {m : Fs} (c : Ch) (cs : List Value) (h : IsFs S O R w p m) (hc : IsCh R w cs c) (hmv : ∀ s d, c = .mv s d → (look m.now s).isSome = true) (hl : m.now.length ≤ 10000000) (hpl : m.pend.length ≤ 10000000) (ht : m.time ≤ 10000000) :
    Calls Tryz.prog 89 #[p, .agg cs.toArray] w fun e w' => e = .returned (.tuple #[]) ∧ IsFs S (Nw O w w') (Nw R w w') w' p (does m c) ∧ Fr O w w' := by
  cases c with
  | put q f =>
    obtain ⟨h1, v, rfl, h2⟩ := hc
    exact does_put q f v h h1 h2 hl hpl ht
  | mv s d =>
    obtain ⟨h1, h2, h3, rfl⟩ := hc
    exact does_other d s (.mv s d) h (fun _ _ => ⟨h1, h2, h3, rfl⟩) (fun _ => rfl) hmv hl hpl ht
  | del q =>
    obtain ⟨h1, rfl⟩ := hc
    exact does_other q [] (.del q) h (fun _ _ => ⟨h1, rfl⟩) (fun _ => rfl) hmv hl hpl ht

end Go.Proofs.YtdhgmpibjneplaaGreatDoor

/-! fsim.FS: puts, fits, removes. Conditions: at most 9000000 ticks; short paths and data. -/
namespace Go.Proofs.YtdhgmpibjneplaaGreatDoor
open Go Go.RowKit

/-- What a call leaves of a file system. -/
structure FsPost (S O R : Nat → Prop) (w : World) (p : Value) (m : Fs) (w' : World) : Prop where
  fs : IsFs S (Nw O w w') (Nw R w w') w' p m
  fr : Fr O w w'
theorem FsPost.of_ext {S O R : Nat → Prop} {w wx w' : World} {p : Value} {m : Fs} (hx : Ext w wx) (h : FsPost S O (Nw R w wx) wx p m w') : FsPost S O R w p m w' := by
  refine ⟨h.fs.mono (fun k hk => ?_) (fun k hk => hk.nw hx.size h.fr.size), (Fr.of_ext hx).trans (h.fr.mono fun k hk => .inl hk)⟩
  rcases hk with hk | hk
  · exact .inl hk
  · exact .inr ⟨Nat.le_trans hx.size hk.1, hk.2⟩
theorem FsPost.trans {S O R : Nat → Prop} {w w1 w' : World} {p : Value} {m1 m : Fs} (h1 : FsPost S O R w p m1 w1) (h : FsPost S (Nw O w w1) (Nw R w w1) w1 p m w') : FsPost S O R w p m w' :=
  ⟨h.fs.mono (fun k hk => hk.nw h1.fr.size h.fr.size) (fun k hk => hk.nw h1.fr.size h.fr.size), h1.fr.trans h.fr⟩
theorem FsPost.same {S O R : Nat → Prop} {w w' : World} {p : Value} {m : Fs} (h : IsFs S O R w p m) (hx : Ext w w') : FsPost S O R w p m w' :=
  ⟨(h.ext hx).mono (fun k hk => .inl hk) (fun k hk => .inl hk), Fr.of_ext hx⟩
theorem FsPost.ext {S O R : Nat → Prop} {w w1 w' : World} {p : Value} {m : Fs} (h : FsPost S O R w p m w1) (hx : Ext w1 w') : FsPost S O R w p m w' :=
  h.trans (FsPost.same h.fs hx)

theorem FsPost.pre {S O R : Nat → Prop} {w wx w' : World} {p : Value} {m : Fs} (hx : Ext w wx) (h : FsPost S O R wx p m w') : FsPost S O R w p m w' := FsPost.of_ext hx ⟨h.fs.mono (fun k hk => hk) (fun k hk => hk.imp .inl id), h.fr⟩

/-- What holds of a file system at all times. -/
def ChOk : Ch → Prop
  | .put p f => pathB p = true ∧ f.data.length ≤ 20000
  | .mv s d => pathB s = true ∧ pathB d = true ∧ s ≠ d
  | .del p => pathB p = true
structure OkM (m : Fs) : Prop where
  lnow : m.now.length ≤ m.time
  lsure : m.sure.length ≤ m.time
  lpend : m.pend.length ≤ m.time
  lsp : m.sure.length + m.pend.length ≤ m.time
  lusers : m.users.length ≤ m.time
  dnow : ∀ e ∈ m.now, pathB e.1 = true ∧ e.2.data.length ≤ 20000
  dsure : ∀ e ∈ m.sure, pathB e.1 = true ∧ e.2.data.length ≤ 20000
  dpend : ∀ c ∈ m.pend, ChOk c
  fold : m.pend.foldl ap m.sure = m.now
  mvs : ∀ k s d, m.pend[k]? = some (.mv s d) → (look ((m.pend.take k).foldl ap m.sure) s).isSome = true

theorem path_short {p : B8} (h : pathB p = true) : p.length ≤ 200 := by
  unfold pathB at h
  simp only [Bool.and_eq_true, decide_eq_true_eq] at h
  exact h.1
theorem path_ne {p : B8} (h : pathB p = true) : p ≠ [] := by
  rintro rfl
  revert h; decide

theorem used_le {l : Files} {n : Nat} (h : l.length ≤ n) (hd : ∀ e ∈ l, e.2.data.length ≤ 20000) : usedF l ≤ 20000 * n := by
  have : usedF l ≤ 20000 * l.length := by
    unfold usedF
    induction l with
    | nil => simp
    | cons e l ih =>
      have h1 := hd e (by simp)
      have h2 := ih (by simp at h; omega) (fun e he => hd e (by simp [he]))
      simp only [List.map_cons, List.sum_cons, List.length_cons, Nat.mul_add]
      omega
  exact Nat.le_trans this (Nat.mul_le_mul_left _ h)

def ptr (g : Nat) : Value := .pointer (some ⟨g, 0, none⟩)

set_option maxRecDepth 100000 in
set_option maxHeartbeats 2000000 in
theorem puts_any {S O R : Nat → Prop} {w : World} {p : Value} {m : Fs} (path : B8) (mode : Int) (v : Value) (data : B8) (fits : Bool) (hE : Env w) (h : IsFs S O R w p m) (hok : OkM m) (ht : m.time ≤ 9000000) (hp : path.length ≤ 1000) (hv : IsBytes w v data) (hdl : data.length ≤ 20000) (hmay : mayP m.now path [] = mayF m.now path []) :
    Calls Tryz.prog 54 #[p, S8 path, .int .i64 mode, v, .bool fits] w fun e w' => e = .returned (.int .i64 (putsM m path mode data fits).2) ∧ FsPost S O R w p (putsM m path mode data fits).1 w' := by
  have HH : Hid _ := h
  obtain ⟨g, gm, gd, vp, vl, vu, L, c0, rfl, hg, hO, hP, -, -⟩ := h
  obtain ⟨d0, d1, d2, d3, d4, d5, d6, d7, d8⟩ := cellsAt9 hg
  obtain ⟨val, hrun, -, hv1, hv2⟩ := hP.now.look_run path (by omega)
  have hgl := (Array.getElem?_eq_some_iff.1 hg).1
  have hgne : g ≠ w.heap.size := by omega
  have HE : Hid _ := hE
  have HV : Hid _ := hv
  have HF : Hid _ := hP.now
  have HOK : Hid _ := hok
  have HM : Hid _ := hmay
  have hl := hok.lnow
  have hpl := hok.lpend
  obtain ⟨a, c, rfl, -⟩ := hv.get
  clear hg hP hE hv hok hmay
  have hdef : ∀ fits, putsM m path mode data fits = if (look m.now path).isNone ∧ mayF m.now path [] = false then (m, 9) else if fits = false then (m, 10) else (does m (.put path ⟨mode, data, 0⟩), 0) := fun _ => rfl
  have HDEF : Hid _ := hdef
  clear hdef
  have fin : ∀ (w1 w2 w3 : World) (va : Option Addr) (vc : Nat), Ext w w1 → IsData (Nu w1 w2) w2 (.slice va data.length vc) data → Ext w1 w2 → (IsFs S (Nw O w2 w3) (Nw (Nw R w w2) w2 w3) w3 (.pointer (some ⟨g, 0, none⟩)) (does m (.put path ⟨mode, data, 0⟩)) ∧ Fr O w2 w3) → FsPost S O R w (.pointer (some ⟨g, 0, none⟩)) (does m (.put path ⟨mode, data, 0⟩)) w3 := fun w1 w2 w3 va vc h1 _ h2 h3 => FsPost.of_ext (h1.trans h2) ⟨h3.1, h3.2⟩
  have FIN : Hid _ := fin
  clear fin
  cases hlk : look m.now path with
  | some f =>
    have hdd : putsM m path mode data false = (m, 10) ∧ putsM m path mode data true = (does m (.put path ⟨mode, data, 0⟩), 0) := by rw [HDEF.out, HDEF.out, hlk]; simp
    have HDD : Hid _ := hdd
    rw [hlk] at hrun
    obtain ⟨sv, rfl, hsv⟩ := hv1 f hlk
    obtain ⟨s1, s2, rfl, -⟩ := hsv.bytes
    simp only [Option.isSome_some] at hrun
    clear hv1 hv2 hsv hlk hdd
    cases fits with
    | false =>
      go_enter Tryz.func54, Tryz.ntmps54
      go_wp2
      go_ret
      rw [HDD.out.1]
      exact ⟨rfl, FsPost.same HH.out ((Ext.refl _).alloc _)⟩
    | true =>
      go_enter Tryz.func54, Tryz.ntmps54
      go_wp2_with (first
        | (go_at_call 55; go_must (refine (clone_any _ data _ (IsBytes.ext HV.out ((Ext.refl _).alloc _)) (by omega)).mono ?_; rintro e w2 ⟨⟨v2, rfl, hd2⟩, hx2⟩; obtain ⟨ca, cc, rfl, -⟩ := id hd2.bytes; have HD2 : Hid _ := hd2; clear hd2))
        | (go_at_call 89; go_must (refine (does_put (R := Nw R w w2) path ⟨mode, data, 0⟩ (.slice ca data.length cc) (IsFs.mono (IsFs.ext HH.out (((Ext.refl _).alloc _).trans hx2)) (fun k hk => hk) (fun k hk => .inl hk)) (by omega) (HD2.out.mono (fun k hk => .inr ⟨Nat.le_trans (by simp) hk.1, hk.2⟩)) (by omega) (by omega) (by omega)).mono ?_; rintro e w3 ⟨rfl, hf3, hr3⟩)))
      go_ret
      rw [HDD.out.2]
      exact ⟨rfl, FIN.out _ w2 w3 _ _ ((Ext.refl _).alloc _) HD2.out hx2 ⟨hf3, hr3⟩⟩
  | none =>
    rw [hlk] at hrun
    obtain rfl := hv2 hlk
    simp only [Option.isSome_none] at hrun
    cases hmy : mayF m.now path [] with
    | false =>
      have hdd : putsM m path mode data fits = (m, 9) := by rw [HDEF.out, hlk, hmy]; simp
      have HDD : Hid _ := hdd
      have HMY : Hid _ := hmy
      clear hv1 hv2 hlk hdd hmy
      go_enter Tryz.func54, Tryz.ntmps54
      go_wp2_with (go_at_call 91; go_must (refine (may_any path [] (HE.out.ext ((Ext.refl _).alloc _)) (HF.out.ext ((Ext.refl _).alloc _)) (by omega)).mono ?_; rw [HM.out, HMY.out]; rintro e w2 ⟨rfl, hx2⟩))
      go_ret
      rw [HDD.out]
      exact ⟨rfl, FsPost.same HH.out (((Ext.refl _).alloc _).trans hx2)⟩
    | true =>
      have hdd : putsM m path mode data false = (m, 10) ∧ putsM m path mode data true = (does m (.put path ⟨mode, data, 0⟩), 0) := by rw [HDEF.out, HDEF.out, hlk, hmy]; simp
      have HDD : Hid _ := hdd
      have HMY : Hid _ := hmy
      clear hv1 hv2 hlk hdd hmy
      cases fits with
      | false =>
        go_enter Tryz.func54, Tryz.ntmps54
        go_wp2_with (go_at_call 91; go_must (refine (may_any path [] (HE.out.ext ((Ext.refl _).alloc _)) (HF.out.ext ((Ext.refl _).alloc _)) (by omega)).mono ?_; rw [HM.out, HMY.out]; rintro e w2 ⟨rfl, hx2⟩))
        go_ret
        rw [HDD.out.1]
        exact ⟨rfl, FsPost.same HH.out (((Ext.refl _).alloc _).trans hx2)⟩
      | true =>
        go_enter Tryz.func54, Tryz.ntmps54
        go_wp2_with (first
          | (go_at_call 91; go_must (refine (may_any path [] (HE.out.ext ((Ext.refl _).alloc _)) (HF.out.ext ((Ext.refl _).alloc _)) (by omega)).mono ?_; rw [HM.out, HMY.out]; rintro e w1 ⟨rfl, hx1⟩; have hx01 := ((Ext.refl _).alloc _).trans hx1))
          | (go_at_call 55; go_must (refine (clone_any _ data _ (IsBytes.ext HV.out hx01) (by omega)).mono ?_; rintro e w2 ⟨⟨v2, rfl, hd2⟩, hx2⟩; obtain ⟨ca, cc, rfl, -⟩ := id hd2.bytes; have HD2 : Hid _ := hd2; clear hd2))
          | (go_at_call 89; go_must (refine (does_put (R := Nw R w w2) path ⟨mode, data, 0⟩ (.slice ca data.length cc) (IsFs.mono (IsFs.ext HH.out (hx01.trans hx2)) (fun k hk => hk) (fun k hk => .inl hk)) (by omega) (HD2.out.mono (fun k hk => .inr ⟨Nat.le_trans hx01.size hk.1, hk.2⟩)) (by omega) (by omega) (by omega)).mono ?_; rintro e w3 ⟨rfl, hf3, hr3⟩)))
        go_ret
        rw [HDD.out.2]
        exact ⟨rfl, FIN.out _ w2 w3 _ _ hx01 HD2.out hx2 ⟨hf3, hr3⟩⟩

end Go.Proofs.YtdhgmpibjneplaaGreatDoor

/-! fsim.FS: Up, Reboot, Now, Pending, Calls, settle, removes, fits. Conditions: at most 9000000 ticks; short paths. -/
namespace Go.Proofs.YtdhgmpibjneplaaGreatDoor
open Go Go.RowKit

set_option maxRecDepth 100000 in
theorem now_any {S O R : Nat → Prop} {w : World} {p : Value} {m : Fs} (h : IsFs S O R w p m) :
    Calls Tryz.prog 43 #[p] w fun e w' => e = .returned (.int .i64 m.time) ∧ w' = w := by
  obtain ⟨g, gm, gd, vp, vl, vu, L, c0, rfl, hg, hO, hP, -, -⟩ := h
  obtain ⟨d0, d1, d2, d3, d4, d5, d6, d7, d8⟩ := cellsAt9 hg
  clear hg hP
  go_enter Tryz.func43, Tryz.ntmps43
  go_wp2
  go_ret
  exact ⟨rfl, rfl⟩
theorem load_run {w : World} {g : Nat} {c : Int} (hc : w.cell? ⟨g, 5, none⟩ = some (.int .i64 c)) : (callFunc 132 #[.pointer (some ⟨g, 5, none⟩)]).run Tryz.prog w = .ok (.value (.int .i64 c)) w :=
  run_call_load (P := Tryz.prog) Tryz.func132 (by kernel_rfl) (by kernel_rfl) (by kernel_rfl) .i64 (by kernel_rfl) hc
set_option maxRecDepth 100000 in
theorem load_any {w : World} {g : Nat} {c : Int} (hc : w.cell? ⟨g, 5, none⟩ = some (.int .i64 c)) :
    Calls Tryz.prog 83 #[.pointer (some ⟨g, 5, none⟩)] w fun e w' => e = .returned (.int .i64 c) ∧ w' = w := by
  have hl := load_run hc
  go_enter Tryz.func83, Tryz.ntmps83
  go_wp2
  go_ret
  exact ⟨rfl, rfl⟩
set_option maxRecDepth 100000 in
theorem calls_any {S O R : Nat → Prop} {w : World} {p : Value} {m : Fs} (h : IsFs S O R w p m) :
    Calls Tryz.prog 52 #[p] w fun e w' => e = .returned (.int .i64 m.calls) ∧ w' = w := by
  obtain ⟨g, gm, gd, vp, vl, vu, L, c0, rfl, hg, hO, hP, -, -⟩ := h
  obtain ⟨d0, d1, d2, d3, d4, d5, d6, d7, d8⟩ := cellsAt9 hg
  clear hg hP
  go_enter Tryz.func52, Tryz.ntmps52
  go_wp2_with (go_at_call 83; go_must (refine (load_any d5).mono ?_; rintro e w' ⟨rfl, rfl⟩))
  go_ret
  exact ⟨rfl, rfl⟩

set_option maxRecDepth 100000 in
set_option maxHeartbeats 1000000 in
theorem settle_any {S O R : Nat → Prop} {w : World} {p : Value} {m : Fs} (h : IsFs S O R w p m) (hl : m.now.length ≤ 10000000) :
    Calls Tryz.prog 51 #[p] w fun e w' => e = .returned (.tuple #[]) ∧ FsPost S O R w p (settle m) w' := by
  obtain ⟨g, gm, gd, vp, vl, vu, L, c0, rfl, hg, hO, hP, hpl1, hc0⟩ := h
  have HG : Hid _ := hg
  have HP : Hid _ := hP
  obtain ⟨d0, d1, d2, d3, d4, d5, d6, d7, d8⟩ := cellsAt9 hg
  have hml := hP.now.lt
  clear hg hP
  go_enter Tryz.func51, Tryz.ntmps51
  go_wp2_with (first
    | (go_at_call 90; go_must (refine (copied_any HP.out.now (by omega)).mono ?_; rintro e w2 ⟨⟨g2, rfl, hge, hf2⟩, hx2⟩; have hg2 := Ext.row hx2 HG.out))
    | (refine store_field rfl 76 (.tmp 9) (.tmp 7) rfl g 2 rfl (.map (some g2)) rfl rfl _ _ hg2 (Nat.le_of_ble_eq_true rfl) size_map (fsCells m.room gm g2 vp vl m.calls vu m.time m.down) (by simp) ?_; intro w3 hg3 hgr3)
    | (refine store_field rfl 77 (.tmp 12) _ rfl g 3 rfl (.slice none 0 0) rfl rfl _ _ hg3 (Nat.le_of_ble_eq_true rfl) size_chs (fsCells m.room gm g2 (.slice none 0 0) vl m.calls vu m.time m.down) (by simp) ?_; intro w4 hg4 hgr4))
  go_end0
  have P2 : Parts S (On O w.heap.size) (On R w.heap.size) w2 gm g2 (.slice none 0 0) vl vu m.now m.now [] L m.users := by
    have q := (HP.out.ext hx2).mono (O' := On O w.heap.size) (R' := On R w.heap.size) (fun k hk => .inl hk) (fun k hk => .inl hk)
    exact ⟨by omega, q.om, .inr hge, q.now, hf2.mono (fun k hk => .inl hk), ⟨[], World.ownsRow_nil _ _ _ _, Each.nil _⟩, Inn.nil _ _ _, q.plan, q.ol, q.users, q.ou, q.off⟩
  refine ⟨rfl, IsFs.fit ⟨g, gm, g2, _, vl, vu, L, c0, rfl, hg4, .inl hO, (P2.own hg2 hgr3).own hg3 hgr4, hpl1, hc0⟩, ?_⟩
  exact (((Fr.refl O w).ext hx2).step hgr3 (fun k hk => by cases hk; exact .inl hO) (by rintro k hk; cases hk; exact cells_u8 hg2 (by kernel_rfl))).step hgr4 (fun k hk => by cases hk; exact .inl hO) (by rintro k hk; cases hk; exact cells_u8 hg3 (by kernel_rfl))

set_option maxRecDepth 100000 in
set_option maxHeartbeats 2000000 in
theorem removes_any {S O R : Nat → Prop} {w : World} {p : Value} {m : Fs} (path : B8) (hE : Env w) (h : IsFs S O R w p m) (hok : OkM m) (ht : m.time ≤ 9000000) (hp : path.length ≤ 1000) :
    Calls Tryz.prog 50 #[p, S8 path] w fun e w' => e = .returned (.int .i64 (removesM m path).2) ∧ FsPost S O R w p (removesM m path).1 w' := by
  have HH : Hid (IsFs S O R w p m) := h
  have HE : Hid _ := hE
  have hl := hok.lnow
  have hpl := hok.lpend
  have hdef : removesM m path = if pathB path = false then (m, 6) else if (look m.now path).isNone then (m, 7) else (does m (.del path), 0) := rfl
  have HDEF : Hid _ := hdef
  obtain ⟨g, gm, gd, vp, vl, vu, L, c0, rfl, hg, hO, hP, -, -⟩ := h
  have HG : Hid _ := hg
  have HF : Hid _ := hP.now
  clear hg hP hE hdef hok
  cases hpb : pathB path with
  | false =>
    have hdd : removesM m path = (m, 6) := by rw [HDEF.out, if_pos hpb]
    have HDD : Hid _ := hdd
    have HPB : Hid _ := hpb
    clear hdd hpb
    go_enter Tryz.func50, Tryz.ntmps50
    go_wp2_with (go_at_call 66; go_must (refine (path_l path _ HE.out (by omega)).mono ?_; rw [HPB.out]; rintro e w2 ⟨rfl, hx2⟩))
    go_ret
    rw [HDD.out]
    exact ⟨rfl, FsPost.same HH.out hx2⟩
  | true =>
    have HPB : Hid _ := hpb
    cases hlk : look m.now path with
    | none =>
      have hdd : removesM m path = (m, 7) := by rw [HDEF.out, if_neg (by simp [hpb]), if_pos (by rw [hlk]; rfl)]
      have HDD : Hid _ := hdd
      have HLK : Hid _ := hlk
      clear hdd hlk hpb
      go_enter Tryz.func50, Tryz.ntmps50
      go_wp2_with (go_at_call 66; go_must (refine (path_l path _ HE.out (by omega)).mono ?_; rw [HPB.out]; rintro e w2 ⟨rfl, hx2⟩; obtain ⟨d0, d1, d2, d3, d4, d5, d6, d7, d8⟩ := cellsAt9 (Ext.row hx2 HG.out); obtain ⟨val, hrun, -, -, hv2⟩ := (HF.out.ext hx2).look_run path (by omega); obtain rfl := hv2 HLK.out; rw [HLK.out] at hrun; simp only [Option.isSome_none] at hrun; clear hv2))
      go_ret
      rw [HDD.out]
      exact ⟨rfl, FsPost.same HH.out (hx2.trans ((Ext.refl _).alloc _))⟩
    | some f =>
      have hdd : removesM m path = (does m (.del path), 0) := by rw [HDEF.out, if_neg (by simp [hpb]), if_neg (by rw [hlk]; simp)]
      have HDD : Hid _ := hdd
      have HLK : Hid _ := hlk
      clear hdd hlk hpb
      go_enter Tryz.func50, Tryz.ntmps50
      go_wp2_with (first
        | (go_at_call 66; go_must (refine (path_l path _ HE.out (by omega)).mono ?_; rw [HPB.out]; rintro e w2 ⟨rfl, hx2⟩; obtain ⟨d0, d1, d2, d3, d4, d5, d6, d7, d8⟩ := cellsAt9 (Ext.row hx2 HG.out); obtain ⟨val, hrun, -, hv1, -⟩ := (HF.out.ext hx2).look_run path (by omega); obtain ⟨sv, rfl, hsv⟩ := hv1 f HLK.out; obtain ⟨s1, s2, rfl, -⟩ := hsv.bytes; rw [HLK.out] at hrun; simp only [Option.isSome_some] at hrun; clear hv1 hsv))
        | (go_at_call 89; go_must (refine (does_other (R := R) path [] (.del path) (IsFs.ext HH.out (hx2.trans ((Ext.refl _).alloc _))) (fun _ _ => ⟨by omega, rfl⟩) (fun _ => rfl) (fun s d hh => by cases hh) (by omega) (by omega) (by omega)).mono ?_; rintro e w3 ⟨rfl, hf3, hr3⟩)))
      go_ret
      rw [HDD.out]
      exact ⟨rfl, FsPost.of_ext (hx2.trans ((Ext.refl _).alloc _)) ⟨hf3.mono (fun k hk => hk) (fun k hk => hk.imp .inl id), hr3⟩⟩

end Go.Proofs.YtdhgmpibjneplaaGreatDoor

/-! fsim.FS: UserWrite, UserRemove. Conditions: at most 9000000 ticks; short paths and data. -/
namespace Go.Proofs.YtdhgmpibjneplaaGreatDoor
open Go Go.RowKit

theorem info_ev : (Tryz.prog.info? 108).map (fun i => (i.zero, i.size, i.bytes)) = some (some (.agg #[.int .i64 0, .int .i64 0, .int .i64 0, .int .i64 0, .int .i64 0, S8 [], .slice none 0 0]), 7, 80) := by kernel_rfl

section
variable {ops : Array Oper} {rest : List Oper} {o : Oper} {a : Act} {Q : Exit → Act → World → Prop} {w : World}
/-- append of one event. -/
theorem app_ev (hgd : o.guard = none) (s x : Operand) (ho : o.op = .call { callee := .builtin .append, args := #[s, x], argTypes := #[36, 36] })
    (base : Nat) (v : Value) (n : Nat) (xs : List Value) (hs : a.eval s = v) (hown : w.ownsRow base 108 7 v n xs)
    (g c : Nat) (news : List Value) (hx : a.eval x = .slice (some ⟨g, 0, none⟩) 1 c) (hl : news.length = 7) {fr : Nat × Nat} (hg : w.heap[g]? = some (.cells news.toArray 108 fr)) (h1 : news.all (·.oneCell') = true)
    (hb : n ≤ 100000000) (hbase : base ≤ w.heap.size)
    (h : ∀ v' w', w'.ownsRow base 108 7 v' (n + 1) (xs ++ news) → w.grownBy w' v.ownBlock → (∀ k, v'.ownBlock = some k → v.ownBlock = some k ∨ w.heap.size ≤ k) → wpList Tryz.prog ops Q rest (a.put o.dst v') w') : wpList Tryz.prog ops Q (o :: rest) a w := by
  obtain ⟨i0, hi, hz0, hz1, hz2⟩ := info_parts info_ev
  exact wpList_append_own_at w hgd s x _ ho base _ i0 _ 7 80 Tryz.underlying36 hi hz0 hz1 hz2 rfl (by omega) v n xs hs hown ⟨g, 0, none⟩ 1 c news hx (by simpa using hl) (by simpa using news_of_block hg) (fun u hu => List.all_eq_true.1 h1 u hu) (by unfold maxLen; omega) (by omega) hbase
    (fun v' w' h1 h2 _ h4 => h v' w' h1 h2 (fun k hk => by
      rcases h4 with h4 | h4
      · exact .inl (h4.symm.trans hk)
      · rw [h4] at hk; simp only [Option.some.injEq] at hk; exact .inr (by omega)))
end

theorem puts_size {m : Fs} {path : B8} {mode : Int} {data : B8} {fits : Bool} : (putsM m path mode data fits).1.now.length ≤ m.now.length + 1 ∧ (putsM m path mode data fits).1.users = m.users ∧ (putsM m path mode data fits).1.calls = m.calls := by
  unfold putsM
  split
  · exact ⟨by simp, rfl, rfl⟩
  · split
    · exact ⟨by simp, rfl, rfl⟩
    · refine ⟨?_, rfl, rfl⟩
      simp only [does]
      exact ap_length _ _
theorem removes_size {m : Fs} {path : B8} : (removesM m path).1.now.length ≤ m.now.length + 1 ∧ (removesM m path).1.users = m.users ∧ (removesM m path).1.calls = m.calls := by
  unfold removesM
  split
  · exact ⟨by simp, rfl, rfl⟩
  · split
    · exact ⟨by simp, rfl, rfl⟩
    · refine ⟨?_, rfl, rfl⟩
      simp only [does]
      exact ap_length _ _

/-- What a user did is noted: the slice that has grown is stored. -/
theorem users_done {S O R : Nat → Prop} {w w6 w7 w8 : World} {g gm gd c0 : Nat} {vp vl va : Value} {now sure : Files} {pend : List Ch} {L users : List Ev} {va' : Nat} {vc : Nat} {cs : List Value} {css : List (List Value)} {e : Ev} {m : Fs}
    (hx : Ext w w6) (hO : O g) (hP : Parts S O R w6 gm gd vp vl va now sure pend L users) (he : Each (IsEvR R w6) css users) (hown : w7.ownsRow 0 108 7 (.slice (some ⟨va', 0, none⟩) (users.length + 1) vc) (users.length + 1) (css.flatten ++ cs)) (hgr7 : w6.grownBy w7 va.ownBlock)
    (hwh : ∀ k, Value.ownBlock (.slice (some ⟨va', 0, none⟩) (users.length + 1) vc) = some k → va.ownBlock = some k ∨ w6.heap.size ≤ k) {arr : Array Value} (hg7 : w7.heap[g]? = some (.cells arr 84 (0, 0))) (hgr8 : w7.grownBy w8 (some g))
    (hc : IsEvR (fun k => w.heap.size ≤ k) w6 cs e)
    (hg8 : w8.heap[g]? = some (.cells (fsCells m.room gm gd vp vl m.calls (.slice (some ⟨va', 0, none⟩) (users.length + 1) vc) m.time m.down) 84 (0, 0)))
    (h1 : m.now = now) (h2 : m.sure = sure) (h3 : m.pend = pend) (h4 : m.users = users ++ [e]) (hpl : m.plan = L.filter (fun e => decide ((c0 : Int) < e.t))) (hc0 : c0 ≤ m.calls ∧ L.length ≤ 1000) : FsPost S O R w (.pointer (some ⟨g, 0, none⟩)) m w8 := by
  have hu6 : ∀ k, va.ownBlock = some k → ¬ IsU8 w6 k := fun k hk => by
    obtain ⟨cs9, fr9, hx9⟩ := hP.users.typed k hk
    exact cells_u8 hx9 (by kernel_rfl)
  have k67 : ∀ R : Nat → Prop, KeepR R w6 w7 := fun R => grownR hgr7 hu6
  have hn7 : OwnL w7 108 7 (IsEvR (On R w.heap.size) w7) (.slice (some ⟨va', 0, none⟩) (users.length + 1) vc) (users ++ [e]) :=
    OwnL.app he hown (fun c x hx => (hx.keepR (k67 _)).mono (fun k hk => .inl hk)) ((hc.keepR (k67 _)).mono (fun k hk => .inr hk))
  have hP7 := (hP.mono (O' := On O w.heap.size) (R' := On R w.heap.size) (fun k hk => .inl hk) (fun k hk => .inl hk)).appUsers hgr7 hn7 (fun k hk => by
    rcases hwh k hk with h1 | h1
    · exact .inl (hP.ou k h1)
    · exact .inr (Nat.le_trans hx.size h1)) (fun k hk => by
    rcases hwh k hk with h1 | h1
    · exact hP.off k h1
    · intro hv
      obtain ⟨cs9, fr9, hx9⟩ := hP.plan.typed k hv
      have := (Array.getElem?_eq_some_iff.1 hx9).1
      omega)
  subst h1 h2 h3
  refine ⟨IsFs.fit ⟨g, gm, gd, vp, vl, _, L, c0, rfl, hg8, .inl hO, ?_, hpl, hc0⟩, ?_⟩
  · rw [h4]; exact hP7.own hg7 hgr8
  · exact (((Fr.refl O w).ext hx).step hgr7 (fun k hk => .inl (hP.ou k hk)) hu6).step hgr8 (fun k hk => by cases hk; exact .inl hO) (by rintro k hk; cases hk; exact cells_u8 hg7 (by kernel_rfl))

/-- A slice that no call on a file system writes. -/
def Out (O : Nat → Prop) (w : World) (v : Value) : Prop := ∀ a n c, v = .slice (some a) n c → n ≠ 0 → ¬ O a.block ∨ IsU8 w a.block
theorem IsBytes.fr {O : Nat → Prop} {w w' : World} {v : Value} {l : B8} (h : IsBytes w v l) (ho : Out O w v) (hf : Fr O w w') : IsBytes w' v l := by
  obtain ⟨a, cap, rfl, h1, h2, h3, h4⟩ := h
  refine ⟨a, cap, rfl, h1, h2, h3, fun hn => ?_⟩
  have hl : l.length ≠ 0 := fun h0 => hn (by rw [List.eq_nil_of_length_eq_zero h0]; rfl)
  obtain ⟨b, o, rfl, hc⟩ := h4 hn
  refine ⟨b, o, rfl, fun i u hu => ?_⟩
  have hcu := hc i u hu
  rw [World.cell?_of_block (w := w) (w' := w') (a := ⟨b, o + i, none⟩) (hf.block b (World.block_lt_of_cell? _ _ hcu) (ho _ _ _ rfl hl))]
  exact hcu
theorem IsData.out {O R : Nat → Prop} {w : World} {v : Value} {l : B8} (h : IsData R w v l) : Out O w v := fun a n c he _ => .inr (h.typed a n c he)
theorem Env.fr {O : Nat → Prop} {w w' : World} (h : Env w) (hf : Fr O w w') (ho : ∀ k, O k → k ≠ 0) : Env w' := by
  obtain ⟨m, hm⟩ := h
  exact ⟨m, by rw [World.cell?_of_block (w := w) (w' := w') (hf.block _ (World.block_lt_of_cell? _ _ hm) (.inl (fun hh => ho _ hh rfl)))]; exact hm⟩

set_option maxRecDepth 100000 in
set_option maxHeartbeats 4000000 in
theorem userWrite_any {S O R : Nat → Prop} {w : World} {p : Value} {m : Fs} (path : B8) (mode : Int) (v : Value) (data : B8) (hE : Env w) (h : IsFs S O R w p m) (hok : OkM m) (ht : m.time ≤ 9000000) (hp : path.length ≤ 1000) (hv : IsBytes w v data) (hdl : data.length ≤ 140737488355328) (hmay : pathB path = true → mayP m.now path [] = mayF m.now path []) (hout : Out O w v) :
    Calls Tryz.prog 17 #[p, S8 path, .int .i64 mode, v] w fun e w' => e = .returned (.int .i64 (userWrite m path mode data).2) ∧ FsPost S O R w p (userWrite m path mode data).1 w' := by
  have HH : Hid (IsFs S O R w p m) := h
  have HE : Hid _ := hE
  have HV : Hid _ := hv
  have HOK : Hid _ := hok
  have HM : Hid _ := hmay
  have hl := hok.lnow
  have hlu := hok.lusers
  have hdef : userWrite m path mode data = if m.down then (m, 12) else if wrongE path mode data ≠ 0 then (m, wrongE path mode data)
    else if (putsM m path mode data true).2 ≠ 0 then putsM m path mode data true
    else ({ settle (putsM m path mode data true).1 with users := m.users ++ [⟨m.calls, 4, mode, 0, 0, path, data⟩] }, 0) := rfl
  have HDEF : Hid _ := hdef
  obtain ⟨a, c, rfl, -⟩ := hv.get
  obtain ⟨g, gm, gd, vp, vl, vu, L, c0, rfl, hg, hO, hP, -, -⟩ := h
  obtain ⟨d0, d1, d2, d3, d4, d5, d6, d7, d8⟩ := cellsAt9 hg
  clear hg hP hE hdef hok hv hmay
  cases hdn : m.down with
  | true =>
    have hdd : userWrite m path mode data = (m, 12) := by rw [HDEF.out, hdn]; rfl
    have HDD : Hid _ := hdd
    rw [hdn] at d8
    clear hdd hdn
    go_enter Tryz.func17, Tryz.ntmps17
    go_wp2
    go_ret
    rw [HDD.out]
    exact ⟨rfl, FsPost.same HH.out (Ext.refl _)⟩
  | false =>
    rw [hdn] at d8
    have HDN : Hid _ := hdn
    clear hdn
    obtain ⟨e1, he1⟩ : ∃ e1, wrongE path mode data = e1 := ⟨_, rfl⟩
    have HE1 : Hid _ := he1
    by_cases hz : e1 = 0
    · subst hz
      obtain ⟨hpb, hdl2⟩ : pathB path = true ∧ data.length ≤ 20000 := by
        unfold wrongE at he1
        split at he1
        · cases he1
        · rename_i h1
          split at he1
          · cases he1
          · split at he1
            · cases he1
            · exact ⟨by simpa using h1, by omega⟩
      have HPB : Hid _ := hpb
      obtain ⟨mp, e2, hmp⟩ : ∃ mp e2, putsM m path mode data true = (mp, e2) := ⟨_, _, rfl⟩
      have HMP : Hid _ := hmp
      have hps := @puts_size m path mode data true
      rw [hmp] at hps
      simp only at hps
      have HPU : Hid _ := hps.2.1
      have HPC : Hid _ := hps.2.2
      have hpl := hps.1
      by_cases hz2 : e2 = 0
      · subst hz2
        have hdd : userWrite m path mode data = ({ settle mp with users := m.users ++ [⟨m.calls, 4, mode, 0, 0, path, data⟩] }, 0) := by rw [HDEF.out, HDN.out, he1, hmp]; simp
        have HDD : Hid _ := hdd
        clear hdd he1 hmp hps hpb
        go_enter Tryz.func17, Tryz.ntmps17
        go_wp2_with (first
          | (go_at_call 53; go_must (refine (wrong_any path mode _ data _ HE.out HV.out (by omega)).mono ?_; rw [HE1.out]; rintro e w2 ⟨rfl, hx2⟩))
          | (go_at_call 54; go_must (refine (puts_any path mode _ data true (HE.out.ext hx2) (IsFs.ext HH.out hx2) HOK.out ht hp (IsBytes.ext HV.out hx2) hdl2 (HM.out HPB.out)).mono ?_; rw [HMP.out]; rintro e w3 ⟨rfl, hf3⟩; have HF3 : Hid _ := hf3; clear hf3))
          | (go_at_call 51; go_must (refine (settle_any HF3.out.fs (by omega)).mono ?_; rintro e w4 ⟨rfl, hf4⟩; have HF4 : Hid _ := hf4; clear hf4)))
        have P4 := FsPost.pre hx2 (FsPost.trans HF3.out HF4.out)
        have HP4 : Hid _ := P4
        have hv4 := IsBytes.fr HV.out hout P4.fr
        have HV4 : Hid _ := hv4
        obtain ⟨g4, gm4, gd4, vp4, vl4, vu4, L4, c4, hpe, hg4, hO4, hQ4, hpl4, hc4⟩ := P4.fs
        cases hpe
        obtain ⟨b0, b1, b2, b3, b4, b5, b6, b7, b8⟩ := cellsAt9 hg4
        have hus : (settle mp).users = m.users := HPU.out
        have hca : (settle mp).calls = m.calls := HPC.out
        rw [hus] at hQ4
        obtain ⟨css, hown4, heach4⟩ := hQ4.users
        obtain ⟨ua, uc, rfl, -⟩ := Row.of_owns hown4 (by omega)
        have HQ4 : Hid _ := hQ4
        have HE4 : Hid _ := heach4
        have HG4 : Hid _ := hg4
        have HPL4 : Hid _ := hpl4
        clear P4 hv4 hQ4 heach4 hpl4 hg4 d0 d1 d2 d3 d4 d5 d6 d7 d8 b0 b1 b2 b3 b4 b5 b7 b8
        apply wp_region_free 13 0 (.pointer (some ⟨g, 0, none⟩)) [.pointer (some ⟨g, 0, none⟩), _, _, _, _, _, .int .i64 m.calls, _, _, _, undef, undef, undef] [none, none, none, none, none, none, none, none, none, none, some (fun u w' => IsData (fun k => w4.heap.size ≤ k) w' u data), some (fun u w' => ∃ va vc, u = .agg #[.int .i64 m.calls, .int .i64 4, .int .i64 mode, .int .i64 0, .int .i64 0, S8 path, .slice va data.length vc] ∧ IsData (fun k => w4.heap.size ≤ k) w' (.slice va data.length vc) data), some (fun u w' => ∃ k va vc, u = .slice (some ⟨k, 0, none⟩) 1 1 ∧ w'.heap[k]? = some (.cells #[.int .i64 m.calls, .int .i64 4, .int .i64 mode, .int .i64 0, .int .i64 0, S8 path, .slice va data.length vc] 108 (0, 0)) ∧ IsData (fun k => w4.heap.size ≤ k) w' (.slice va data.length vc) data)] [[], [], [1], [2], [3], [], [5], [], [], [], [9], [6, 7, 8, 10], [11]] (by kernel_rfl) (by kernel_rfl) (by simp [mixV])
        · refine ⟨?_, ?_, ?_, trivial⟩
          · exact fun _ _ _ he hu => hu.ext he
          · exact fun _ _ _ he ⟨va, vc, h1, h2⟩ => ⟨va, vc, h1, h2.ext he⟩
          · exact fun _ _ _ he ⟨k, va, vc, h1, h3, h4⟩ => ⟨k, va, vc, h1, he.row h3, h4.ext he⟩
        · exact ⟨_, rfl, rfl, fun w => by go_simp⟩
        · exact fun _ => rfl
        · simp (maxSteps := 1000000) only [List.take_succ_cons, List.take_zero, oblFrom, stepObl, fillFrom, Act.put, List.setIfInBounds_toArray, List.set_cons_zero, List.set_cons_succ, knows, getV, mixV, List.getD_cons_zero, List.getD_cons_succ, and_true, true_and, forall_const]
          refine ⟨?_, ?_, ?_, ?_, ?_, ?_, ?_, ?_, ?_, ?_, ?_, ?_, ?_⟩
          · intro xs wq hq R hR
            have f6 := hq.cell b6
            go_simp
            exact hR _ _ (Ext.refl _) rfl
          · intro xs wq hq R hR
            have f6 := hq.cell b6
            go_simp
            exact hR _ _ (Ext.refl _) rfl
          · intro xs wq hq hk R hR
            have f6 := hq.cell b6
            go_simp
            exact hR _ _ (Ext.refl _) rfl
          · intro xs wq hq hk R hR
            have f6 := hq.cell b6
            go_simp
            exact hR _ _ (Ext.refl _) rfl
          · intro xs wq hq hk R hR
            have f6 := hq.cell b6
            go_simp
            exact hR _ _ (Ext.refl _) rfl
          · intro xs wq hq R hR
            have f6 := hq.cell b6
            go_simp
            exact hR _ _ (Ext.refl _) rfl
          · intro xs wq hq hk R hR
            go_simp
            exact (calls_any (IsFs.ext HP4.out.fs hq)).mono (by rw [hca]; rintro e' w7 ⟨rfl, rfl⟩; exact ⟨_, rfl, hR _ _ (Ext.refl _) rfl⟩)
          · intro xs wq hq R hR
            have f6 := hq.cell b6
            go_simp
            exact hR _ _ (Ext.refl _) rfl
          · intro xs wq hq R hR
            have f6 := hq.cell b6
            go_simp
            exact hR _ _ (Ext.refl _) rfl
          · intro xs wq hq R hR
            have f6 := hq.cell b6
            go_simp
            exact hR _ _ (Ext.refl _) rfl
          · intro xs wq hq hk R hR
            go_simp
            exact (clone_any _ data _ (IsBytes.ext HV4.out hq) (by omega)).mono (by rintro e' w7 ⟨⟨u, rfl, hu⟩, h2⟩; exact ⟨_, rfl, hR _ _ h2 (hu.mono (fun k hk => Nat.le_trans hq.size hk.1))⟩)
          · intro xs wq hq hk R hR
            obtain ⟨hk0, hk1, hk2, hk3⟩ := hk
            obtain ⟨qa, qc, hqa, -⟩ := id hk3.bytes
            go_simp
            exact hR _ _ (Ext.refl _) ⟨_, _, rfl, hqa ▸ hk3⟩
          · intro xs wq hq hk R hR
            obtain ⟨va, vc, hva, hdv⟩ := hk
            go_simp
            exact hR _ _ ((Ext.refl _).alloc _) ⟨_, _, _, rfl, alloc_at _ _, hdv.ext ((Ext.refl _).alloc _)⟩
        intro xs w6 hx6 hk
        simp only [heldV, Nat.zero_add, Nat.reduceAdd, and_true] at hk
        obtain ⟨q0, q1, q2, q3, q4, q5, q6, q7, q8, q9, q10, q11, q12⟩ := hk
        simp (maxSteps := 1000000) only [List.take_succ_cons, List.take_zero, List.drop_succ_cons, List.drop_zero, fillFrom, Act.put, List.setIfInBounds_toArray, List.set_cons_zero, List.set_cons_succ, Nat.zero_add, Nat.reduceAdd, q0, q1, q2, q3, q4, q5, q6, q7, q8, q9]
        clear q0 q1 q2 q3 q4 q5 q6 q7 q8 q9
        generalize xs 10 = x10 at *
        generalize xs 11 = x11 at *
        generalize xs 12 = x12 at *
        obtain ⟨k6, da, dc, rfl, hk6, hdk⟩ := q12
        have hown6 := owns_ext hown4 hx6
        have hg6 := Ext.row hx6 HG4.out
        have HQ6 : Hid _ := HQ4.out.ext hx6
        have HDK : Hid _ := hdk
        clear hown4 hdk b6
        go_wp2_with (first
          | (at_builtin; go_must (refine app_ev rfl _ _ rfl 0 _ m.users.length _ rfl hown6 k6 1 _ rfl rfl hk6 (by simp [Value.oneCell']) (by omega) (Nat.zero_le _) ?_; intro v7 w7 hown7 hgr7 hwh7; obtain ⟨va', vc', rfl⟩ := owns_some hown7 (by omega); have hg7 : w7.heap[g]? = _ := (hgr7.block g (Array.getElem?_eq_some_iff.1 hg6).1 (fun heq => by obtain ⟨cs9, fr9, hx9⟩ := HQ6.out.users.typed g heq.symm; rw [hg6] at hx9; simp at hx9)).trans hg6))
          | (refine store_field rfl 36 (.tmp 44) (.tmp 42) rfl g 6 rfl (.slice (some ⟨va', 0, none⟩) (m.users.length + 1) vc') rfl rfl _ _ hg7 (Nat.le_of_ble_eq_true rfl) size_evs (fsCells (settle mp).room gm4 gd4 vp4 vl4 (settle mp).calls (.slice (some ⟨va', 0, none⟩) (m.users.length + 1) vc') (settle mp).time (settle mp).down) (by simp) ?_; intro w8 hg8 hgr8))
        refine NoP.intro ?_
        go_wp2
        go_ret
        rw [HDD.out]
        refine ⟨rfl, HP4.out.trans ?_⟩
        exact users_done (m := { settle mp with users := m.users ++ [⟨m.calls, 4, mode, 0, 0, path, data⟩] }) (e := ⟨m.calls, 4, mode, 0, 0, path, data⟩) hx6 hO4 HQ6.out (Each.imp HE4.out (fun c x hx => IsEvR.keepR hx (KeepR.of_keep (KeepB.of_ext hx6)))) hown7 hgr7 hwh7 hg7 hgr8 ⟨_, rfl, HDK.out, show path.length ≤ 10000000 by omega⟩ hg8 rfl rfl rfl rfl HPL4.out hc4
      · have hdd : userWrite m path mode data = (mp, e2) := by rw [HDEF.out, HDN.out, he1, hmp]; simp [hz2]
        have HDD : Hid _ := hdd
        have hzz : (e2 == 0) = false := by simpa using hz2
        clear hdd he1 hmp hps hpb hz2
        go_enter Tryz.func17, Tryz.ntmps17
        go_wp2_with (first
          | (go_at_call 53; go_must (refine (wrong_any path mode _ data _ HE.out HV.out (by omega)).mono ?_; rw [HE1.out]; rintro e w2 ⟨rfl, hx2⟩))
          | (go_at_call 54; go_must (refine (puts_any path mode _ data true (HE.out.ext hx2) (IsFs.ext HH.out hx2) HOK.out ht hp (IsBytes.ext HV.out hx2) hdl2 (HM.out HPB.out)).mono ?_; rw [HMP.out]; rintro e w3 ⟨rfl, hf3⟩; have HF3 : Hid _ := hf3; clear hf3)))
        go_ret
        rw [HDD.out]
        exact ⟨rfl, FsPost.pre hx2 HF3.out⟩
    · have hdd : userWrite m path mode data = (m, e1) := by rw [HDEF.out, HDN.out, he1]; simp [hz]
      have HDD : Hid _ := hdd
      have hzz : (e1 == 0) = false := by simpa using hz
      clear hdd he1 hz
      go_enter Tryz.func17, Tryz.ntmps17
      go_wp2_with (go_at_call 53; go_must (refine (wrong_any path mode _ data _ HE.out HV.out (by omega)).mono ?_; rw [HE1.out]; rintro e w2 ⟨rfl, hx2⟩))
      go_ret
      rw [HDD.out]
      exact ⟨rfl, FsPost.same HH.out hx2⟩


set_option maxRecDepth 100000 in
set_option maxHeartbeats 4000000 in
theorem userRemove_any {S O R : Nat → Prop} {w : World} {p : Value} {m : Fs} (path : B8) (hE : Env w) (h : IsFs S O R w p m) (hok : OkM m) (ht : m.time ≤ 9000000) (hp : path.length ≤ 1000) :
    Calls Tryz.prog 16 #[p, S8 path] w fun e w' => e = .returned (.int .i64 (userRemove m path).2) ∧ FsPost S O R w p (userRemove m path).1 w' := by
  have HH : Hid (IsFs S O R w p m) := h
  have HE : Hid _ := hE
  have HOK : Hid _ := hok
  have hl := hok.lnow
  have hlu := hok.lusers
  have hdef : userRemove m path = if m.down then (m, 12) else if (removesM m path).2 ≠ 0 then removesM m path
    else ({ settle (removesM m path).1 with users := m.users ++ [⟨m.calls, 5, 0, 0, 0, path, []⟩] }, 0) := rfl
  have HDEF : Hid _ := hdef
  obtain ⟨g, gm, gd, vp, vl, vu, L, c0, rfl, hg, hO, hP, -, -⟩ := h
  obtain ⟨d0, d1, d2, d3, d4, d5, d6, d7, d8⟩ := cellsAt9 hg
  clear hg hP hE hdef hok
  cases hdn : m.down with
  | true =>
    have hdd : userRemove m path = (m, 12) := by rw [HDEF.out, hdn]; rfl
    have HDD : Hid _ := hdd
    rw [hdn] at d8
    clear hdd hdn
    go_enter Tryz.func16, Tryz.ntmps16
    go_wp2
    go_ret
    rw [HDD.out]
    exact ⟨rfl, FsPost.same HH.out (Ext.refl _)⟩
  | false =>
    rw [hdn] at d8
    have HDN : Hid _ := hdn
    clear hdn
    obtain ⟨mp, e2, hmp⟩ : ∃ mp e2, removesM m path = (mp, e2) := ⟨_, _, rfl⟩
    have HMP : Hid _ := hmp
    have hps := @removes_size m path
    rw [hmp] at hps
    simp only at hps
    have HPU : Hid _ := hps.2.1
    have HPC : Hid _ := hps.2.2
    have hpl := hps.1
    by_cases hz2 : e2 = 0
    · subst hz2
      have hdd : userRemove m path = ({ settle mp with users := m.users ++ [⟨m.calls, 5, 0, 0, 0, path, []⟩] }, 0) := by rw [HDEF.out, HDN.out, hmp]; simp
      have HDD : Hid _ := hdd
      clear hdd hmp hps
      go_enter Tryz.func16, Tryz.ntmps16
      go_wp2_with (first
        | (go_at_call 50; go_must (refine (removes_any path HE.out HH.out HOK.out ht hp).mono ?_; rw [HMP.out]; rintro e w3 ⟨rfl, hf3⟩; have HF3 : Hid _ := hf3; clear hf3))
        | (go_at_call 51; go_must (refine (settle_any HF3.out.fs (by omega)).mono ?_; rintro e w4 ⟨rfl, hf4⟩; have HF4 : Hid _ := hf4; clear hf4)))
      have P4 := FsPost.trans HF3.out HF4.out
      have HP4 : Hid _ := P4
      obtain ⟨g4, gm4, gd4, vp4, vl4, vu4, L4, c4, hpe, hg4, hO4, hQ4, hpl4, hc4⟩ := P4.fs
      cases hpe
      obtain ⟨b0, b1, b2, b3, b4, b5, b6, b7, b8⟩ := cellsAt9 hg4
      have hus : (settle mp).users = m.users := HPU.out
      have hca : (settle mp).calls = m.calls := HPC.out
      rw [hus] at hQ4
      obtain ⟨css, hown4, heach4⟩ := hQ4.users
      obtain ⟨ua, uc, rfl, -⟩ := Row.of_owns hown4 (by omega)
      have HQ4 : Hid _ := hQ4
      have HE4 : Hid _ := heach4
      have HG4 : Hid _ := hg4
      have HPL4 : Hid _ := hpl4
      clear P4 hQ4 heach4 hpl4 hg4 d0 d1 d2 d3 d4 d5 d6 d7 d8 b0 b1 b2 b3 b4 b5 b7 b8
      apply wp_region_free 10 0 (.pointer (some ⟨g, 0, none⟩)) [.pointer (some ⟨g, 0, none⟩), _, _, _, _, _, .int .i64 m.calls, _, .agg #[.int .i64 m.calls, .int .i64 5, .int .i64 0, .int .i64 0, .int .i64 0, S8 path, .slice none 0 0], undef] [none, none, none, none, none, none, none, none, none, some (fun u w' => ∃ k, u = .slice (some ⟨k, 0, none⟩) 1 1 ∧ w'.heap[k]? = some (.cells #[.int .i64 m.calls, .int .i64 5, .int .i64 0, .int .i64 0, .int .i64 0, S8 path, .slice none 0 0] 108 (0, 0)))] [[], [], [1], [2], [3], [], [5], [], [6, 7], [8]] (by kernel_rfl) (by kernel_rfl) (by simp [mixV])
      · refine ⟨?_, trivial⟩
        · exact fun _ _ _ he ⟨k, h1, h3⟩ => ⟨k, h1, he.row h3⟩
      · exact ⟨_, rfl, rfl, fun w => by go_simp⟩
      · exact fun _ => rfl
      · simp (maxSteps := 1000000) only [List.take_succ_cons, List.take_zero, oblFrom, stepObl, fillFrom, Act.put, List.setIfInBounds_toArray, List.set_cons_zero, List.set_cons_succ, knows, getV, mixV, List.getD_cons_zero, List.getD_cons_succ, and_true, true_and, forall_const]
        refine ⟨?_, ?_, ?_, ?_, ?_, ?_, ?_, ?_, ?_, ?_⟩
        · intro xs wq hq R hR
          have f6 := hq.cell b6
          go_simp
          exact hR _ _ (Ext.refl _) rfl
        · intro xs wq hq R hR
          have f6 := hq.cell b6
          go_simp
          exact hR _ _ (Ext.refl _) rfl
        · intro xs wq hq hk R hR
          have f6 := hq.cell b6
          go_simp
          exact hR _ _ (Ext.refl _) rfl
        · intro xs wq hq hk R hR
          have f6 := hq.cell b6
          go_simp
          exact hR _ _ (Ext.refl _) rfl
        · intro xs wq hq hk R hR
          have f6 := hq.cell b6
          go_simp
          exact hR _ _ (Ext.refl _) rfl
        · intro xs wq hq R hR
          have f6 := hq.cell b6
          go_simp
          exact hR _ _ (Ext.refl _) rfl
        · intro xs wq hq hk R hR
          go_simp
          exact (calls_any (IsFs.ext HP4.out.fs hq)).mono (by rw [hca]; rintro e' w7 ⟨rfl, rfl⟩; exact ⟨_, rfl, hR _ _ (Ext.refl _) rfl⟩)
        · intro xs wq hq R hR
          have f6 := hq.cell b6
          go_simp
          exact hR _ _ (Ext.refl _) rfl
        · intro xs wq hq hk R hR
          obtain ⟨hk0, hk1⟩ := hk
          have f6 := hq.cell b6
          go_simp
          exact hR _ _ (Ext.refl _) rfl
        · intro xs wq hq hk R hR
          go_simp
          exact hR _ _ ((Ext.refl _).alloc _) ⟨_, rfl, alloc_at _ _⟩
      intro xs w6 hx6 hk
      simp only [heldV, Nat.zero_add, Nat.reduceAdd, and_true] at hk
      obtain ⟨q0, q1, q2, q3, q4, q5, q6, q7, q8, q9⟩ := hk
      simp (maxSteps := 1000000) only [List.take_succ_cons, List.take_zero, List.drop_succ_cons, List.drop_zero, fillFrom, Act.put, List.setIfInBounds_toArray, List.set_cons_zero, List.set_cons_succ, Nat.zero_add, Nat.reduceAdd, q0, q1, q2, q3, q4, q5, q6, q7, q8]
      clear q0 q1 q2 q3 q4 q5 q6 q7 q8
      generalize xs 9 = x9 at *
      obtain ⟨k6, rfl, hk6⟩ := q9
      have hown6 := owns_ext hown4 hx6
      have hg6 := Ext.row hx6 HG4.out
      have HQ6 : Hid _ := HQ4.out.ext hx6
      clear hown4 b6
      go_wp2_with (first
        | (at_builtin; go_must (refine app_ev rfl _ _ rfl 0 _ m.users.length _ rfl hown6 k6 1 _ rfl rfl hk6 (by simp [Value.oneCell']) (by omega) (Nat.zero_le _) ?_; intro v7 w7 hown7 hgr7 hwh7; obtain ⟨va', vc', rfl⟩ := owns_some hown7 (by omega); have hg7 : w7.heap[g]? = _ := (hgr7.block g (Array.getElem?_eq_some_iff.1 hg6).1 (fun heq => by obtain ⟨cs9, fr9, hx9⟩ := HQ6.out.users.typed g heq.symm; rw [hg6] at hx9; simp at hx9)).trans hg6))
        | (refine store_field rfl 36 (.tmp 29) (.tmp 27) rfl g 6 rfl (.slice (some ⟨va', 0, none⟩) (m.users.length + 1) vc') rfl rfl _ _ hg7 (Nat.le_of_ble_eq_true rfl) size_evs (fsCells (settle mp).room gm4 gd4 vp4 vl4 (settle mp).calls (.slice (some ⟨va', 0, none⟩) (m.users.length + 1) vc') (settle mp).time (settle mp).down) (by simp) ?_; intro w8 hg8 hgr8))
      refine NoP.intro ?_
      go_wp2
      go_ret
      rw [HDD.out]
      refine ⟨rfl, HP4.out.trans ?_⟩
      exact users_done (m := { settle mp with users := m.users ++ [⟨m.calls, 5, 0, 0, 0, path, []⟩] }) (e := ⟨m.calls, 5, 0, 0, 0, path, []⟩) hx6 hO4 HQ6.out (Each.imp HE4.out (fun c x hx => IsEvR.keepR hx (KeepR.of_keep (KeepB.of_ext hx6)))) hown7 hgr7 hwh7 hg7 hgr8 ⟨_, rfl, IsData.nil _ _, show path.length ≤ 10000000 by omega⟩ hg8 rfl rfl rfl rfl HPL4.out hc4
    · have hdd : userRemove m path = (mp, e2) := by rw [HDEF.out, HDN.out, hmp]; simp [hz2]
      have HDD : Hid _ := hdd
      have hzz : (e2 == 0) = false := by simpa using hz2
      clear hdd hmp hps hz2
      go_enter Tryz.func16, Tryz.ntmps16
      go_wp2_with (go_at_call 50; go_must (refine (removes_any path HE.out HH.out HOK.out ht hp).mono ?_; rw [HMP.out]; rintro e w3 ⟨rfl, hf3⟩; have HF3 : Hid _ := hf3; clear hf3))
      go_ret
      rw [HDD.out]
      exact ⟨rfl, HF3.out⟩

end Go.Proofs.YtdhgmpibjneplaaGreatDoor

/-! fsim.FS: Crash. Conditions: at most 9000000 ticks. -/
namespace Go.Proofs.YtdhgmpibjneplaaGreatDoor
open Go Go.RowKit

theorem flat_get (m : Nat) : ∀ (css : List (List Value)) (k j : Nat) (c : List Value) (u : Value), (∀ c ∈ css, c.length = m) → css[k]? = some c → c[j]? = some u → css.flatten[m * k + j]? = some u
  | [], k, j, c, u, _, hc, _ => by simp at hc
  | d :: css, 0, j, c, u, hl, hc, hu => by
    have : d = c := by simpa using hc
    subst this
    simp only [List.flatten_cons, Nat.mul_zero, Nat.zero_add]
    rw [List.getElem?_append_left (List.getElem?_eq_some_iff.1 hu).1]
    exact hu
  | d :: css, k + 1, j, c, u, hl, hc, hu => by
    have hd := hl d (by simp)
    have ih := flat_get m css k j c u (fun c h => hl c (by simp [h])) (by simpa using hc) hu
    simp only [List.flatten_cons]
    rw [List.getElem?_append_right (by rw [hd, Nat.mul_add]; omega), hd]
    rw [show m * (k + 1) + j - m = m * k + j by rw [Nat.mul_add]; omega]
    exact ih

theorem IsCh.shape {R : Nat → Prop} {w : World} {cs : List Value} {c : Ch} (h : IsCh R w cs c) : ∃ (p q : B8) (b : Bool) (mode time : Int) (a : Option Addr) (n cap : Nat), cs = [S8 p, S8 q, .bool b, .int .i64 mode, .slice a n cap, .int .i64 time] := by
  cases c with
  | put p f =>
    obtain ⟨_, v, rfl, h3⟩ := h
    obtain ⟨a, cap, rfl, _⟩ := h3.bytes
    exact ⟨_, _, _, _, _, _, _, _, rfl⟩
  | mv s d => obtain ⟨_, _, _, rfl⟩ := h; exact ⟨_, _, _, _, _, _, _, _, rfl⟩
  | del p => obtain ⟨_, rfl⟩ := h; exact ⟨_, _, _, _, _, _, _, _, rfl⟩

/-- A change of a list, in its cells. -/
theorem pend_get {R : Nat → Prop} {w : World} {v : Value} {l : List Ch} (h : OwnL w 144 6 (IsCh R w) v l) (hl : l.length ≤ 10000000) : ∃ a cap, v = .slice a l.length cap ∧ l.length ≤ cap ∧ cap ≤ 9223372036854775807 ∧
    ∀ (k : Nat) c, l[k]? = some c → ∃ b cs, a = some ⟨b, 0, none⟩ ∧ IsCh R w cs c ∧ ∀ j u, cs[j]? = some u → w.cell? ⟨b, k * 6 + j, none⟩ = some u := by
  obtain ⟨css, hown, he⟩ := h
  obtain ⟨hlen, hcase⟩ := hown
  have h6 : ∀ c ∈ css, c.length = 6 := fun c hc => by
    obtain ⟨i, hi, rfl⟩ := List.mem_iff_getElem.1 hc
    have hi2 : i < l.length := by rw [← he.1]; exact hi
    exact (he.2 i css[i] l[i] (List.getElem?_eq_getElem hi) (List.getElem?_eq_getElem hi2)).length.1
  rcases hcase with ⟨rfl, h0⟩ | ⟨g, cap, cur, rfl, _, hg, hc, hm, hs, hx⟩
  · refine ⟨none, 0, by rw [h0], by omega, by omega, fun k c hk => ?_⟩
    have := (List.getElem?_eq_some_iff.1 hk).1
    omega
  · refine ⟨_, cap, rfl, hc, by unfold maxLen at hm; omega, fun k c hk => ?_⟩
    have hkl : k < css.length := by rw [he.1]; exact (List.getElem?_eq_some_iff.1 hk).1
    refine ⟨g, css[k], rfl, he.2 k _ c (List.getElem?_eq_getElem hkl) hk, fun j u hu => ?_⟩
    have hf := flat_get 6 css k j _ u h6 (List.getElem?_eq_getElem hkl) hu
    rw [← hx] at hf
    have hi := (List.getElem?_eq_some_iff.1 hf).1
    rw [List.getElem?_take_of_lt (by simp at hi; omega)] at hf
    rw [Nat.mul_comm]
    simpa [World.cell?, hg] using hf

theorem fold_length (l : Files) : ∀ cs : List Ch, (cs.foldl ap l).length ≤ l.length + cs.length := by
  intro cs
  induction cs generalizing l with
  | nil => simp
  | cons c cs ih =>
    have h1 := ih (ap l c)
    have h2 := ap_length l c
    simp only [List.foldl_cons, List.length_cons]
    omega
theorem fold_snoc {l : Files} {cs : List Ch} {k : Nat} {c : Ch} (h : cs[k]? = some c) : (cs.take (k + 1)).foldl ap l = ap ((cs.take k).foldl ap l) c := by
  rw [List.take_add_one, h]
  simp [List.foldl_append]

theorem IsData.takeN {R : Nat → Prop} {w : World} {a : Option Addr} {l : B8} {cap n : Nat} (h : IsData R w (.slice a l.length cap) l) (hn : n ≤ l.length) : IsBytes w (.slice a n cap) (l.take n) := by
  obtain ⟨a', cap', he, h1, h2, h3, h4⟩ := h.bytes
  simp only [Value.slice.injEq, true_and] at he
  obtain ⟨rfl, rfl⟩ := he
  have hl : (l.take n).length = n := by rw [List.length_take]; omega
  refine ⟨a, cap, by rw [hl], by omega, h2, by omega, fun hne => ?_⟩
  obtain ⟨b, o, rfl, hc⟩ := h4 (by
    intro h0
    have : l = [] := by simpa using h0
    subst this
    simp at hne)
  refine ⟨b, o, rfl, fun i u hu => hc i u ?_⟩
  rw [List.getElem?_map] at hu ⊢
  obtain ⟨x, hx, rfl⟩ := Option.map_eq_some_iff.1 hu
  rw [List.getElem?_take] at hx
  split at hx
  · rw [hx]; rfl
  · simp at hx

/-- The fall, told: what was durable is what is there now. -/
theorem crash_done {S O R : Nat → Prop} {w w3 w4 w5 w6 w7 : World} {g gm gd g2 c0 : Nat} {vp vl vu : Value} {L : List Ev} {m : Fs} {l : Files} (hO : O g) (hg : w.heap[g]? = some (.cells (fsCells m.room gm gd vp vl m.calls vu m.time m.down) 84 (0, 0)))
    (hP : Parts S O R w gm gd vp vl vu m.now m.sure m.pend L m.users) (hW3 : w.grownBy w3 (some gd)) (hf3 : IsFiles (On R w.heap.size) w3 gd l) (hx4 : Ext w3 w4) (hge : w3.heap.size ≤ g2) (hf4 : IsFiles (On R w.heap.size) w4 g2 l)
    {a1 a2 : Array Value} (hg4 : w4.heap[g]? = some (.cells a1 84 (0, 0))) (hg5 : w4.grownBy w5 (some g)) (hh5 : w5.heap[g]? = some (.cells a2 84 (0, 0))) (hg6 : w5.grownBy w6 (some g)) {a3 : Array Value} (hh6 : w6.heap[g]? = some (.cells a3 84 (0, 0))) (hg7 : w6.grownBy w7 (some g))
    (hh7 : w7.heap[g]? = some (.cells (fsCells m.room g2 gd (.slice none 0 0) vl m.calls vu m.time true) 84 (0, 0))) (hpl : m.plan = L.filter (fun e => decide ((c0 : Int) < e.t))) (hc0 : c0 ≤ m.calls ∧ L.length ≤ 1000) :
    FsPost S O R w (.pointer (some ⟨g, 0, none⟩)) { m with now := l, sure := l, pend := [], down := true } w7 := by
  have hlt := hP.sure.lt
  have hP3 := (hP.mono (O' := On O w.heap.size) (R' := On R w.heap.size) (fun k hk => .inl hk) (fun k hk => .inl hk)).mapSure hW3 hf3
  have q := hP3.ext hx4
  have P4 : Parts S (On O w.heap.size) (On R w.heap.size) w4 g2 gd (.slice none 0 0) vl vu l l [] L m.users :=
    ⟨by have := hW3.size; omega, .inr (Nat.le_trans hW3.size hge), q.od, hf4, q.sure, ⟨[], World.ownsRow_nil _ _ _ _, Each.nil _⟩, Inn.nil _ _ _, q.plan, q.ol, q.users, q.ou, q.off⟩
  refine ⟨IsFs.fit ⟨g, g2, gd, _, vl, vu, L, c0, rfl, hh7, .inl hO, ((P4.own hg4 hg5).own hh5 hg6).own hh6 hg7, hpl, hc0⟩, ?_⟩
  have f1 : Fr O w w4 := ((Fr.refl O w).step hW3 (fun k hk => by cases hk; exact .inl hP.od) (by rintro k hk; cases hk; exact hP.sure.notU8)).ext hx4
  exact ((f1.step hg5 (fun k hk => by cases hk; exact .inl hO) (by rintro k hk; cases hk; exact cells_u8 hg4 (by kernel_rfl))).step hg6 (fun k hk => by cases hk; exact .inl hO) (by rintro k hk; cases hk; exact cells_u8 hh5 (by kernel_rfl))).step hg7 (fun k hk => by cases hk; exact .inl hO) (by rintro k hk; cases hk; exact cells_u8 hh6 (by kernel_rfl))

set_option maxRecDepth 100000 in
set_option maxHeartbeats 4000000 in
theorem crash_any {S O R : Nat → Prop} {w : World} {p : Value} {m : Fs} (keep torn : Int) (h : IsFs S O R w p m) (hok : OkM m) (ht : m.time ≤ 9000000) (hk64 : I64 keep) (ht64 : I64 torn) :
    Calls Tryz.prog 161 #[p, .int .i64 keep, .int .i64 torn] w fun e w' => e = .returned (.tuple #[]) ∧ FsPost S O R w p (crash m keep torn) w' := by
  have HH : Hid (IsFs S O R w p m) := h
  obtain ⟨g, gm, gd, vp, vl, vu, L, c0, rfl, hg, hO, hP, hpl1, hc0⟩ := h
  obtain ⟨d0, d1, d2, d3, d4, d5, d6, d7, d8⟩ := cellsAt9 hg
  have hlp := hok.lpend
  have hls := hok.lsure
  obtain ⟨pa, pc, rfl, hpc1, hpc2, hget⟩ := pend_get hP.pend (by omega)
  have HG : Hid _ := hg
  have HP : Hid _ := hP
  have HGET : Hid _ := hget
  have HMV : Hid _ := hok.mvs
  have HDP : Hid _ := hok.dpend
  have HPL : Hid _ := hpl1
  have hdef : crash m keep torn = if m.down then m else { m with now := fallen m keep torn, sure := fallen m keep torn, pend := [], down := true } := rfl
  have HDEF : Hid _ := hdef
  have hgl := (Array.getElem?_eq_some_iff.1 hg).1
  have hgne : g ≠ w.heap.size := by omega
  have hdl := hP.sure.lt
  unfold I64 at hk64 ht64
  cases hdn : m.down with
  | true =>
    have hdd : crash m keep torn = m := by rw [hdef, hdn]; rfl
    have HDD : Hid _ := hdd
    rw [hdn] at d8
    clear hg hP hget hok hpl1 hdef hdn hdd
    go_enter Tryz.func161, Tryz.ntmps161
    go_wp2
    refine bodyPost_ret (results_none rfl _ _ _) rfl ?_
    rw [HDD.out]
    exact ⟨rfl, FsPost.same HH.out (Ext.refl _)⟩
  | false =>
    obtain ⟨N, hN⟩ : ∃ N, keepN m keep = N := ⟨_, rfl⟩
    have hN1 : N ≤ m.pend.length := by rw [← hN]; unfold keepN; omega
    have hmin : min (max keep 0) (m.pend.length : Int) = (N : Int) := by rw [← hN]; unfold keepN; omega
    have hdd : crash m keep torn = { m with now := fallen m keep torn, sure := fallen m keep torn, pend := [], down := true } := by rw [hdef, hdn]; rfl
    have HDD : Hid _ := hdd
    have hfa : fallen m keep torn = torn1 ((m.pend.take N).foldl ap m.sure) torn m.pend[N]? := by unfold fallen; rw [hN]
    have HFA : Hid _ := hfa
    rw [hdn] at d8
    have HDN : Hid _ := hdn
    clear hg hP hget hok hpl1 hdef hdn hdd hfa hN HDEF
    go_enter Tryz.func161, Tryz.ntmps161
    go_wp2
    go_loopw [29] (fun i wr => ∃ k : Nat, k ≤ N ∧ i = .int .i64 k ∧ IsFiles R wr gd ((m.pend.take k).foldl ap m.sure) ∧ w.grownBy wr (some gd)) (fun i _ => N - (intOf i).toNat)
    case atStart => exact ⟨0, Nat.zero_le _, rfl, HP.out.sure, ⟨rfl, rfl, rfl, Nat.le_refl _, fun _ _ _ => rfl⟩⟩
    case round =>
      obtain ⟨k, hk, rfl, hfs, hgw⟩ := hrel
      have HFS : Hid _ := hfs
      have HGW : Hid _ := hgw
      have hgg : wr.heap[g]? = _ := (hgw.block g hgl (by
        have := apart_kind HG.out (by exact (HP.out.sure.kind).choose_spec.choose_spec) (by simp)
        simpa using this)).trans HG.out
      rw [HDN.out] at hgg
      have HGG : Hid _ := hgg
      have hflen := fold_length m.sure (m.pend.take k)
      have htl : (m.pend.take k).length ≤ k := List.length_take_le _ _
      have hrs := hgw.size
      clear hfs hgw
      by_cases hlt : k < N
      ·
        obtain ⟨c, hc⟩ : ∃ c, m.pend[k]? = some c := ⟨_, List.getElem?_eq_getElem (by omega)⟩
        obtain ⟨b, cs, rfl, hcc, hcell⟩ := HGET.out k c hc
        obtain ⟨cp, cq, cb, cm, ct, ca, cn, ccap, rfl⟩ := hcc.shape
        have hbb : ∀ j u, w.cell? ⟨b, k * 6 + j, none⟩ = some u → wr.cell? ⟨b, k * 6 + j, none⟩ = some u := fun j u hu => by
          obtain ⟨xs9, fr9, hx9⟩ := HP.out.pend.typed b rfl
          rw [World.cell?_of_block (w := w) (w' := wr) (a := ⟨b, k * 6 + j, none⟩) (HGW.out.block b (World.block_lt_of_cell? _ _ hu) (by
            have := apart_kind hx9 (by exact (HP.out.sure.kind).choose_spec.choose_spec) (by simp)
            simpa using this))]
          exact hu
        have x0 := hbb 0 _ (hcell 0 _ rfl)
        have x1 := hbb 1 _ (hcell 1 _ rfl)
        have x2 := hbb 2 _ (hcell 2 _ rfl)
        have x3 := hbb 3 _ (hcell 3 _ rfl)
        have x4 := hbb 4 _ (hcell 4 _ rfl)
        have x5 := hbb 5 _ (hcell 5 _ rfl)
        simp only [Nat.add_zero] at x0
        have hccr : IsCh R wr [S8 cp, S8 cq, .bool cb, .int .i64 cm, .slice ca cn ccap, .int .i64 ct] c := hcc.keepR (grownR HGW.out (by rintro k hk; cases hk; exact HP.out.sure.notU8))
        have HCC : Hid _ := hccr
        have HC : Hid _ := hc
        have hmvk : ∀ s d, c = .mv s d → (look ((m.pend.take k).foldl ap m.sure) s).isSome = true := fun s d hh => HMV.out k s d (by rw [hc, hh])
        have HMK : Hid _ := hmvk
        have hxa : Ext wr (wr.alloc (.cells #[S8 cp, S8 cq, .bool cb, .int .i64 cm, .slice ca cn ccap, .int .i64 ct] 144)) := (Ext.refl wr).alloc _
        obtain ⟨y0, y1, y2, y3, y4, y5⟩ := cellsAt6 (alloc_at wr (.cells #[S8 cp, S8 cq, .bool cb, .int .i64 cm, .slice ca cn ccap, .int .i64 ct] 144))
        obtain ⟨z0, z1, z2, z3, z4, z5, z6, z7, z8⟩ := cellsAt9 (Ext.row hxa HGG.out)
        have HXA : Hid _ := hxa
        clear hbb hcell hcc hccr hmvk hc hxa hgg z0 z1 z3 z4 z5 z6 z7 z8
        go_wp2
        apply wp_region_mix 5 [_, _, _, _, .agg #[S8 cp, S8 cq, .bool cb, .int .i64 cm, .slice ca cn ccap, .int .i64 ct]] [none, none, none, none, none] [[], [0], [1], [2], []] (by kernel_rfl) (by kernel_rfl) (by simp [mixV])
        · trivial
        · simp (maxSteps := 1000000) only [List.take_succ_cons, List.take_zero, oblFrom, stepObl, fillFrom, Act.put, List.setIfInBounds_toArray, List.set_cons_zero, List.set_cons_succ, knows, getV, mixV, List.getD_cons_zero, List.getD_cons_succ, and_true, true_and, forall_const]
          refine ⟨?_, ?_, ?_, ?_, ?_⟩
          · intro xs wq hq R hR
            have c1 := hq.cell z2; have c2 := hq.cell y0; have c3 := hq.cell y1; have c4 := hq.cell y2; have c5 := hq.cell y3; have c6 := hq.cell y4; have c7 := hq.cell y5
            go_simp
            exact hR _ _ (Ext.refl _) rfl
          · intro xs wq hq hk R hR
            have c1 := hq.cell z2; have c2 := hq.cell y0; have c3 := hq.cell y1; have c4 := hq.cell y2; have c5 := hq.cell y3; have c6 := hq.cell y4; have c7 := hq.cell y5
            go_simp
            exact hR _ _ (Ext.refl _) rfl
          · intro xs wq hq hk R hR
            have c1 := hq.cell z2; have c2 := hq.cell y0; have c3 := hq.cell y1; have c4 := hq.cell y2; have c5 := hq.cell y3; have c6 := hq.cell y4; have c7 := hq.cell y5
            go_simp
            exact hR _ _ (Ext.refl _) rfl
          · intro xs wq hq hk R hR
            have c1 := hq.cell z2; have c2 := hq.cell y0; have c3 := hq.cell y1; have c4 := hq.cell y2; have c5 := hq.cell y3; have c6 := hq.cell y4; have c7 := hq.cell y5
            go_simp
            exact hR _ _ (Ext.refl _) rfl
          · intro xs wq hq R hR
            have c1 := hq.cell z2; have c2 := hq.cell y0; have c3 := hq.cell y1; have c4 := hq.cell y2; have c5 := hq.cell y3; have c6 := hq.cell y4; have c7 := hq.cell y5
            go_simp
            exact hR _ _ (Ext.refl _) rfl
        intro xs w4 hx4 hk
        simp only [heldV, Nat.zero_add, Nat.reduceAdd, and_true] at hk
        obtain ⟨q0, q1, q2, q3, q4⟩ := hk
        simp (maxSteps := 1000000) only [List.take_succ_cons, List.take_zero, List.drop_succ_cons, List.drop_zero, fillFrom, Act.put, List.setIfInBounds_toArray, List.set_cons_zero, List.set_cons_succ, Nat.zero_add, Nat.reduceAdd, q0, q1, q2, q3, q4]
        clear q0 q1 q2 q3 q4
        have hxr := Ext.trans HXA.out hx4
        go_wp2_with (go_at_call 135; go_must (refine (make_any c [S8 cp, S8 cq, .bool cb, .int .i64 cm, .slice ca cn ccap, .int .i64 ct] (HFS.out.ext hxr) (IsCh.keepR HCC.out (KeepR.of_keep (KeepB.of_ext hxr))) HMK.out (by omega)).mono ?_; rintro e w5 ⟨rfl, hf5, hg5⟩))
        go_roundw
        case rel => exact ⟨k + 1, by omega, by go_num, by rw [fold_snoc HC.out]; exact hf5, (ext_grown HGW.out hxr).trans hg5⟩
        case measure => simp [intOf]; omega
      · have hkk : k = N := by omega
        subst hkk
        obtain ⟨z0, z1, z2, z3, z4, z5, z6, z7, z8⟩ := cellsAt9 HGG.out
        clear hgg
        by_cases hNl : k < m.pend.length
        · have hNli : (k : Int) < (m.pend.length : Int) := by omega
          obtain ⟨c, hc⟩ : ∃ c, m.pend[k]? = some c := ⟨_, List.getElem?_eq_getElem hNl⟩
          obtain ⟨b, cs, rfl, hcc, hcell⟩ := HGET.out k c hc
          have hbb : ∀ j u, w.cell? ⟨b, k * 6 + j, none⟩ = some u → wr.cell? ⟨b, k * 6 + j, none⟩ = some u := fun j u hu => by
            obtain ⟨xs9, fr9, hx9⟩ := HP.out.pend.typed b rfl
            rw [World.cell?_of_block (w := w) (w' := wr) (a := ⟨b, k * 6 + j, none⟩) (HGW.out.block b (World.block_lt_of_cell? _ _ hu) (by
              have := apart_kind hx9 (by exact (HP.out.sure.kind).choose_spec.choose_spec) (by simp)
              simpa using this))]
            exact hu
          have HBB : Hid _ := hbb
          have HC : Hid _ := hc
          have hccr : IsCh R wr cs c := hcc.keepR (grownR HGW.out (by rintro k hk; cases hk; exact HP.out.sure.notU8))
          clear hbb hc
          by_cases ht0 : torn < 0
          · have htn : ¬ (0 : Int) ≤ torn := by omega
            have FF : Hid (IsFiles (On R w.heap.size) wr gd ((m.pend.take k).foldl ap m.sure)) := HFS.out.mono (fun k hk => .inl hk)
            have FW : Hid _ := HGW.out
            have FG : Hid _ := HGG.out
            have FL : Hid (((m.pend.take k).foldl ap m.sure).length ≤ 100000000) := by unfold Hid; omega
            have FA : Hid (torn1 ((m.pend.take k).foldl ap m.sure) torn m.pend[k]? = ((m.pend.take k).foldl ap m.sure)) := by
              unfold Hid; rw [HC.out]
              cases c with
              | put q f => exact if_neg (by omega)
              | mv s d => rfl
              | del q => rfl
            clear hcell hcc hccr htn
            go_wp2_with (first
              | (go_at_call 90; go_must (refine (copied_any FF.out (by have := FL.out; omega)).mono ?_; rintro e w4 ⟨⟨g2, rfl, hge, hf4⟩, hx4⟩; have hg4 := Ext.row hx4 FG.out))
              | (refine store_field rfl 76 (.tmp 89) (.tmp 87) rfl g 1 rfl (.map (some g2)) rfl rfl _ _ hg4 (Nat.le_of_ble_eq_true rfl) size_map (fsCells m.room g2 gd (.slice (some ⟨b, 0, none⟩) m.pend.length pc) vl m.calls vu m.time false) (by simp) ?_; intro w5 hg5 hgr5)
              | (refine store_field rfl 77 (.tmp 92) _ rfl g 3 rfl (.slice none 0 0) rfl rfl _ _ hg5 (Nat.le_of_ble_eq_true rfl) size_chs (fsCells m.room g2 gd (.slice none 0 0) vl m.calls vu m.time false) (by simp) ?_; intro w6 hg6 hgr6)
              | (refine store_field rfl 4 (.tmp 95) _ rfl g 8 rfl (.bool true) rfl rfl _ _ hg6 (Nat.le_of_ble_eq_true rfl) size_bool (fsCells m.room g2 gd (.slice none 0 0) vl m.calls vu m.time true) (by simp) ?_; intro w7 hg7 hgr7))
            go_end0
            rw [HDD.out, HFA.out, FA.out]
            exact ⟨rfl, crash_done hO HG.out HP.out FW.out FF.out hx4 hge hf4 hg4 hgr5 hg5 hgr6 hg6 hgr7 hg7 HPL.out hc0⟩
          · have htp : (0 : Int) ≤ torn := by omega
            cases c with
            | put q f =>
              obtain ⟨hql, v, rfl, hd⟩ := hccr
              obtain ⟨fa, fc, rfl, -⟩ := id hd.bytes
              have x0 := HBB.out 0 _ (hcell 0 _ rfl)
              have x1 := HBB.out 1 _ (hcell 1 _ rfl)
              have x2 := HBB.out 2 _ (hcell 2 _ rfl)
              have x3 := HBB.out 3 _ (hcell 3 _ rfl)
              have x4 := HBB.out 4 _ (hcell 4 _ rfl)
              have x5 := HBB.out 5 _ (hcell 5 _ rfl)
              simp only [Nat.add_zero] at x0
              have HD : Hid _ := hd
              have hxb : Ext wr (wr.alloc (.cells #[S8 q, S8 [], .bool true, .int .i64 f.mode, .slice fa f.data.length fc, .int .i64 f.time] 144)) := (Ext.refl wr).alloc _
              obtain ⟨y0, y1, y2, y3, y4, y5⟩ := cellsAt6 (alloc_at wr (.cells #[S8 q, S8 [], .bool true, .int .i64 f.mode, .slice fa f.data.length fc, .int .i64 f.time] 144))
              obtain ⟨q0, q1, q2, q3, q4, q5, q6, q7, q8⟩ := cellsAt9 (Ext.row hxb HGG.out)
              clear hcell hcc hd
              by_cases htl : torn < (f.data.length : Int)
              · obtain ⟨n, rfl⟩ : ∃ n : Nat, torn = n := ⟨torn.toNat, by omega⟩
                have hnl : n < f.data.length := by omega
                have hnt : ((n : Int)).toNat = n := by omega
                have hbt := HD.out.takeN (n := n) (by omega)
                obtain ⟨fa', fc', he9, hcap, -⟩ := id HD.out.bytes
                simp only [Value.slice.injEq, true_and] at he9
                obtain ⟨rfl, rfl⟩ := he9
                have hnc : (n : Int) ≤ (fc : Int) := by omega
                have htl9 : (f.data.take n).length = n := by rw [List.length_take]; omega
                have FA0 : torn1 ((m.pend.take k).foldl ap m.sure) n m.pend[k]? = ap ((m.pend.take k).foldl ap m.sure) (.put q { f with data := f.data.take n }) := by
                  rw [HC.out]
                  exact (if_pos ⟨htp, htl⟩).trans (by rw [hnt])
                obtain ⟨td, htd⟩ : ∃ td, f.data.take n = td := ⟨_, rfl⟩
                rw [htd] at hbt htl9 FA0
                rw [show Value.slice fa n fc = .slice fa td.length fc by rw [htl9]] at hbt
                have hdl : td.length ≤ f.data.length := by omega
                have HBT : Hid _ := hbt
                have FA : Hid _ := FA0
                have HTN : Hid _ := htl9
                have HXB : Hid _ := hxb
                clear hbt htl9 FA0 htd hxb
                have hdl2 : f.data.length ≤ 20000 := (HDP.out _ (List.mem_of_getElem? HC.out)).2
                go_upto_region 10 with fail
                obtain ⟨wx, hwx⟩ : ∃ wx, wx = wr.alloc (.cells #[S8 q, S8 [], .bool true, .int .i64 f.mode, .slice fa f.data.length fc, .int .i64 f.time] 144) := ⟨_, rfl⟩
                have HWX : Hid _ := hwx
                rw [← hwx] at y0 y1 y2 y3 y4 y5 q0 q1 q2 q3 q4 q5 q6 q7 q8
                have hxx : Ext wr wx := by rw [hwx]; exact (Ext.refl _).alloc _
                have hbx : wx.heap[wr.heap.size]? = some (.cells #[S8 q, S8 [], .bool true, .int .i64 f.mode, .slice fa f.data.length fc, .int .i64 f.time] 144 (0, 0)) := by rw [hwx]; exact alloc_at _ _
                have hbtx : IsBytes wx (.slice fa n fc) td := by
                  have := IsBytes.ext HBT.out hxx
                  rwa [HTN.out] at this
                have HBX : Hid _ := hbtx
                clear hwx hbtx
                rw [show wr.alloc (.cells #[S8 q, S8 [], .bool true, .int .i64 f.mode, .slice fa f.data.length fc, .int .i64 f.time] 144) = wx from HWX.out.symm]
                go_wp2_with fail
                go_at_call 55
                refine (clone_any _ td _ HBX.out (by omega)).mono ?_
                rintro e w2 ⟨⟨v2, rfl, hd2⟩, hx2⟩
                obtain ⟨ca, cc, rfl, -⟩ := id hd2.bytes
                have HD2 : Hid _ := hd2
                have hbx2 := hx2.row hbx
                have hxr2 := hxx.trans hx2
                clear hd2 y0 y1 y2 y3 y4 y5 q0 q1 q2 q3 q4 q5 q6 q7 q8 hbx
                go_wp2_with (refine store_field rfl 35 (.tmp 75) (.tmp 73) rfl wr.heap.size 4 rfl (.slice ca td.length cc) rfl rfl _ _ hbx2 (Nat.le_of_ble_eq_true rfl) size_bytes #[S8 q, S8 [], .bool true, .int .i64 f.mode, .slice ca td.length cc, .int .i64 f.time] (by simp) ?_; intro w3 hb3 hgr3)
                have hxr3 : Ext wr w3 := Ext.but hxr2 hgr3 (Nat.le_refl _)
                obtain ⟨q0, q1, q2, q3, q4, q5, q6, q7, q8⟩ := cellsAt9 (Ext.row hxr3 HGG.out)
                obtain ⟨y0, y1, y2, y3, y4, y5⟩ := cellsAt6 hb3
                apply wp_region_mix 5 [_, _, _, _, .agg #[S8 q, S8 [], .bool true, .int .i64 f.mode, .slice ca td.length cc, .int .i64 f.time]] [none, none, none, none, none] [[], [0], [1], [2], []] (by kernel_rfl) (by kernel_rfl) (by simp [mixV])
                · trivial
                · simp (maxSteps := 1000000) only [List.take_succ_cons, List.take_zero, oblFrom, stepObl, fillFrom, Act.put, List.setIfInBounds_toArray, List.set_cons_zero, List.set_cons_succ, knows, getV, mixV, List.getD_cons_zero, List.getD_cons_succ, and_true, true_and, forall_const]
                  refine ⟨?_, ?_, ?_, ?_, ?_⟩
                  · intro xs wq hq R hR
                    have c1 := hq.cell q2; have c2 := hq.cell y0; have c3 := hq.cell y1; have c4 := hq.cell y2; have c5 := hq.cell y3; have c6 := hq.cell y4; have c7 := hq.cell y5
                    go_simp
                    exact hR _ _ (Ext.refl _) rfl
                  · intro xs wq hq hk R hR
                    have c1 := hq.cell q2; have c2 := hq.cell y0; have c3 := hq.cell y1; have c4 := hq.cell y2; have c5 := hq.cell y3; have c6 := hq.cell y4; have c7 := hq.cell y5
                    go_simp
                    exact hR _ _ (Ext.refl _) rfl
                  · intro xs wq hq hk R hR
                    have c1 := hq.cell q2; have c2 := hq.cell y0; have c3 := hq.cell y1; have c4 := hq.cell y2; have c5 := hq.cell y3; have c6 := hq.cell y4; have c7 := hq.cell y5
                    go_simp
                    exact hR _ _ (Ext.refl _) rfl
                  · intro xs wq hq hk R hR
                    have c1 := hq.cell q2; have c2 := hq.cell y0; have c3 := hq.cell y1; have c4 := hq.cell y2; have c5 := hq.cell y3; have c6 := hq.cell y4; have c7 := hq.cell y5
                    go_simp
                    exact hR _ _ (Ext.refl _) rfl
                  · intro xs wq hq R hR
                    have c1 := hq.cell q2; have c2 := hq.cell y0; have c3 := hq.cell y1; have c4 := hq.cell y2; have c5 := hq.cell y3; have c6 := hq.cell y4; have c7 := hq.cell y5
                    go_simp
                    exact hR _ _ (Ext.refl _) rfl
                intro xs w4 hx4 hk
                simp only [heldV, Nat.zero_add, Nat.reduceAdd, and_true] at hk
                obtain ⟨q0, q1, q2, q3, q4⟩ := hk
                simp (maxSteps := 1000000) only [List.take_succ_cons, List.take_zero, List.drop_succ_cons, List.drop_zero, fillFrom, Act.put, List.setIfInBounds_toArray, List.set_cons_zero, List.set_cons_succ, Nat.zero_add, Nat.reduceAdd, q0, q1, q2, q3, q4]
                clear q0 q1 q2 q3 q4
                have hxr4 := hxr3.trans hx4
                have hd4 : IsData (On R w.heap.size) w4 (.slice ca td.length cc) td := by
                  have hu : ¬ IsU8 w2 wr.heap.size := cells_u8 hbx2 (by kernel_rfl)
                  have h9 : IsData (On R w.heap.size) w2 (.slice ca td.length cc) td := HD2.out.mono (fun k hk => .inr (by have := hk.1; have := hxx.size; omega))
                  exact (h9.keepR (grown_keepR hgr3 hu)).ext hx4
                have HD4 : Hid _ := hd4
                have FG4 : Hid _ := Ext.row hxr4 HGG.out
                have HW4 : Hid _ := ext_grown HGW.out hxr4
                have HF4 : Hid (IsFiles (On R w.heap.size) w4 gd ((m.pend.take k).foldl ap m.sure)) := (HFS.out.ext hxr4).mono (fun k hk => .inl hk)
                clear hd4 q0 q1 q2 q3 q4 q5 q6 q7 q8 y0 y1 y2 y3 y4 y5
                go_wp2_with (go_at_call 135; go_must (refine (make_any (.put q { f with data := td }) [S8 q, S8 [], .bool true, .int .i64 f.mode, .slice ca td.length cc, .int .i64 f.time] HF4.out ⟨hql, _, rfl, HD4.out⟩ (fun s d h => by cases h) (by omega)).mono ?_; rintro e w9 ⟨rfl, hf9, hg9⟩; have hne9 := apart_kind FG4.out (by exact (HF4.out.kind).choose_spec.choose_spec) (by simp); have hgg9 := but_row hg9 FG4.out hne9; obtain ⟨q0, q1, q2, q3, q4, q5, q6, q7, q8⟩ := cellsAt9 hgg9; have FF : Hid _ := hf9; have FG : Hid _ := hgg9; have FW : Hid _ := HW4.out.trans hg9; have FL : Hid ((ap ((m.pend.take k).foldl ap m.sure) (.put q { f with data := td })).length ≤ 100000000) := by have := ap_length ((m.pend.take k).foldl ap m.sure) (.put q { f with data := td }); unfold Hid; omega))
                clear hgg9 hf9
                go_wp2_with (first
                  | (go_at_call 90; go_must (refine (copied_any FF.out (by have := FL.out; omega)).mono ?_; rintro e w4 ⟨⟨g2, rfl, hge, hf4⟩, hx4⟩; have hg4 := Ext.row hx4 FG.out))
                  | (refine store_field rfl 76 (.tmp 89) (.tmp 87) rfl g 1 rfl (.map (some g2)) rfl rfl _ _ hg4 (Nat.le_of_ble_eq_true rfl) size_map (fsCells m.room g2 gd (.slice (some ⟨b, 0, none⟩) m.pend.length pc) vl m.calls vu m.time false) (by simp) ?_; intro w5 hg5 hgr5)
                  | (refine store_field rfl 77 (.tmp 92) _ rfl g 3 rfl (.slice none 0 0) rfl rfl _ _ hg5 (Nat.le_of_ble_eq_true rfl) size_chs (fsCells m.room g2 gd (.slice none 0 0) vl m.calls vu m.time false) (by simp) ?_; intro w6 hg6 hgr6)
                  | (refine store_field rfl 4 (.tmp 95) _ rfl g 8 rfl (.bool true) rfl rfl _ _ hg6 (Nat.le_of_ble_eq_true rfl) size_bool (fsCells m.room g2 gd (.slice none 0 0) vl m.calls vu m.time true) (by simp) ?_; intro w7 hg7 hgr7))
                go_end0
                rw [HDD.out, HFA.out, FA.out]
                exact ⟨rfl, crash_done hO HG.out HP.out FW.out FF.out hx4 hge hf4 hg4 hgr5 hg5 hgr6 hg6 hgr7 hg7 HPL.out hc0⟩
              · have FA : Hid (torn1 ((m.pend.take k).foldl ap m.sure) torn m.pend[k]? = ((m.pend.take k).foldl ap m.sure)) := by
                  unfold Hid; rw [HC.out]
                  exact if_neg (by omega)
                have FF : Hid (IsFiles (On R w.heap.size) (wr.alloc (.cells #[S8 q, S8 [], .bool true, .int .i64 f.mode, .slice fa f.data.length fc, .int .i64 f.time] 144)) gd ((m.pend.take k).foldl ap m.sure)) := (HFS.out.ext hxb).mono (fun k hk => .inl hk)
                have FW : Hid (w.grownBy (wr.alloc (.cells #[S8 q, S8 [], .bool true, .int .i64 f.mode, .slice fa f.data.length fc, .int .i64 f.time] 144)) (some gd)) := ext_grown HGW.out hxb
                have FG : Hid _ := Ext.row hxb HGG.out
                have FL : Hid (((m.pend.take k).foldl ap m.sure).length ≤ 100000000) := by unfold Hid; omega
                clear hxb
                go_wp2_with (first
                  | (go_at_call 90; go_must (refine (copied_any FF.out (by have := FL.out; omega)).mono ?_; rintro e w4 ⟨⟨g2, rfl, hge, hf4⟩, hx4⟩; have hg4 := Ext.row hx4 FG.out))
                  | (refine store_field rfl 76 (.tmp 89) (.tmp 87) rfl g 1 rfl (.map (some g2)) rfl rfl _ _ hg4 (Nat.le_of_ble_eq_true rfl) size_map (fsCells m.room g2 gd (.slice (some ⟨b, 0, none⟩) m.pend.length pc) vl m.calls vu m.time false) (by simp) ?_; intro w5 hg5 hgr5)
                  | (refine store_field rfl 77 (.tmp 92) _ rfl g 3 rfl (.slice none 0 0) rfl rfl _ _ hg5 (Nat.le_of_ble_eq_true rfl) size_chs (fsCells m.room g2 gd (.slice none 0 0) vl m.calls vu m.time false) (by simp) ?_; intro w6 hg6 hgr6)
                  | (refine store_field rfl 4 (.tmp 95) _ rfl g 8 rfl (.bool true) rfl rfl _ _ hg6 (Nat.le_of_ble_eq_true rfl) size_bool (fsCells m.room g2 gd (.slice none 0 0) vl m.calls vu m.time true) (by simp) ?_; intro w7 hg7 hgr7))
                go_end0
                rw [HDD.out, HFA.out, FA.out]
                exact ⟨rfl, crash_done hO HG.out HP.out FW.out FF.out hx4 hge hf4 hg4 hgr5 hg5 hgr6 hg6 hgr7 hg7 HPL.out hc0⟩
            | mv s d =>
              obtain ⟨h1, h2, h3, rfl⟩ := hccr
              have x0 := HBB.out 0 _ (hcell 0 _ rfl)
              have x1 := HBB.out 1 _ (hcell 1 _ rfl)
              have x2 := HBB.out 2 _ (hcell 2 _ rfl)
              have x3 := HBB.out 3 _ (hcell 3 _ rfl)
              have x4 := HBB.out 4 _ (hcell 4 _ rfl)
              have x5 := HBB.out 5 _ (hcell 5 _ rfl)
              simp only [Nat.add_zero] at x0
              have hxb : Ext wr (wr.alloc (.cells #[S8 d, S8 s, .bool false, .int .i64 0, .slice none 0 0, .int .i64 0] 144)) := (Ext.refl wr).alloc _
              obtain ⟨y0, y1, y2, y3, y4, y5⟩ := cellsAt6 (alloc_at wr (.cells #[S8 d, S8 s, .bool false, .int .i64 0, .slice none 0 0, .int .i64 0] 144))
              obtain ⟨q0, q1, q2, q3, q4, q5, q6, q7, q8⟩ := cellsAt9 (Ext.row hxb HGG.out)
              have FA : Hid (torn1 ((m.pend.take k).foldl ap m.sure) torn m.pend[k]? = ((m.pend.take k).foldl ap m.sure)) := by unfold Hid; rw [HC.out]; rfl
              have FF : Hid (IsFiles (On R w.heap.size) (wr.alloc (.cells #[S8 d, S8 s, .bool false, .int .i64 0, .slice none 0 0, .int .i64 0] 144)) gd ((m.pend.take k).foldl ap m.sure)) := (HFS.out.ext hxb).mono (fun k hk => .inl hk)
              have FW : Hid (w.grownBy (wr.alloc (.cells #[S8 d, S8 s, .bool false, .int .i64 0, .slice none 0 0, .int .i64 0] 144)) (some gd)) := ext_grown HGW.out hxb
              have FG : Hid _ := Ext.row hxb HGG.out
              have FL : Hid (((m.pend.take k).foldl ap m.sure).length ≤ 100000000) := by unfold Hid; omega
              clear hxb
              clear hcell hcc
              go_wp2_with (first
                | (go_at_call 90; go_must (refine (copied_any FF.out (by have := FL.out; omega)).mono ?_; rintro e w4 ⟨⟨g2, rfl, hge, hf4⟩, hx4⟩; have hg4 := Ext.row hx4 FG.out))
                | (refine store_field rfl 76 (.tmp 89) (.tmp 87) rfl g 1 rfl (.map (some g2)) rfl rfl _ _ hg4 (Nat.le_of_ble_eq_true rfl) size_map (fsCells m.room g2 gd (.slice (some ⟨b, 0, none⟩) m.pend.length pc) vl m.calls vu m.time false) (by simp) ?_; intro w5 hg5 hgr5)
                | (refine store_field rfl 77 (.tmp 92) _ rfl g 3 rfl (.slice none 0 0) rfl rfl _ _ hg5 (Nat.le_of_ble_eq_true rfl) size_chs (fsCells m.room g2 gd (.slice none 0 0) vl m.calls vu m.time false) (by simp) ?_; intro w6 hg6 hgr6)
                | (refine store_field rfl 4 (.tmp 95) _ rfl g 8 rfl (.bool true) rfl rfl _ _ hg6 (Nat.le_of_ble_eq_true rfl) size_bool (fsCells m.room g2 gd (.slice none 0 0) vl m.calls vu m.time true) (by simp) ?_; intro w7 hg7 hgr7))
              go_end0
              rw [HDD.out, HFA.out, FA.out]
              exact ⟨rfl, crash_done hO HG.out HP.out FW.out FF.out hx4 hge hf4 hg4 hgr5 hg5 hgr6 hg6 hgr7 hg7 HPL.out hc0⟩
            | del q =>
              obtain ⟨h1, rfl⟩ := hccr
              have x0 := HBB.out 0 _ (hcell 0 _ rfl)
              have x1 := HBB.out 1 _ (hcell 1 _ rfl)
              have x2 := HBB.out 2 _ (hcell 2 _ rfl)
              have x3 := HBB.out 3 _ (hcell 3 _ rfl)
              have x4 := HBB.out 4 _ (hcell 4 _ rfl)
              have x5 := HBB.out 5 _ (hcell 5 _ rfl)
              simp only [Nat.add_zero] at x0
              have hxb : Ext wr (wr.alloc (.cells #[S8 q, S8 [], .bool false, .int .i64 0, .slice none 0 0, .int .i64 0] 144)) := (Ext.refl wr).alloc _
              obtain ⟨y0, y1, y2, y3, y4, y5⟩ := cellsAt6 (alloc_at wr (.cells #[S8 q, S8 [], .bool false, .int .i64 0, .slice none 0 0, .int .i64 0] 144))
              obtain ⟨q0, q1, q2, q3, q4, q5, q6, q7, q8⟩ := cellsAt9 (Ext.row hxb HGG.out)
              have FA : Hid (torn1 ((m.pend.take k).foldl ap m.sure) torn m.pend[k]? = ((m.pend.take k).foldl ap m.sure)) := by unfold Hid; rw [HC.out]; rfl
              have FF : Hid (IsFiles (On R w.heap.size) (wr.alloc (.cells #[S8 q, S8 [], .bool false, .int .i64 0, .slice none 0 0, .int .i64 0] 144)) gd ((m.pend.take k).foldl ap m.sure)) := (HFS.out.ext hxb).mono (fun k hk => .inl hk)
              have FW : Hid (w.grownBy (wr.alloc (.cells #[S8 q, S8 [], .bool false, .int .i64 0, .slice none 0 0, .int .i64 0] 144)) (some gd)) := ext_grown HGW.out hxb
              have FG : Hid _ := Ext.row hxb HGG.out
              have FL : Hid (((m.pend.take k).foldl ap m.sure).length ≤ 100000000) := by unfold Hid; omega
              clear hxb
              clear hcell hcc
              go_wp2_with (first
                | (go_at_call 90; go_must (refine (copied_any FF.out (by have := FL.out; omega)).mono ?_; rintro e w4 ⟨⟨g2, rfl, hge, hf4⟩, hx4⟩; have hg4 := Ext.row hx4 FG.out))
                | (refine store_field rfl 76 (.tmp 89) (.tmp 87) rfl g 1 rfl (.map (some g2)) rfl rfl _ _ hg4 (Nat.le_of_ble_eq_true rfl) size_map (fsCells m.room g2 gd (.slice (some ⟨b, 0, none⟩) m.pend.length pc) vl m.calls vu m.time false) (by simp) ?_; intro w5 hg5 hgr5)
                | (refine store_field rfl 77 (.tmp 92) _ rfl g 3 rfl (.slice none 0 0) rfl rfl _ _ hg5 (Nat.le_of_ble_eq_true rfl) size_chs (fsCells m.room g2 gd (.slice none 0 0) vl m.calls vu m.time false) (by simp) ?_; intro w6 hg6 hgr6)
                | (refine store_field rfl 4 (.tmp 95) _ rfl g 8 rfl (.bool true) rfl rfl _ _ hg6 (Nat.le_of_ble_eq_true rfl) size_bool (fsCells m.room g2 gd (.slice none 0 0) vl m.calls vu m.time true) (by simp) ?_; intro w7 hg7 hgr7))
              go_end0
              rw [HDD.out, HFA.out, FA.out]
              exact ⟨rfl, crash_done hO HG.out HP.out FW.out FF.out hx4 hge hf4 hg4 hgr5 hg5 hgr6 hg6 hgr7 hg7 HPL.out hc0⟩
        · have FF : Hid (IsFiles (On R w.heap.size) wr gd ((m.pend.take k).foldl ap m.sure)) := HFS.out.mono (fun k hk => .inl hk)
          have FW : Hid _ := HGW.out
          have FG : Hid _ := HGG.out
          have FL : Hid (((m.pend.take k).foldl ap m.sure).length ≤ 100000000) := by unfold Hid; omega
          have FA : Hid (torn1 ((m.pend.take k).foldl ap m.sure) torn m.pend[k]? = ((m.pend.take k).foldl ap m.sure)) := by
            have : m.pend[k]? = none := List.getElem?_eq_none (by omega)
            unfold Hid; rw [this]; rfl
          go_wp2_with (first
            | (go_at_call 90; go_must (refine (copied_any FF.out (by have := FL.out; omega)).mono ?_; rintro e w4 ⟨⟨g2, rfl, hge, hf4⟩, hx4⟩; have hg4 := Ext.row hx4 FG.out))
            | (refine store_field rfl 76 (.tmp 89) (.tmp 87) rfl g 1 rfl (.map (some g2)) rfl rfl _ _ hg4 (Nat.le_of_ble_eq_true rfl) size_map (fsCells m.room g2 gd (.slice pa m.pend.length pc) vl m.calls vu m.time false) (by simp) ?_; intro w5 hg5 hgr5)
            | (refine store_field rfl 77 (.tmp 92) _ rfl g 3 rfl (.slice none 0 0) rfl rfl _ _ hg5 (Nat.le_of_ble_eq_true rfl) size_chs (fsCells m.room g2 gd (.slice none 0 0) vl m.calls vu m.time false) (by simp) ?_; intro w6 hg6 hgr6)
            | (refine store_field rfl 4 (.tmp 95) _ rfl g 8 rfl (.bool true) rfl rfl _ _ hg6 (Nat.le_of_ble_eq_true rfl) size_bool (fsCells m.room g2 gd (.slice none 0 0) vl m.calls vu m.time true) (by simp) ?_; intro w7 hg7 hgr7))
          go_end0
          rw [HDD.out, HFA.out, FA.out]
          exact ⟨rfl, crash_done hO HG.out HP.out FW.out FF.out hx4 hge hf4 hg4 hgr5 hg5 hgr6 hg6 hgr7 hg7 HPL.out hc0⟩

end Go.Proofs.YtdhgmpibjneplaaGreatDoor

/-! What holds of a file system at all times, kept by all that is done: in plain Lean. Conditions: as each theorem states. -/
namespace Go.Proofs.YtdhgmpibjneplaaGreatDoor
open Go Go.RowKit

/-! ### Paths above a path -/
theorem cut_append (c : UInt8) : ∀ (l r : B8), cut c (l ++ c :: r) = cut c l ++ cut c r
  | [], r => by simp [cut]
  | x :: l, r => by
    have ih := cut_append c l r
    show cut c (x :: (l ++ c :: r)) = cut c (x :: l) ++ cut c r
    by_cases hx : (x == c) = true
    · rw [cut, cut, if_pos hx, if_pos hx, ih]
      rfl
    · rw [cut, cut, if_neg hx, if_neg hx, ih]
      cases hq : cut c l with
      | nil => exact (cut_ne c l hq).elim
      | cons a t => rfl
theorem join_one (x : B8) (c : UInt8) : Lib.join [x] [c] = x := by simp [Lib.join, List.intercalate, List.intersperse]
theorem join_two (x y : B8) (L : List B8) (c : UInt8) : Lib.join (x :: y :: L) [c] = x ++ c :: Lib.join (y :: L) [c] := by
  simp [Lib.join, List.intercalate, List.intersperse]
theorem join_cut (c : UInt8) : ∀ l : B8, Lib.join (cut c l) [c] = l
  | [] => by simp [cut, join_one]
  | x :: l => by
    have ih := join_cut c l
    rw [cut]
    by_cases hx : (x == c) = true
    · rw [if_pos hx]
      have e : x = c := by simpa using hx
      subst e
      cases hq : cut x l with
      | nil => exact (cut_ne x l hq).elim
      | cons a t => rw [hq] at ih; rw [join_two, ih]; rfl
    · rw [if_neg hx]
      cases hq : cut c l with
      | nil => exact (cut_ne c l hq).elim
      | cons a t =>
        rw [hq] at ih
        cases t with
        | nil => rw [join_one] at ih ⊢; rw [ih]
        | cons b t => rw [join_two] at ih ⊢; simp [ih]
theorem join_append (c : UInt8) : ∀ (A B : List B8), A ≠ [] → B ≠ [] → Lib.join (A ++ B) [c] = Lib.join A [c] ++ c :: Lib.join B [c]
  | [], _, h, _ => (h rfl).elim
  | [x], [], _, h => (h rfl).elim
  | [x], y :: B, _, _ => by rw [join_one]; exact join_two x y B c
  | x :: y :: A, B, _, hB => by
    have ih := join_append c (y :: A) B (by simp) hB
    show Lib.join (x :: y :: (A ++ B)) [c] = _
    rw [join_two, join_two, show y :: (A ++ B) = (y :: A) ++ B from rfl, ih]
    simp
theorem under_iff (d s : B8) : isUnder d s = true ↔ ∃ r, s = d ++ 47 :: r := by
  unfold isUnder
  rw [List.isPrefixOf_iff_prefix]
  constructor
  · rintro ⟨r, hr⟩; exact ⟨r, by rw [← hr]; simp⟩
  · rintro ⟨r, hr⟩; exact ⟨r, by rw [hr]; simp⟩
theorem mem_parents {path p : B8} (hp : pathB path = true) : p ∈ parentsL path ↔ isUnder p path = true := by
  unfold parentsL parentsN splitL
  rw [if_pos hp, under_iff]
  constructor
  · intro h
    obtain ⟨i, hi, rfl⟩ := List.mem_map.1 h
    have hi' := List.mem_range.1 hi
    refine ⟨Lib.join ((cut 47 path).drop (i + 1)) [47], ?_⟩
    rw [← join_append 47 _ _ (by intro h0; have := congrArg List.length h0; simp at this; rw [this] at hi'; simp at hi') (by intro h0; have := congrArg List.length h0; simp at this; omega), List.take_append_drop, join_cut]
  · rintro ⟨r, rfl⟩
    refine List.mem_map.2 ⟨(cut 47 p).length - 1, List.mem_range.2 ?_, ?_⟩
    · have h1 : 0 < (cut 47 p).length := List.length_pos_iff.2 (cut_ne 47 p)
      have h2 : 0 < (cut 47 r).length := List.length_pos_iff.2 (cut_ne 47 r)
      rw [cut_append, List.length_append]
      omega
    · have h1 : 0 < (cut 47 p).length := List.length_pos_iff.2 (cut_ne 47 p)
      rw [cut_append, show (cut 47 p).length - 1 + 1 = (cut 47 p).length by omega, List.take_left, join_cut]
theorem look_some {l : Files} {p : B8} : (look l p).isSome = true ↔ ∃ e ∈ l, e.1 = p := by
  unfold look
  rw [Option.isSome_map, List.find?_isSome]
  simp
theorem may_eq {l : Files} {path : B8} (but : B8) (hp : pathB path = true) : mayP l path but = mayF l path but := by
  unfold mayP mayF dirB
  rw [← Bool.not_or]
  congr 1
  rw [Bool.eq_iff_iff]
  simp only [Bool.or_eq_true, List.any_eq_true, Bool.and_eq_true, Bool.not_eq_true', beq_eq_false_iff_ne]
  constructor
  · rintro (⟨p, h1, h2, h3⟩ | ⟨e, h1, h2, h3⟩)
    · obtain ⟨e, he, rfl⟩ := look_some.1 h2
      exact ⟨e, he, h3, .inl ((mem_parents hp).1 h1)⟩
    · exact ⟨e, h1, h2, .inr h3⟩
  · rintro ⟨e, h1, h2, h3 | h3⟩
    · exact .inl ⟨e.1, (mem_parents hp).2 h3, look_some.2 ⟨e, h1, rfl⟩, h2⟩
    · exact .inr ⟨e, h1, h2, h3⟩

/-! ### What holds at all times -/
theorem files_ap {l : Files} {c : Ch} (h : ∀ e ∈ l, pathB e.1 = true ∧ e.2.data.length ≤ 20000) (hc : ChOk c) : ∀ e ∈ ap l c, pathB e.1 = true ∧ e.2.data.length ≤ 20000 := by
  intro e he
  cases c with
  | put p f =>
    rcases mem_putF he with rfl | ⟨h1, _⟩
    · exact hc
    · exact h e h1
  | mv s d =>
    unfold ap at he
    simp only at he
    split at he
    · rename_i x hx
      rcases mem_putF he with rfl | ⟨h1, _⟩
      · exact ⟨hc.2.1, (h _ (look_mem hx)).2⟩
      · exact h e (List.mem_filter.1 h1).1
    · exact h e he
  | del p => exact h e (List.mem_filter.1 he).1
theorem files_fold {cs : List Ch} : ∀ {l : Files}, (∀ e ∈ l, pathB e.1 = true ∧ e.2.data.length ≤ 20000) → (∀ c ∈ cs, ChOk c) → ∀ e ∈ cs.foldl ap l, pathB e.1 = true ∧ e.2.data.length ≤ 20000 := by
  induction cs with
  | nil => exact fun h _ => h
  | cons c cs ih => exact fun h hc => ih (files_ap h (hc c (by simp))) (fun d hd => hc d (by simp [hd]))
theorem ok_at {c : Ch} (t : Nat) (h : ChOk c) : ChOk (c.at t) := by
  cases c with
  | put p f => exact h
  | mv s d => exact h
  | del p => exact h
theorem ok_does {m : Fs} {c : Ch} (h : OkM m) (hc : ChOk c) (hmv : ∀ s d, c = .mv s d → (look m.now s).isSome = true) : OkM (does m c) := by
  have hl := ap_length m.now (c.at (m.time + 1))
  have h1 := h.lnow
  have h2 := h.lsure
  have h3 := h.lpend
  have h4 := h.lusers
  have h5 := h.lsp
  refine ⟨by simp only [does]; omega, by simp only [does]; omega, by simp only [does, List.length_append, List.length_cons, List.length_nil]; omega, by simp only [does, List.length_append, List.length_cons, List.length_nil]; omega, by simp only [does]; omega, files_ap h.dnow (ok_at _ hc), h.dsure, ?_, ?_, ?_⟩
  · intro d hd
    rcases List.mem_append.1 hd with hd | hd
    · exact h.dpend d hd
    · rw [List.mem_singleton.1 hd]; exact ok_at _ hc
  · show (m.pend ++ [c.at (m.time + 1)]).foldl ap m.sure = ap m.now (c.at (m.time + 1))
    rw [List.foldl_append, h.fold]
    rfl
  · intro k s d hk
    show (look (((m.pend ++ [c.at (m.time + 1)]).take k).foldl ap m.sure) s).isSome = true
    have hk' : (m.pend ++ [c.at (m.time + 1)])[k]? = some (.mv s d) := hk
    rw [List.getElem?_append] at hk'
    split at hk'
    · rename_i hlt
      rw [List.take_append_of_le_length (by omega)]
      exact h.mvs k s d hk'
    · rename_i hge
      have h9 := (List.getElem?_eq_some_iff.1 hk').1
      have hz : k - m.pend.length = 0 := by simp at h9; omega
      rw [hz] at hk'
      have e : c.at (m.time + 1) = .mv s d := by simpa using hk'
      have hke : k = m.pend.length := by omega
      subst hke
      rw [List.take_left, h.fold]
      cases c with
      | put p f => cases e
      | mv s' d' => exact hmv s d e
      | del p => cases e
theorem ok_puts {m : Fs} {path : B8} {mode : Int} {data : B8} {fits : Bool} (h : OkM m) (hp : pathB path = true) (hd : data.length ≤ 20000) : OkM (putsM m path mode data fits).1 := by
  unfold putsM
  split
  · exact h
  · split
    · exact h
    · exact ok_does h ⟨hp, hd⟩ (fun s d e => by cases e)
theorem ok_removes {m : Fs} {path : B8} (h : OkM m) : OkM (removesM m path).1 := by
  unfold removesM
  split
  · exact h
  · split
    · exact h
    · rename_i h1 _
      exact ok_does h (show pathB path = true by simpa using h1) (fun s d e => by cases e)
theorem ok_settle {m : Fs} (h : OkM m) : OkM (settle m) :=
  ⟨h.lnow, h.lnow, Nat.zero_le _, h.lnow, h.lusers, h.dnow, h.dnow, fun c hc => (by cases hc), rfl, fun k s d hk => by simp [settle] at hk⟩
theorem OkM.same {m m' : Fs} (h : OkM m) (h1 : m'.now = m.now) (h2 : m'.sure = m.sure) (h3 : m'.pend = m.pend) (h4 : m'.users.length ≤ m'.time) (h5 : m.time ≤ m'.time) : OkM m' := by
  refine ⟨by rw [h1]; exact Nat.le_trans h.lnow h5, by rw [h2]; exact Nat.le_trans h.lsure h5, by rw [h3]; exact Nat.le_trans h.lpend h5, by rw [h2, h3]; exact Nat.le_trans h.lsp h5, h4, by rw [h1]; exact h.dnow, by rw [h2]; exact h.dsure, by rw [h3]; exact h.dpend, by rw [h1, h2, h3]; exact h.fold, by rw [h2, h3]; exact h.mvs⟩
theorem wrong_zero {path : B8} {mode : Int} {data : B8} (h : wrongE path mode data = 0) : pathB path = true ∧ 1 ≤ mode ∧ mode ≤ 3 ∧ data.length ≤ 20000 := by
  unfold wrongE at h
  split at h
  · cases h
  · split at h
    · cases h
    · split at h
      · cases h
      · rename_i h1 h2 h3
        refine ⟨by simpa using h1, by omega, by omega, by omega⟩
theorem puts_zero {m : Fs} {path : B8} {mode : Int} {data : B8} {fits : Bool} (h : (putsM m path mode data fits).2 = 0) : putsM m path mode data fits = (does m (.put path ⟨mode, data, 0⟩), 0) := by
  unfold putsM at h ⊢
  by_cases h1 : (look m.now path).isNone = true ∧ mayF m.now path [] = false
  · rw [if_pos h1] at h; cases h
  · rw [if_neg h1] at h ⊢
    by_cases h2 : fits = false
    · rw [if_pos h2] at h; cases h
    · rw [if_neg h2]
theorem removes_zero {m : Fs} {path : B8} (h : (removesM m path).2 = 0) : removesM m path = (does m (.del path), 0) := by
  unfold removesM at h ⊢
  by_cases h1 : pathB path = false
  · rw [if_pos h1] at h; cases h
  · rw [if_neg h1] at h ⊢
    by_cases h2 : (look m.now path).isNone = true
    · rw [if_pos h2] at h; cases h
    · rw [if_neg h2]
theorem puts_time {m : Fs} {path : B8} {mode : Int} {data : B8} {fits : Bool} : m.time ≤ (putsM m path mode data fits).1.time ∧ (putsM m path mode data fits).1.time ≤ m.time + 1 := by
  unfold putsM
  split
  · exact ⟨Nat.le_refl _, Nat.le_succ _⟩
  · split
    · exact ⟨Nat.le_refl _, Nat.le_succ _⟩
    · exact ⟨Nat.le_succ _, Nat.le_refl _⟩
theorem removes_time {m : Fs} {path : B8} : m.time ≤ (removesM m path).1.time ∧ (removesM m path).1.time ≤ m.time + 1 := by
  unfold removesM
  split
  · exact ⟨Nat.le_refl _, Nat.le_succ _⟩
  · split
    · exact ⟨Nat.le_refl _, Nat.le_succ _⟩
    · exact ⟨Nat.le_succ _, Nat.le_refl _⟩
theorem ok_userWrite {m : Fs} {path : B8} {mode : Int} {data : B8} (h : OkM m) : OkM (userWrite m path mode data).1 := by
  unfold userWrite
  split
  · exact h
  · split
    · exact h
    · rename_i hw
      have hw0 := wrong_zero (by simpa using hw)
      split
      · exact ok_puts h hw0.1 hw0.2.2.2
      · rename_i hp
        have hp0 := puts_zero (by simpa using hp)
        have ho := ok_settle (ok_puts (mode := mode) (fits := true) h hw0.1 hw0.2.2.2)
        refine ho.same rfl rfl rfl ?_ (Nat.le_refl _)
        have := h.lusers
        rw [hp0]
        simp only [settle, does, List.length_append, List.length_cons, List.length_nil]
        omega
theorem ok_userRemove {m : Fs} {path : B8} (h : OkM m) : OkM (userRemove m path).1 := by
  unfold userRemove
  split
  · exact h
  · split
    · exact ok_removes h
    · rename_i hp
      have hp0 := removes_zero (by simpa using hp)
      have ho := ok_settle (ok_removes (path := path) h)
      refine ho.same rfl rfl rfl ?_ (Nat.le_refl _)
      have := h.lusers
      rw [hp0]
      simp only [settle, does, List.length_append, List.length_cons, List.length_nil]
      omega
theorem userWrite_time {m : Fs} {path : B8} {mode : Int} {data : B8} : m.time ≤ (userWrite m path mode data).1.time ∧ (userWrite m path mode data).1.time ≤ m.time + 1 := by
  unfold userWrite
  split
  · exact ⟨Nat.le_refl _, Nat.le_succ _⟩
  · split
    · exact ⟨Nat.le_refl _, Nat.le_succ _⟩
    · split
      · exact puts_time
      · exact puts_time (m := m) (path := path) (mode := mode) (data := data) (fits := true)
theorem userRemove_time {m : Fs} {path : B8} : m.time ≤ (userRemove m path).1.time ∧ (userRemove m path).1.time ≤ m.time + 1 := by
  unfold userRemove
  split
  · exact ⟨Nat.le_refl _, Nat.le_succ _⟩
  · split
    · exact removes_time
    · exact removes_time (m := m) (path := path)
theorem torn_length (l : Files) (t : Int) (c : Option Ch) : (torn1 l t c).length ≤ l.length + 1 ∧ (c = none → torn1 l t c = l) := by
  unfold torn1
  refine ⟨?_, fun h => by subst h; rfl⟩
  split
  · split
    · exact ap_length _ _
    · omega
  · omega
theorem fallen_length {m : Fs} (keep torn : Int) (h : OkM m) : (fallen m keep torn).length ≤ m.time := by
  unfold fallen
  have h1 := torn_length ((m.pend.take (keepN m keep)).foldl ap m.sure) torn m.pend[keepN m keep]?
  have h2 := fold_length m.sure (m.pend.take (keepN m keep))
  have h3 := h.lsp
  have h4 : (m.pend.take (keepN m keep)).length ≤ keepN m keep := List.length_take_le _ _
  by_cases hk : keepN m keep < m.pend.length
  · omega
  · have h5 := h1.2 (List.getElem?_eq_none (by omega))
    rw [h5]
    have : keepN m keep ≤ m.pend.length := by unfold keepN; omega
    omega
theorem fallen_files {m : Fs} (keep torn : Int) (h : OkM m) : ∀ e ∈ fallen m keep torn, pathB e.1 = true ∧ e.2.data.length ≤ 20000 := by
  have hf := files_fold (cs := m.pend.take (keepN m keep)) h.dsure (fun c hc => h.dpend c (List.mem_of_mem_take hc))
  unfold fallen torn1
  split
  · rename_i p f hk
    split
    · refine files_ap hf ?_
      have := h.dpend _ (List.mem_of_getElem? hk)
      refine ⟨this.1, ?_⟩
      simp only [List.length_take]
      have := this.2
      omega
    · exact hf
  · exact hf
theorem ok_crash {m : Fs} (keep torn : Int) (h : OkM m) : OkM (crash m keep torn) := by
  unfold crash
  split
  · exact h
  · have hl := fallen_length keep torn h
    have hf := fallen_files keep torn h
    exact ⟨hl, hl, Nat.zero_le _, hl, h.lusers, hf, hf, fun c hc => (by cases hc), rfl, fun k s d hk => by simp at hk⟩
theorem crash_time (m : Fs) (keep torn : Int) : (crash m keep torn).time = m.time := by
  unfold crash
  split <;> rfl

/-- An event that happens: to the files. -/
def hapM (m : Fs) (e : Ev) : Fs :=
  if e.kind = 1 then crash m e.keep e.torn else if e.kind = 4 then (userWrite m e.path e.mode e.data).1 else if e.kind = 5 then (userRemove m e.path).1 else m
def hapE (e : Ev) : Int := if e.kind = 2 then 10 else if e.kind = 3 then 11 else 0
theorem ok_hap {m : Fs} (h : OkM m) (e : Ev) : OkM (hapM m e) := by
  unfold hapM
  split
  · exact ok_crash _ _ h
  · split
    · exact ok_userWrite h
    · split
      · exact ok_userRemove h
      · exact h
theorem hap_time (m : Fs) (e : Ev) : m.time ≤ (hapM m e).time ∧ (hapM m e).time ≤ m.time + 1 := by
  unfold hapM
  split
  · rw [crash_time]; exact ⟨Nat.le_refl _, Nat.le_succ _⟩
  · split
    · exact userWrite_time
    · split
      · exact userRemove_time
      · exact ⟨Nat.le_refl _, Nat.le_succ _⟩
theorem happen_eq (n : Nat) (x : Fs × Bool × Bool) (e : Ev) : happen n x e = if e.t ≠ n then x else (hapM x.1 e, x.2.1 || hapE e == 10, x.2.2 || hapE e == 11) := by
  obtain ⟨m, f, b⟩ := x
  unfold happen hapM hapE
  simp only
  by_cases h0 : e.t ≠ n
  · rw [if_pos h0, if_pos h0]
  · rw [if_neg h0, if_neg h0]
    by_cases h1 : e.kind = 1
    · simp [h1]
    · by_cases h2 : e.kind = 2
      · simp [h2]
      · by_cases h3 : e.kind = 3
        · simp [h3]
        · by_cases h4 : e.kind = 4
          · simp [h4]
          · by_cases h5 : e.kind = 5
            · simp [h5]
            · simp [h1, h2, h3, h4, h5]

end Go.Proofs.YtdhgmpibjneplaaGreatDoor

/-! fsim.FS: happens: an event. Conditions: at most 9000000 ticks; a short path. -/
namespace Go.Proofs.YtdhgmpibjneplaaGreatDoor
open Go Go.RowKit

set_option maxRecDepth 100000 in
set_option maxHeartbeats 2000000 in
theorem happens_any {S O R : Nat → Prop} {w : World} {p : Value} {m : Fs} (e : Ev) (cs : List Value) (hE : Env w) (h : IsFs S O R w p m) (hok : OkM m) (ht : m.time ≤ 9000000) (he : IsEvR R w cs e) (hk64 : I64 e.keep) (ht64 : I64 e.torn) (hpl : e.path.length ≤ 400) :
    Calls Tryz.prog 125 #[p, .agg cs.toArray] w fun x w' => x = .returned (.int .i64 (hapE e)) ∧ FsPost S O R w p (hapM m e) w' := by
  obtain ⟨vd, rfl, hd, -⟩ := he
  obtain ⟨t, kind, mode, keep, torn, path, data⟩ := e
  obtain ⟨d1, d2, rfl, -⟩ := id hd.bytes
  simp only at hd hk64 ht64 hpl ⊢
  have hdl := hd.bytes.len
  have hx : Ext w (w.alloc (.cells #[.int .i64 t, .int .i64 kind, .int .i64 mode, .int .i64 keep, .int .i64 torn, S8 path, .slice d1 data.length d2] 108)) := (Ext.refl _).alloc _
  have HF : Hid _ := h.ext hx
  have HD : Hid _ := hd.ext hx
  have HE : Hid _ := hE.ext hx
  have HX : Hid _ := hx
  have HOK : Hid _ := hok
  have HM : Hid (hapM m ⟨t, kind, mode, keep, torn, path, data⟩ = if kind = 1 then crash m keep torn else if kind = 4 then (userWrite m path mode data).1 else if kind = 5 then (userRemove m path).1 else m) := rfl
  have HH : Hid (hapE ⟨t, kind, mode, keep, torn, path, data⟩ = if kind = 2 then 10 else if kind = 3 then 11 else 0) := rfl
  obtain ⟨M, hM⟩ : ∃ M, hapM m ⟨t, kind, mode, keep, torn, path, data⟩ = M := ⟨_, rfl⟩
  obtain ⟨C, hC⟩ : ∃ C, hapE ⟨t, kind, mode, keep, torn, path, data⟩ = C := ⟨_, rfl⟩
  rw [hM] at HM ⊢
  rw [hC] at HH ⊢
  clear hM hC h hd hE hx hok
  by_cases k1 : kind = 1
  · subst k1
    obtain rfl : crash m keep torn = M := HM.out.symm
    obtain rfl : (0 : Int) = C := HH.out.symm
    clear HM HH
    go_enter Tryz.func125, Tryz.ntmps125
    go_wp2_with (go_at_call 161; go_must (refine (crash_any keep torn HF.out HOK.out ht hk64 ht64).mono ?_; rintro e w2 ⟨rfl, h2⟩))
    go_ret
    exact ⟨rfl, FsPost.pre HX.out h2⟩
  · have b1 : (kind == 1) = false := by simpa using k1
    by_cases k2 : kind = 2
    · subst k2
      obtain rfl : m = M := HM.out.symm
      obtain rfl : (10 : Int) = C := HH.out.symm
      clear HM HH k1 b1
      go_enter Tryz.func125, Tryz.ntmps125
      go_wp2
      go_ret
      exact ⟨rfl, FsPost.pre HX.out (FsPost.same HF.out (Ext.refl _))⟩
    · have b2 : (kind == 2) = false := by simpa using k2
      by_cases k3 : kind = 3
      · subst k3
        obtain rfl : m = M := HM.out.symm
        obtain rfl : (11 : Int) = C := HH.out.symm
        clear HM HH k1 b1 k2 b2
        go_enter Tryz.func125, Tryz.ntmps125
        go_wp2
        go_ret
        exact ⟨rfl, FsPost.pre HX.out (FsPost.same HF.out (Ext.refl _))⟩
      · have b3 : (kind == 3) = false := by simpa using k3
        by_cases k4 : kind = 4
        · subst k4
          obtain rfl : (userWrite m path mode data).1 = M := HM.out.symm
          obtain rfl : (0 : Int) = C := HH.out.symm
          clear HM HH k1 b1 k2 b2 k3 b3
          go_enter Tryz.func125, Tryz.ntmps125
          go_wp2_with (go_at_call 17; go_must (refine (userWrite_any path mode (.slice d1 data.length d2) data HE.out HF.out HOK.out ht (by omega) HD.out.bytes hdl (fun hp => may_eq _ hp) HD.out.out).mono ?_; rintro e w2 ⟨rfl, h2⟩))
          go_ret
          exact ⟨rfl, FsPost.pre HX.out h2⟩
        · have b4 : (kind == 4) = false := by simpa using k4
          by_cases k5 : kind = 5
          · subst k5
            obtain rfl : (userRemove m path).1 = M := HM.out.symm
            obtain rfl : (0 : Int) = C := HH.out.symm
            clear HM HH k1 b1 k2 b2 k3 b3 k4 b4
            go_enter Tryz.func125, Tryz.ntmps125
            go_wp2_with (go_at_call 16; go_must (refine (userRemove_any path HE.out HF.out HOK.out ht (by omega)).mono ?_; rintro e w2 ⟨rfl, h2⟩))
            go_ret
            exact ⟨rfl, FsPost.pre HX.out h2⟩
          · have b5 : (kind == 5) = false := by simpa using k5
            obtain rfl : m = M := (HM.out.trans (by rw [if_neg k1, if_neg k4, if_neg k5])).symm
            obtain rfl : (0 : Int) = C := (HH.out.trans (by rw [if_neg k2, if_neg k3])).symm
            clear HM HH
            go_enter Tryz.func125, Tryz.ntmps125
            go_wp2
            go_ret
            exact ⟨rfl, FsPost.pre HX.out (FsPost.same HF.out (Ext.refl _))⟩

end Go.Proofs.YtdhgmpibjneplaaGreatDoor
