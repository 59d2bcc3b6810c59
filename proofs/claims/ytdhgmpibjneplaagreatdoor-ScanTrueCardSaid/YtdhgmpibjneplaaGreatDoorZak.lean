/- marlaw13.ScanTrue. Conditions: as each theorem states. -/
import Derived.Test.YtdhgmpibjneplaaGreatDoorZaj
import Derived.Test.YtdhgmpibjneplaaGreatDoorZah
import Derived.BigQuiet
import Derived.Test.YtdhgmpibjneplaaGreatDoorZaf
import Derived.Test.YtdhgmpibjneplaaGreatDoorZad

set_option linter.unusedVariables false
set_option linter.unusedSimpArgs false
set_option linter.unusedSectionVars false

/-! marref1's Split, pattern, takes, Ignored: what they answer. Conditions: texts of at most 1000000 signs. -/
namespace Go.Proofs.YtdhgmpibjneplaaGreatDoor
open Go Go.RowKit
set_option linter.unusedVariables false
set_option linter.unusedSimpArgs false
set_option linter.unusedSectionVars false

theorem results_tmp5 {fn : Func} {t u v x y : Tmp} (h : fn.results = #[.tmp t, .tmp u, .tmp v, .tmp x, .tmp y]) (tmps : Array Value) (P : Program) (w : World) :
    (results fn tmps).run P w = .ok (.tuple #[tmps.getD t undef, tmps.getD u undef, tmps.getD v undef, tmps.getD x undef, tmps.getD y undef]) w := by
  simp [results, h]
theorem rsplitP_any (s : B8) (w : World) (hs : s.length ≤ 1000000) :
    Calls Tryz.prog 85 #[S8 s] w fun e w' => ∃ v, e = .returned v ∧ IsStrs w' v (splitL s) ∧ Ext w w' := by
  obtain ⟨b, hb⟩ : ∃ b, pathB s = b := ⟨_, rfl⟩
  have HB : Hid _ := hb
  have HL : Hid (splitL s = if b = true then cut 47 s else []) := by unfold Hid splitL; rw [hb]
  rw [HL.out]
  clear hb
  go_enter Tryz.func85, Tryz.ntmps85
  go_wp2_with fail
  go_at_call 56
  refine (rpath_any s _ (by omega)).mono ?_
  rw [HB.out]
  rintro e w1 ⟨rfl, hx1⟩
  cases b with
  | false =>
    go_wp2
    go_ret
    exact ⟨_, rfl, IsStrs.nil _, hx1⟩
  | true =>
    go_wp2_with fail
    go_at_call 92
    refine (rsplit_any ⟨s.toArray⟩ 47 _ (by simp [ByteArray.size]; omega)).mono ?_
    rintro e w2 ⟨v, rfl, hv, -, hx2⟩
    have hv : IsStrs w2 v (cut 47 s) := hv
    go_wp2
    go_ret
    exact ⟨_, rfl, hv, hx1.trans hx2⟩
/-- What marref1.pattern answers. -/
def patV (p : B8) : Value := match patR p with
  | none => .tuple #[S8 [], .bool false, S8 [], .bool false, .bool false]
  | some x => .tuple #[S8 x.1, .bool x.2.1, S8 x.2.2, .bool (patD p), .bool true]
theorem patV_none {p : B8} (h : patR p = none) : patV p = .tuple #[S8 [], .bool false, S8 [], .bool false, .bool false] := by unfold patV; rw [h]
theorem patV_some {p : B8} {x : B8 × Bool × B8} (h : patR p = some x) : patV p = .tuple #[S8 x.1, .bool x.2.1, S8 x.2.2, .bool (patD p), .bool true] := by unfold patV; rw [h]
theorem patD_at {p : B8} (h : 0 < p.length) : patD p = ((p[p.length - 1]'(by omega)).toNat == 47) := by
  unfold patD
  rw [Bool.eq_iff_iff, suf_iff, beq_iff_eq, List.getLast?_eq_getElem?, List.getElem?_eq_getElem (by omega), Option.some.injEq]
  constructor
  · intro e; rw [e]; rfl
  · intro e; exact UInt8.toNat_inj.1 e
theorem patS_hit {p : B8} (h : patD p = true) : patS p = p.take (p.length - 1) := by
  unfold patS Lib.trimSuffix
  have h : Lib.hasSuffix p [47] = true := h
  rw [if_pos h]; rfl
theorem patS_miss {p : B8} (h : patD p = false) : patS p = p := by
  unfold patS Lib.trimSuffix
  have h : Lib.hasSuffix p [47] = false := h
  rw [h]; rfl
theorem cat_list (x y : B8) : ((⟨x.toArray⟩ : ByteArray) ++ (⟨y.toArray⟩ : ByteArray)).toList = x ++ y := by
  rw [ByteArray.toList_eq]; simp
theorem cut_one {c : UInt8} {l x : B8} (h : cut c l = [x]) : x = l := by
  by_cases hm : c ∈ l
  case neg => rw [cut_none (fun y hy e => hm (by rw [← e]; exact hy))] at h; simpa using h.symm
  obtain ⟨a, r, rfl, ha⟩ := List.eq_append_cons_of_mem hm
  rw [cut_at (fun y hy e => ha (by rw [← e]; exact hy))] at h
  injection h with h1 h2
  exact (cut_ne c r h2).elim
theorem pat2_two {a b : B8} : pat2 [a, b] = if (a ≠ [] ∧ b ≠ []) ∨ a ++ b = [] then none else some (a, true, b) := rfl
set_option maxRecDepth 100000 in
set_option maxHeartbeats 4000000 in
theorem rpattern_any (p : B8) (w : World) (hp : p.length ≤ 1000000) :
    Calls Tryz.prog 86 #[S8 p] w fun e w' => e = .returned (patV p) ∧ Ext w w' := by
  have hql := patS_len p
  obtain ⟨d, hd⟩ : ∃ d, patD p = d := ⟨_, rfl⟩
  obtain ⟨q, hq⟩ : ∃ q, patS p = q := ⟨_, rfl⟩
  obtain ⟨nb, hnb⟩ : ∃ nb, nameB q = nb := ⟨_, rfl⟩
  obtain ⟨L, hL⟩ : ∃ L, cut 42 q = L := ⟨_, rfl⟩
  have HPR : Hid (patR p = if nb = true then pat2 L else none) := by unfold Hid patR; rw [hq, hnb, hL]
  have HD : Hid _ := hd
  have HL0 : Hid (L ≠ []) := by rw [← hL]; exact cut_ne _ _
  have HNB : Hid _ := hnb
  have HLE : Hid _ := hL
  rw [hq] at hql
  have HQS : Hid ((d = true → q = p.take (p.length - 1)) ∧ (d = false → q = p)) := by
    refine ⟨fun h => ?_, fun h => ?_⟩
    · rw [← hq]; exact patS_hit (by rw [hd, h])
    · rw [← hq]; exact patS_miss (by rw [hd, h])
  clear hq hnb hL
  have hb0 : ∀ h : 0 < p.length, ((((⟨p.toArray⟩ : ByteArray)[p.length - 1]'(by simpa [ByteArray.size] using by omega)).toNat : Int) == 47) = d := by
    intro h
    rw [← hd, patD_at h, Bool.eq_iff_iff, beq_iff_eq, beq_iff_eq]
    show ((p[p.length - 1]'(by omega)).toNat : Int) = 47 ↔ _
    omega
  clear hd
  by_cases hz : 0 < p.length
  case neg =>
    have hp0 : p = [] := by cases p with | nil => rfl | cons x l => exact (hz (by simp)).elim
    subst hp0
    have hd0 : d = false := by rw [← HD.out]; rfl
    subst hd0
    have HQ : Hid (q = []) := HQS.out.2 rfl
    have hq0 := HQ.out
    subst hq0
    have hn0 : nb = false := by rw [← HNB.out]; rfl
    subst hn0
    have HV : Hid _ := patV_none (by rw [HPR.out]; rfl)
    clear hb0
    go_enter Tryz.func86, Tryz.ntmps86
    go_wp2_with fail
    go_at_call 93
    refine (rname_any [] _ (by simp)).mono ?_
    rw [HNB.out]
    rintro e w1 ⟨rfl, rfl⟩
    go_wp2
    ((try simp only [Exit.inBlock, Exit.then]); refine bodyPost_ret (results_tmp5 rfl _ _ _) rfl ?_)
    exact ⟨by rw [HV.out]; rfl, Ext.refl _⟩
  have hb1 := hb0 hz
  have hl1 : ((p.length - 1 : Nat) : Int) = (p.length : Int) - 1 := by omega
  clear hb0
  go_enter Tryz.func86, Tryz.ntmps86
  cases d with
  | true =>
    have HQ : Hid _ := HQS.out.1 rfl
    have HEX : Hid ((⟨p.toArray⟩ : ByteArray).extract 0 (p.length - 1) = ⟨q.toArray⟩) := by
      unfold Hid
      rw [extract_list _ 0 (p.length - 1) (by omega) (by simp [ByteArray.size])]
      show (⟨((p.drop 0).take (p.length - 1 - 0)).toArray⟩ : ByteArray) = _
      rw [HQ.out]
      simp
    go_wp2_with fail
    go_at_call 93
    rw [HEX.out]
    refine (rname_any q _ (by omega)).mono ?_
    rw [HNB.out]
    rintro e w1 ⟨rfl, rfl⟩
    cases nb with
    | false =>
      have HV : Hid _ := patV_none (by rw [HPR.out]; rfl)
      go_wp2
      ((try simp only [Exit.inBlock, Exit.then]); refine bodyPost_ret (results_tmp5 rfl _ _ _) rfl ?_)
      exact ⟨by rw [HV.out]; rfl, Ext.refl _⟩
    | true =>
    have HPR1 : Hid (patR p = pat2 L) := by unfold Hid; rw [HPR.out, if_pos rfl]
    clear HPR
    go_wp2_with fail
    go_at_call 92
    refine (rsplit_any ⟨q.toArray⟩ 42 _ (by simp [ByteArray.size]; omega)).mono ?_
    rintro e w2 ⟨v, rfl, hv, -, hx⟩
    have hv : IsStrs w2 v (cut 42 q) := hv
    rw [HLE.out] at hv
    have HX : Hid _ := hx
    clear hx
    rcases L with _ | ⟨x, _ | ⟨y, _ | ⟨z, t⟩⟩⟩
    · exact absurd rfl HL0.out
    · have HV : Hid _ := patV_some HPR1.out
      have HXQ : Hid (x = q) := cut_one HLE.out
      obtain ⟨a, c, rfl, l1, l2, l3, hg⟩ := hv.get
      clear hv hg
      go_wp2
      ((try simp only [Exit.inBlock, Exit.then]); refine bodyPost_ret (results_tmp5 rfl _ _ _) rfl ?_)
      exact ⟨by rw [HV.out, HD.out, HXQ.out]; rfl, HX.out⟩
    · obtain ⟨a, c, rfl, l1, l2, l3, hg⟩ := hv.get
      obtain ⟨b, o, rfl, hc⟩ := hg 0 (by simp)
      have c0 := hc 0 (by simp)
      have c1 := hc 1 (by simp)
      simp only [Nat.add_zero, List.getD_cons_zero, List.getD_cons_succ] at c0 c1
      clear hv hg hc
      have HS8 : Hid (pat2 [x, y] = if x.isEmpty = y.isEmpty then none else some (x, true, y)) := by
        unfold Hid
        rw [pat2_two]
        cases x <;> cases y <;> simp
      obtain ⟨b1, hb1⟩ : ∃ k, x.isEmpty = k := ⟨_, rfl⟩
      obtain ⟨b2, hb2⟩ : ∃ k, y.isEmpty = k := ⟨_, rfl⟩
      have hab : ((⟨x.toArray⟩ : ByteArray) ++ (⟨y.toArray⟩ : ByteArray)).toList.isEmpty = (b1 && b2) := by
        rw [← hb1, ← hb2, cat_list]
        cases x <;> simp
      rw [hb1, hb2] at HS8
      have hxl : x.length ≤ 1000000 := by
        have := cut_piece 42 q (x := x) (by rw [HLE.out]; simp)
        omega
      have hyl : y.length ≤ 1000000 := by
        have := cut_piece 42 q (x := y) (by rw [HLE.out]; simp)
        omega
      have HPR2 : Hid _ := HPR1.out.trans HS8.out
      clear HS8
      cases b1 <;> cases b2
      · have HV : Hid _ := patV_none (by rw [HPR2.out]; rfl)
        go_upto_region 9 with fail
        go_quiet (fail)
        go_wp2
        ((try simp only [Exit.inBlock, Exit.then]); refine bodyPost_ret (results_tmp5 rfl _ _ _) rfl ?_)
        exact ⟨by rw [HV.out]; rfl, Ext.trans HX.out (Ext.drawn _ _)⟩
      · have HV : Hid _ := patV_some (by rw [HPR2.out]; rfl)
        go_upto_region 9 with fail
        go_quiet (fail)
        go_upto_region 11 with fail
        go_quiet (fail)
        go_wp2
        ((try simp only [Exit.inBlock, Exit.then]); refine bodyPost_ret (results_tmp5 rfl _ _ _) rfl ?_)
        exact ⟨by rw [HV.out, HD.out]; rfl, Ext.trans HX.out ((Ext.drawn _ _).trans (Ext.drawn _ _))⟩
      · have HV : Hid _ := patV_some (by rw [HPR2.out]; rfl)
        go_upto_region 9 with fail
        go_quiet (fail)
        go_upto_region 11 with fail
        go_quiet (fail)
        go_wp2
        ((try simp only [Exit.inBlock, Exit.then]); refine bodyPost_ret (results_tmp5 rfl _ _ _) rfl ?_)
        exact ⟨by rw [HV.out, HD.out]; rfl, Ext.trans HX.out ((Ext.drawn _ _).trans (Ext.drawn _ _))⟩
      · have HV : Hid _ := patV_none (by rw [HPR2.out]; rfl)
        go_upto_region 9 with fail
        go_quiet (fail)
        go_wp2
        ((try simp only [Exit.inBlock, Exit.then]); refine bodyPost_ret (results_tmp5 rfl _ _ _) rfl ?_)
        exact ⟨by rw [HV.out]; rfl, Ext.trans HX.out (Ext.drawn _ _)⟩
    · have HV : Hid _ := patV_none (by rw [HPR1.out]; rfl)
      obtain ⟨a, c, rfl, l1, l2, l3, hg⟩ := hv.get
      obtain ⟨n, hn⟩ : ∃ n, (x :: y :: z :: t).length = n := ⟨_, rfl⟩
      have hn3 : (2 : Int) < (n : Int) := by rw [← hn]; simp only [List.length_cons]; omega
      have hn1 : ((n : Int) == 1) = false := by rw [beq_eq_false_iff_ne]; omega
      have hn2 : decide ((2 : Int) < (n : Int)) = true := by rw [decide_eq_true_eq]; omega
      clear hv hg
      rw [hn] at l1 l2 ⊢
      clear hn
      go_upto_region 9 with fail
      go_quiet (fail)
      go_wp2
      ((try simp only [Exit.inBlock, Exit.then]); refine bodyPost_ret (results_tmp5 rfl _ _ _) rfl ?_)
      exact ⟨by rw [HV.out]; rfl, Ext.trans HX.out (Ext.drawn _ _)⟩
  | false =>
    have HQ : Hid _ := HQS.out.2 rfl
    have hqe := HQ.out
    subst hqe
    go_wp2_with fail
    go_at_call 93
    refine (rname_any q _ (by omega)).mono ?_
    rw [HNB.out]
    rintro e w1 ⟨rfl, rfl⟩
    cases nb with
    | false =>
      have HV : Hid _ := patV_none (by rw [HPR.out]; rfl)
      go_wp2
      ((try simp only [Exit.inBlock, Exit.then]); refine bodyPost_ret (results_tmp5 rfl _ _ _) rfl ?_)
      exact ⟨by rw [HV.out]; rfl, Ext.refl _⟩
    | true =>
    have HPR1 : Hid (patR q = pat2 L) := by unfold Hid; rw [HPR.out, if_pos rfl]
    clear HPR
    go_wp2_with fail
    go_at_call 92
    refine (rsplit_any ⟨q.toArray⟩ 42 _ (by simp [ByteArray.size]; omega)).mono ?_
    rintro e w2 ⟨v, rfl, hv, -, hx⟩
    have hv : IsStrs w2 v (cut 42 q) := hv
    rw [HLE.out] at hv
    have HX : Hid _ := hx
    clear hx
    rcases L with _ | ⟨x, _ | ⟨y, _ | ⟨z, t⟩⟩⟩
    · exact absurd rfl HL0.out
    · have HV : Hid _ := patV_some HPR1.out
      have HXQ : Hid (x = q) := cut_one HLE.out
      obtain ⟨a, c, rfl, l1, l2, l3, hg⟩ := hv.get
      clear hv hg
      go_wp2
      ((try simp only [Exit.inBlock, Exit.then]); refine bodyPost_ret (results_tmp5 rfl _ _ _) rfl ?_)
      exact ⟨by rw [HV.out, HD.out, HXQ.out]; rfl, HX.out⟩
    · obtain ⟨a, c, rfl, l1, l2, l3, hg⟩ := hv.get
      obtain ⟨b, o, rfl, hc⟩ := hg 0 (by simp)
      have c0 := hc 0 (by simp)
      have c1 := hc 1 (by simp)
      simp only [Nat.add_zero, List.getD_cons_zero, List.getD_cons_succ] at c0 c1
      clear hv hg hc
      have HS8 : Hid (pat2 [x, y] = if x.isEmpty = y.isEmpty then none else some (x, true, y)) := by
        unfold Hid
        rw [pat2_two]
        cases x <;> cases y <;> simp
      obtain ⟨b1, hb1⟩ : ∃ k, x.isEmpty = k := ⟨_, rfl⟩
      obtain ⟨b2, hb2⟩ : ∃ k, y.isEmpty = k := ⟨_, rfl⟩
      have hab : ((⟨x.toArray⟩ : ByteArray) ++ (⟨y.toArray⟩ : ByteArray)).toList.isEmpty = (b1 && b2) := by
        rw [← hb1, ← hb2, cat_list]
        cases x <;> simp
      rw [hb1, hb2] at HS8
      have hxl : x.length ≤ 1000000 := by
        have := cut_piece 42 q (x := x) (by rw [HLE.out]; simp)
        omega
      have hyl : y.length ≤ 1000000 := by
        have := cut_piece 42 q (x := y) (by rw [HLE.out]; simp)
        omega
      have HPR2 : Hid _ := HPR1.out.trans HS8.out
      clear HS8
      cases b1 <;> cases b2
      · have HV : Hid _ := patV_none (by rw [HPR2.out]; rfl)
        go_upto_region 9 with fail
        go_quiet (fail)
        go_wp2
        ((try simp only [Exit.inBlock, Exit.then]); refine bodyPost_ret (results_tmp5 rfl _ _ _) rfl ?_)
        exact ⟨by rw [HV.out]; rfl, Ext.trans HX.out (Ext.drawn _ _)⟩
      · have HV : Hid _ := patV_some (by rw [HPR2.out]; rfl)
        go_upto_region 9 with fail
        go_quiet (fail)
        go_upto_region 11 with fail
        go_quiet (fail)
        go_wp2
        ((try simp only [Exit.inBlock, Exit.then]); refine bodyPost_ret (results_tmp5 rfl _ _ _) rfl ?_)
        exact ⟨by rw [HV.out, HD.out]; rfl, Ext.trans HX.out ((Ext.drawn _ _).trans (Ext.drawn _ _))⟩
      · have HV : Hid _ := patV_some (by rw [HPR2.out]; rfl)
        go_upto_region 9 with fail
        go_quiet (fail)
        go_upto_region 11 with fail
        go_quiet (fail)
        go_wp2
        ((try simp only [Exit.inBlock, Exit.then]); refine bodyPost_ret (results_tmp5 rfl _ _ _) rfl ?_)
        exact ⟨by rw [HV.out, HD.out]; rfl, Ext.trans HX.out ((Ext.drawn _ _).trans (Ext.drawn _ _))⟩
      · have HV : Hid _ := patV_none (by rw [HPR2.out]; rfl)
        go_upto_region 9 with fail
        go_quiet (fail)
        go_wp2
        ((try simp only [Exit.inBlock, Exit.then]); refine bodyPost_ret (results_tmp5 rfl _ _ _) rfl ?_)
        exact ⟨by rw [HV.out]; rfl, Ext.trans HX.out (Ext.drawn _ _)⟩
    · have HV : Hid _ := patV_none (by rw [HPR1.out]; rfl)
      obtain ⟨a, c, rfl, l1, l2, l3, hg⟩ := hv.get
      obtain ⟨n, hn⟩ : ∃ n, (x :: y :: z :: t).length = n := ⟨_, rfl⟩
      have hn3 : (2 : Int) < (n : Int) := by rw [← hn]; simp only [List.length_cons]; omega
      have hn1 : ((n : Int) == 1) = false := by rw [beq_eq_false_iff_ne]; omega
      have hn2 : decide ((2 : Int) < (n : Int)) = true := by rw [decide_eq_true_eq]; omega
      clear hv hg
      rw [hn] at l1 l2 ⊢
      clear hn
      go_upto_region 9 with fail
      go_quiet (fail)
      go_wp2
      ((try simp only [Exit.inBlock, Exit.then]); refine bodyPost_ret (results_tmp5 rfl _ _ _) rfl ?_)
      exact ⟨by rw [HV.out]; rfl, Ext.trans HX.out (Ext.drawn _ _)⟩
set_option maxRecDepth 100000 in
theorem rtakes_any (f : B8) (st : Bool) (b s : B8) (w : World) (hf : f.length ≤ 1000000) (hb : b.length ≤ 1000000) (hs : s.length ≤ 1000000) :
    Calls Tryz.prog 87 #[S8 f, .bool st, S8 b, S8 s] w fun e w' => e = .returned (.bool (takesR (f, st, b) s)) ∧ w' = w := by
  unfold takesR
  cases st with
  | false =>
    obtain ⟨q, hq⟩ : ∃ q, (s == f) = q := ⟨_, rfl⟩
    simp only [Bool.false_eq_true, if_false, hq]
    have HQ : Hid _ := hq
    clear hq
    go_enter Tryz.func87, Tryz.ntmps87
    go_wp2
    go_ret
    exact ⟨by show Ending.returned (Value.bool (s == f)) = _; rw [HQ.out], rfl⟩
  | true =>
    simp only [if_true]
    by_cases h1 : f.length + b.length ≤ s.length
    case neg =>
      rw [decide_eq_false h1]
      go_enter Tryz.func87, Tryz.ntmps87
      go_wp2
      go_ret
      exact ⟨by simp, rfl⟩
    rw [decide_eq_true h1]
    have hA : ((⟨s.toArray⟩ : ByteArray).extract 0 f.length).toList = s.take f.length := by
      rw [extract_list _ 0 f.length (by omega) (by simp [ByteArray.size]; omega)]
      show (⟨((s.drop 0).take (f.length - 0)).toArray⟩ : ByteArray).toList = _
      rw [Lib.toList_data]; simp
    have hB : ((⟨s.toArray⟩ : ByteArray).extract (s.length - b.length) s.length).toList = s.drop (s.length - b.length) := by
      rw [extract_list _ _ _ (by omega) (by simp [ByteArray.size])]
      show (⟨((s.drop (s.length - b.length)).take (s.length - (s.length - b.length))).toArray⟩ : ByteArray).toList = _
      rw [Lib.toList_data, List.take_of_length_le (by rw [List.length_drop]; exact Nat.le_refl _)]
    have HA : Hid _ := hA
    have HB : Hid _ := hB
    clear hA hB
    go_enter Tryz.func87, Tryz.ntmps87
    go_wp2
    · rename_i h9
      rw [HA.out] at h9
      go_ret
      refine ⟨?_, rfl⟩
      show Ending.returned (Value.bool (((⟨s.toArray⟩ : ByteArray).extract (s.length - b.length) s.length).toList == b)) = _
      rw [HB.out, h9]
      simp
    · rename_i h9
      rw [HA.out] at h9
      go_ret
      refine ⟨?_, rfl⟩
      show Ending.returned (Value.bool false) = _
      rw [show (s.take f.length == f) = false from beq_eq_false_iff_ne.2 h9]
      rfl

theorem patR_len {p : B8} {x : B8 × Bool × B8} (h : patR p = some x) : x.1.length ≤ p.length ∧ x.2.2.length ≤ p.length := by
  have hl := patS_len p
  unfold patR at h
  split at h
  case isFalse => cases h
  have hc := fun y (hy : y ∈ cut 42 (patS p)) => cut_piece 42 (patS p) hy
  rcases hL : cut 42 (patS p) with _ | ⟨a, _ | ⟨b, _ | ⟨c, t⟩⟩⟩
  · rw [hL] at h; cases h
  · rw [hL] at h hc
    have := hc a (by simp)
    cases h
    exact ⟨by show a.length ≤ _; omega, Nat.zero_le _⟩
  · rw [hL, pat2_two] at h
    rw [hL] at hc
    have h1 := hc a (by simp)
    have h2 := hc b (by simp)
    split at h
    · cases h
    · cases h
      exact ⟨by show a.length ≤ _; omega, by show b.length ≤ _; omega⟩
  · rw [hL] at h; cases h
theorem ign1_no {L : List B8} {p : B8} (h : patR p = none) : ign1 L p = false := by
  unfold ign1
  rw [(pat_same p).1, h]; rfl
theorem ign1_yes {L : List B8} {p : B8} {x : B8 × Bool × B8} (h : patR p = some x) : ign1 L p = hitL (patS p) (patD p) L := by
  unfold ign1
  rw [(pat_same p).1, h]; rfl
set_option maxRecDepth 100000 in
set_option maxHeartbeats 4000000 in
theorem rign_any (v : Value) (pats : List B8) (s : B8) (w : World) (hv : IsStrs w v pats) (hp : ∀ p ∈ pats, p.length ≤ 1000000) (hs : s.length ≤ 1000000) :
    Calls Tryz.prog 46 #[v, S8 s] w fun e w' => e = .returned (.bool (ignB pats s)) ∧ Ext w w' := by
  obtain ⟨a, cap, rfl, l1, l2, l3, -⟩ := hv.get
  have HV : Hid (IsStrs w (.slice a pats.length cap) pats) := hv
  have HP : Hid (∀ p ∈ pats, p.length ≤ 1000000) := hp
  obtain ⟨hL8, hL64⟩ := split_len s hs
  have HI : ignB pats s = pats.any (ign1 (splitL s)) := rfl
  rw [HI]
  have HSP : Hid _ := rsplitP_any s w (by omega)
  generalize splitL s = L at hL8 hL64 HSP ⊢
  have HL64 : Hid (∀ x ∈ L, x.length ≤ 64) := hL64
  clear hv hp hL64 HI
  go_enter Tryz.func46, Tryz.ntmps46
  go_wp2_with fail
  go_at_call 85
  refine Calls.mono HSP.out ?_
  rintro e w1 ⟨vq, rfl, hvq, hx1⟩
  obtain ⟨qa, qc, rfl, q1, q2, q3, -⟩ := hvq.get
  have HVQ : Hid (IsStrs w1 (.slice qa L.length qc) L) := hvq
  have HX1 : Hid (Ext w w1) := hx1
  clear hvq hx1 HSP
  go_wp2_with fail
  go_loopw [6] (fun i wr => ∃ k : Nat, k ≤ pats.length ∧ i = .int .i64 k ∧ Hid ((pats.take k).any (ign1 L) = false) ∧ Hid (Ext w1 wr)) (fun i _ => pats.length - (intOf i).toNat)
  case atStart => exact ⟨0, Nat.zero_le _, rfl, rfl, Ext.refl _⟩
  case round =>
  obtain ⟨k, hk, rfl, HN, HX⟩ := hrel
  by_cases hlt : k < pats.length
  case neg =>
    have hkk : k = pats.length := by omega
    subst hkk
    have HR : Hid (pats.any (ign1 L) = false) := by have h9 := HN.out; rwa [List.take_length] at h9
    have HXF : Hid _ := HX1.out.trans HX.out
    go_wp2
    go_ret
    exact ⟨by rw [HR.out]; rfl, HXF.out⟩
  obtain ⟨p, hpe⟩ : ∃ p, pats[k]? = some p := ⟨_, List.getElem?_eq_getElem hlt⟩
  have hpl := HP.out p (List.mem_of_getElem? hpe)
  obtain ⟨_, _, he, -, -, -, hg⟩ := (IsStrs.ext HV.out (HX1.out.trans HX.out)).get
  cases he
  obtain ⟨bb, oo, rfl, hc⟩ := hg k hlt
  have y1 := hc k hlt
  rw [show pats.getD k [] = p by rw [List.getD_eq_getElem?_getD, hpe]; rfl] at y1
  have HPE : Hid _ := hpe
  obtain ⟨pr, hpr⟩ : ∃ b, patR p = b := ⟨_, rfl⟩
  have HPR : Hid _ := hpr
  clear hg hc hpe hpr
  go_wp2_with fail
  go_at_call 86
  refine (rpattern_any p _ hpl).mono ?_
  rintro e w2 ⟨he9, hx2⟩
  have HX2 : Hid (Ext w1 w2) := Ext.trans HX.out hx2
  clear hx2
  cases pr with
  | none =>
    rw [patV_none HPR.out] at he9
    subst he9
    have HNX : Hid ((pats.take (k + 1)).any (ign1 L) = false) := ign_snoc HPE.out HN.out (ign1_no HPR.out)
    go_wp2_with fail
    go_loopw [12] (fun i wr => i = .int .i64 0 ∧ wr = w2) (fun i _ => 0)
    case atStart => exact ⟨rfl, rfl⟩
    case round =>
    obtain ⟨rfl, rfl⟩ := hrel
    go_wp2_with fail
    go_roundw
    case rel => exact ⟨k + 1, by omega, by go_num, HNX, HX2⟩
    case measure => simp [intOf]; omega
  | some x =>
  obtain ⟨f, st, b⟩ := x
  rw [patV_some HPR.out] at he9
  subst he9
  obtain ⟨rest, hrs⟩ : ∃ r, patS p = r := ⟨_, rfl⟩
  obtain ⟨dir, hdr⟩ : ∃ d, patD p = d := ⟨_, rfl⟩
  have hfl : f.length ≤ p.length ∧ b.length ≤ p.length := patR_len HPR.out
  have HI1 : Hid (ign1 L p = hitL rest dir L) := by unfold Hid; rw [ign1_yes HPR.out, hrs, hdr]
  have HTS : Hid (∀ s, takesB rest s = takesR (f, st, b) s) := by rw [← hrs]; exact (pat_same p).2 _ HPR.out
  rw [hdr]
  clear hrs hdr
  go_wp2_with fail
  go_loopw [12] (fun i wr => ∃ j : Nat, j ≤ L.length ∧ i = .int .i64 j ∧ Hid ((L.zipIdx.take j).any (hitF rest dir L.length) = false) ∧ wr = w2) (fun i _ => L.length - (intOf i).toNat)
  case atStart => exact ⟨0, Nat.zero_le _, rfl, rfl, rfl⟩
  case round =>
  obtain ⟨j, hj, rfl, HJ, rfl⟩ := hrel
  by_cases hltj : j < L.length
  case neg =>
    have hkk : j = L.length := by omega
    subst hkk
    have HNX : Hid ((pats.take (k + 1)).any (ign1 L) = false) := ign_snoc HPE.out HN.out (by rw [HI1.out]; exact hit_all HJ.out)
    go_wp2_with fail
    go_roundw
    case rel => exact ⟨k + 1, by omega, by go_num, HNX, HX2⟩
    case measure => simp [intOf]; omega
  obtain ⟨x, hxe⟩ : ∃ x, L[j]? = some x := ⟨_, List.getElem?_eq_getElem hltj⟩
  have hxl := HL64.out x (List.mem_of_getElem? hxe)
  obtain ⟨_, _, he, -, -, -, hg⟩ := (IsStrs.ext HVQ.out HX2.out).get
  cases he
  obtain ⟨bq, oq, rfl, hc⟩ := hg j hltj
  have z1 := hc j hltj
  rw [show L.getD j [] = x by rw [List.getD_eq_getElem?_getD, hxe]; rfl] at z1
  obtain ⟨tk, htk⟩ : ∃ b, takesB rest x = b := ⟨_, rfl⟩
  have HTK : Hid _ := htk
  have HTR : Hid (takesR (f, st, b) x = tk) := by unfold Hid; rw [← HTS.out]; exact htk
  have HXE : Hid _ := hxe
  clear hg hc htk hxe
  by_cases hds : dir = true ∧ j + 1 = L.length
  · obtain ⟨hd, hjl⟩ := hds
    subst hd
    have HJX : Hid ((L.zipIdx.take (j + 1)).any (hitF rest true L.length) = false) := by
      unfold Hid
      rw [hit_snoc HXE.out, HJ.out]
      unfold hitF
      simp only [HTK.out, hjl]
      simp
    have hb : ¬ ((j : Int) < (L.length : Int) - 1) := by omega
    have hb2 : decide ((j : Int) < (L.length : Int) - 1) = false := by rw [decide_eq_false_iff_not]; exact hb
    clear hjl
    go_wp2_with fail
    go_roundw
    case rel => exact ⟨j + 1, by omega, by go_num, HJX, trivial⟩
    case measure => simp [intOf]; omega
  have HDS : Hid (¬ (dir = true ∧ j + 1 = L.length)) := hds
  have hb : dir = true → ((j : Int) < (L.length : Int) - 1) := fun e => by
    have : ¬ j + 1 = L.length := fun h => hds ⟨e, h⟩
    omega
  clear hds
  cases dir with
  | false =>
    go_wp2_with fail
    go_at_call 87
    refine (rtakes_any f st b x _ (by omega) (by omega) (by omega)).mono ?_
    rw [HTR.out]
    rintro e w4 ⟨rfl, rfl⟩
    cases tk with
    | false =>
      have HJX : Hid ((L.zipIdx.take (j + 1)).any (hitF rest false L.length) = false) := by
        unfold Hid
        rw [hit_snoc HXE.out, HJ.out]
        unfold hitF
        simp only [HTK.out]
        rfl
      go_wp2_with fail
      go_roundw
      case rel => exact ⟨j + 1, by omega, by go_num, HJX, trivial⟩
      case measure => simp [intOf]; omega
    | true =>
      have HR : Hid (pats.any (ign1 L) = true) := ign_at HPE.out (by
        rw [HI1.out]
        refine hit_at HXE.out ?_
        unfold hitF
        simp only [HTK.out, Bool.true_and, Bool.not_eq_true', Bool.and_eq_false_iff, decide_eq_false_iff_not]
        exact .inl trivial)
      have HXF : Hid _ := HX1.out.trans HX2.out
      go_wp2
      go_ret
      exact ⟨by rw [HR.out]; rfl, HXF.out⟩
  | true =>
    have hb1 := hb rfl
    go_wp2_with fail
    go_at_call 87
    refine (rtakes_any f st b x _ (by omega) (by omega) (by omega)).mono ?_
    rw [HTR.out]
    rintro e w4 ⟨rfl, rfl⟩
    cases tk with
    | false =>
      have HJX : Hid ((L.zipIdx.take (j + 1)).any (hitF rest true L.length) = false) := by
        unfold Hid
        rw [hit_snoc HXE.out, HJ.out]
        unfold hitF
        simp only [HTK.out]
        rfl
      go_wp2_with fail
      go_roundw
      case rel => exact ⟨j + 1, by omega, by go_num, HJX, trivial⟩
      case measure => simp [intOf]; omega
    | true =>
      have HR : Hid (pats.any (ign1 L) = true) := ign_at HPE.out (by
        rw [HI1.out]
        refine hit_at HXE.out ?_
        unfold hitF
        simp only [HTK.out, Bool.true_and, Bool.not_eq_true', Bool.and_eq_false_iff, decide_eq_false_iff_not]
        intro e
        omega)
      have HXF : Hid _ := HX1.out.trans HX2.out
      go_wp2
      go_ret
      exact ⟨by rw [HR.out]; rfl, HXF.out⟩

end Go.Proofs.YtdhgmpibjneplaaGreatDoor

/-! obj.ID, marlaw13.patterns and tells: what they answer. Conditions: as each theorem states. -/
namespace Go.Proofs.YtdhgmpibjneplaaGreatDoor
open Go Go.RowKit Go.Sort
set_option linter.unusedVariables false
set_option linter.unusedSimpArgs false
set_option linter.unusedSectionVars false

set_option maxRecDepth 100000 in
set_option maxHeartbeats 4000000 in
theorem oid_any (a1 : Option Addr) (c1 : Nat) (d : B8) (w : World) (hS : EnvS w) (hv : IsBytes w (.slice a1 d.length c1) d) (hd : d.length ≤ 20000) :
    Calls Tryz.prog 48 #[obV (blobO d) (.slice a1 d.length c1) (.slice none 0 0) (.slice none 0 0)] w fun e w' => e = .returned (.tuple #[S8 (hashB d), .int .i64 0]) ∧ Ext w w' := by
  obtain ⟨wa, hwa⟩ : ∃ wa, wa = w.alloc (.cells #[.int .i64 (blobO d).kind, .slice a1 d.length c1, .slice none 0 0, S8 (blobO d).tree, .slice none 0 0, .int .i64 (blobO d).stamp, .int .i64 (blobO d).author, S8 (blobO d).msg] 72) := ⟨_, rfl⟩
  have hxa : Ext w wa := by rw [hwa]; exact (Ext.refl _).alloc _
  have hsm : ObSmall (blobO d) := ⟨(fun x hx => by cases hx), (fun x hx => by cases hx), Nat.zero_le _, Nat.zero_le _⟩
  have hob : IsOb wa (obV (blobO d) (.slice a1 d.length c1) (.slice none 0 0) (.slice none 0 0)) (blobO d) := ⟨_, _, _, rfl, IsBytes.ext hv hxa, Row.nil _, IsStrs.nil _⟩
  have hoe := oEnc_any _ (blobO d) wa hob hsm
  rw [blob_enc hd] at hoe
  have HOE : Hid _ := hoe
  have HS : Hid (EnvS w) := hS
  have HXA : Hid (Ext w wa) := hxa
  have HWA : Hid _ := hwa
  have hba : wa.heap[w.heap.size]? = some (.cells #[.int .i64 (blobO d).kind, .slice a1 d.length c1, .slice none 0 0, S8 (blobO d).tree, .slice none 0 0, .int .i64 (blobO d).stamp, .int .i64 (blobO d).author, S8 (blobO d).msg] 72 (0, 0)) := by rw [hwa]; exact alloc_at _ _
  have HBA : Hid _ := hba
  have HDL : Hid (d.length ≤ 20000) := hd
  unfold obV at HOE
  obtain ⟨c0, c2, c3, c4, c5, c6, c7, c8⟩ := cellsAt8 hba
  clear hv hxa hoe hS hsm hba hwa hob hd
  unfold obV
  go_enter Tryz.func48, Tryz.ntmps48
  go_upto_region 1 with fail
  rw [← HWA.out]
  go_wp2_with fail
  go_at_call 71
  refine Calls.mono HOE.out ?_
  rintro e w1 ⟨⟨u, rfl, hu⟩, hx1⟩
  obtain ⟨a9, c9, rfl, hb9⟩ : ∃ a9 c9, u = .slice a9 (d.length + 1) c9 ∧ IsBytes w1 u (1 :: d) := by
    have h9 : IsBytes w1 u (1 :: d) := Row.of_owns hu (by have := HDL.out; simp; omega)
    obtain ⟨a, c, he, -⟩ := id h9
    exact ⟨a, c, he, h9⟩
  have HB9 : Hid _ := hb9
  have HX1 : Hid (Ext w w1) := HXA.out.trans hx1
  clear hx1 hu hb9 HOE c0 c2 c3 c4 c5 c6 c7 c8
  go_wp2_with fail
  go_at_call 63
  refine (id_sha _ _ w1 (EnvS.ext HS.out HX1.out) HB9.out (by have := HDL.out; simp; omega)).mono ?_
  rintro e w2 ⟨rfl, hx2⟩
  have HX2 : Hid (Ext w w2) := HX1.out.trans hx2
  clear hx2
  go_wp2
  go_ret2
  exact ⟨rfl, HX2.out⟩
set_option maxRecDepth 100000 in
theorem patterns_any (v : Value) (pats : List B8) (w : World) (hv : IsStrs w v pats) :
    Calls Tryz.prog 10 #[v] w fun e w' => ∃ b, e = .returned (.bool b) ∧ w' = w ∧ (b = true → pats.length ≤ 20 ∧ ∀ p ∈ pats, p.length ≤ 400) := by
  obtain ⟨a, cap, rfl, l1, l2, l3, hg⟩ := hv.get
  have HG : Hid _ := hg
  clear hv hg
  go_enter Tryz.func10, Tryz.ntmps10
  go_wp2_with fail
  go_loopw [3] (fun i wr => ∃ k : Nat, k ≤ pats.length ∧ k ≤ 20 ∧ i = .int .i64 k ∧ wr = w ∧ Hid (∀ j, j < k → (pats.getD j []).length ≤ 400)) (fun i _ => pats.length - (intOf i).toNat)
  case atStart => exact ⟨0, Nat.zero_le _, Nat.zero_le _, rfl, rfl, fun j hj => absurd hj (Nat.not_lt_zero _)⟩
  case round =>
  obtain ⟨k, hk, hk20, rfl, rfl, HJ⟩ := hrel
  by_cases hlt : k < pats.length
  case neg =>
    have HR : Hid (∀ p ∈ pats, p.length ≤ 400) := fun p hp => by
      obtain ⟨j, hj, rfl⟩ := List.mem_iff_getElem.1 hp
      have := HJ.out j (by omega)
      rwa [List.getD_eq_getElem?_getD, List.getElem?_eq_getElem hj] at this
    have hl20 : pats.length ≤ 20 := by omega
    have hl21 : Hid (decide ((pats.length : Int) ≤ 20) = true) := by rw [Hid, decide_eq_true_eq]; omega
    go_wp2
    go_ret
    exact ⟨true, by rw [← hl21.out]; rfl, rfl, fun _ => ⟨hl20, HR.out⟩⟩
  by_cases h20 : k < 20
  case neg =>
    have hz : k = 20 := by omega
    subst hz
    have hl9 : ¬ (pats.length : Int) ≤ 20 := by omega
    go_wp2
    go_ret
    first | exact ⟨false, rfl, rfl, fun h => absurd h (by decide)⟩ | exact .inl ⟨rfl, rfl⟩
  obtain ⟨bb, oo, rfl, hc⟩ := HG.out k hlt
  have y1 := hc k hlt
  obtain ⟨p, hpe⟩ : ∃ p, pats.getD k [] = p := ⟨_, rfl⟩
  have HPE : Hid _ := hpe
  rw [hpe] at y1
  clear hc hpe
  by_cases hpl : p.length ≤ 400
  · have hpl2 : ¬ (400 : Int) < (p.length : Int) := by omega
    have HJX : Hid (∀ j, j < k + 1 → (pats.getD j []).length ≤ 400) := fun j hj => by
      by_cases h : j = k
      · rw [h, HPE.out]; exact hpl
      · exact HJ.out j (by omega)
    go_wp2_with fail
    go_roundw
    case rel => exact ⟨k + 1, by omega, by omega, by go_num, trivial, HJX⟩
    case measure => simp [intOf]; omega
  · have hpl2 : (400 : Int) < (p.length : Int) := by omega
    go_wp2
    go_ret
    first | exact ⟨false, rfl, rfl, fun h => absurd h (by decide)⟩ | exact .inl ⟨rfl, rfl⟩

end Go.Proofs.YtdhgmpibjneplaaGreatDoor

/-! marlaw13.tells: rows that tell what stands there pass. Conditions: as each theorem states. -/
namespace Go.Proofs.YtdhgmpibjneplaaGreatDoor
open Go Go.RowKit Go.Sort
set_option linter.unusedVariables false
set_option linter.unusedSimpArgs false
set_option linter.unusedSectionVars false

def upto (pats : List B8) (L : List B8) (q : Nat) : List B8 := takenL pats ((L.take q).filter (isUnder wP))
theorem upto_len (pats L : List B8) (q : Nat) : (upto pats L q).length ≤ q := by
  unfold upto takenL
  refine Nat.le_trans (List.length_filter_le _ _) (Nat.le_trans (List.length_filter_le _ _) ?_)
  rw [List.length_take]; omega
theorem upto_step {pats L : List B8} {q : Nat} {p : B8} (h : L[q]? = some p) : upto pats L (q + 1) = upto pats L q ++ (if isUnder wP p = true ∧ ignB pats (cutW p) = false then [p] else []) := by
  unfold upto takenL
  rw [List.take_add_one, h, List.filter_append, List.filter_append]
  congr 1
  cases h1 : isUnder wP p <;> cases h2 : ignB pats (cutW p) <;> simp [h1, h2]
theorem upto_pre {pats L : List B8} (q : Nat) : ∃ r, upto pats L L.length = upto pats L q ++ r := by
  refine ⟨takenL pats ((L.drop q).filter (isUnder wP)), ?_⟩
  unfold upto takenL
  rw [List.take_length, ← List.filter_append, ← List.filter_append, List.take_append_drop]
theorem told_at {m : Fs} {pats : List B8} {rows : List Rw} (h : Told m pats rows) {q : Nat} {p : B8} (hp : (pathsL m.now)[q]? = some p) (h1 : isUnder wP p = true) (h2 : ignB pats (cutW p) = false) : rows[(upto pats (pathsL m.now) q).length]? = some (rowOf m.now p) := by
  obtain ⟨r, hr⟩ := upto_pre (pats := pats) (L := pathsL m.now) (q + 1)
  rw [upto_step hp, if_pos ⟨h1, h2⟩] at hr
  have he : rows = (upto pats (pathsL m.now) (pathsL m.now).length).map (rowOf m.now) := by rw [h.eq]; unfold upto; rw [List.take_length]
  rw [he, hr]
  simp
theorem told_len {m : Fs} {pats : List B8} {rows : List Rw} (h : Told m pats rows) : rows.length = (upto pats (pathsL m.now) (pathsL m.now).length).length := by
  rw [h.eq]; unfold upto; rw [List.take_length, List.length_map]
theorem rowOf_there {F : Files} {p : B8} {f : Fi} (h : look F p = some f) : rowOf F p = ⟨cutW p, f.mode, hashB f.data⟩ := by unfold rowOf; rw [h]
theorem look_paths {F : Files} {p : B8} (h : p ∈ pathsL F) : ∃ f, look F p = some f := Option.isSome_iff_exists.1 (look_path.2 h)
theorem ext_cut {p : B8} (h : isUnder wP p = true) : 2 ≤ p.length ∧ (⟨p.toArray⟩ : ByteArray).extract 2 p.length = ⟨(cutW p).toArray⟩ := by
  obtain ⟨h1, h2⟩ := cut_w h
  have hl : 2 ≤ p.length := by rw [← h1]; unfold dirW; simp
  refine ⟨hl, ?_⟩
  rw [extract_list _ 2 p.length hl (by simp [ByteArray.size]), h2]
  show (⟨((p.drop 2).take (p.length - 2)).toArray⟩ : ByteArray) = _
  rw [List.take_of_length_le (by rw [List.length_drop]; exact Nat.le_refl _)]
theorem getO_calm {m : Fs} (h : Ca m) (id : B8) : ∃ c, (getO m id).1 = { m with calls := c } := by
  unfold getO
  split
  · exact ⟨m.calls, rfl⟩
  · split
    · exact ⟨_, read_calm h _⟩
    · split
      · exact ⟨_, read_calm h _⟩
      · exact ⟨_, read_calm h _⟩

variable [Inhabited BaseW] [KW : Inhabited KeptW]
set_option maxRecDepth 100000 in
set_option maxHeartbeats 16000000 in
theorem tells_any (hkp : ∀ k, keptW k = none) {w0 w : World} {S O : Nat → Prop} {f : Value} {gs gc : Nat} {m : Fs} {n : Int} {k base : Nat} (vr vp : Value) (rows : List Rw) (pats : List B8) (h : St w0 S O w f gs gc m n) (hE : Env w0) (hS : EnvS w0) (hg : Good k m) (hk : k + rows.length ≤ 79000) (hn0 : 0 ≤ n) (hn1 : n + rows.length ≤ 90000)
    (hca : Ca m) (ht : Told m pats rows) (hr : w.ownsRow base 62 3 vr rows.length (rows.flatMap rwC)) (hro : ∀ j, vr.ownBlock = some j → ¬ O j ∧ j ≠ gs ∧ j ≠ gc) (hpv : IsStrs w0 vp pats) (hpl : ∀ p ∈ pats, p.length ≤ 1000000) :
    Calls Tryz.prog 15 #[f, .pointer (some ⟨gs, 0, none⟩), vr, vp] w fun e w' => ∃ (O' : Nat → Prop) (n' : Int) (c : Nat), e = .returned (.bool true) ∧ (n ≤ n' ∧ n' ≤ n + rows.length) ∧ St w0 S O' w' f gs gc { m with calls := c } n' ∧ Good (k + rows.length) { m with calls := c } ∧ FrX (fun j => j = gs ∨ j = gc) O O' w w' := by
  obtain ⟨g, rfl⟩ : ∃ g, f = .pointer (some ⟨g, 0, none⟩) := by
    obtain ⟨g, gm, gd, vp, vl, vu, L, c0, hpe, -⟩ := h.one.fs
    exact ⟨g, hpe⟩
  have hplen : (pathsL m.now).length = m.now.length := by unfold pathsL; rw [List.length_map]
  have hpb : ∀ p ∈ pathsL m.now, pathB p = true ∧ p.length ≤ 200 := fun p hp => by
    obtain ⟨f, hf⟩ := look_paths hp
    have h1 : pathB p = true := (hca.ok.dnow _ (look_mem hf)).1
    refine ⟨h1, ?_⟩
    unfold pathB at h1
    simp only [Bool.and_eq_true, decide_eq_true_eq] at h1
    exact h1.1
  have hml : m.now.length ≤ 10000000 := by have h1 := hg.ok.lnow; have h2 := hg.time; omega
  have hps := paths_any h.one.fs hml
  have HTL : Hid _ := told_len ht
  have HTA : Hid (∀ q p, (pathsL m.now)[q]? = some p → isUnder wP p = true → ignB pats (cutW p) = false → rows[(upto pats (pathsL m.now) q).length]? = some (rowOf m.now p)) := fun q p h1 h2 h3 => told_at ht h1 h2 h3
  have HLK : Hid (∀ p ∈ pathsL m.now, ∃ f, look m.now p = some f) := fun p hp => look_paths hp
  have HPB : Hid _ := hpb
  have HUS : Hid (∀ q p, (pathsL m.now)[q]? = some p → upto pats (pathsL m.now) (q + 1) = upto pats (pathsL m.now) q ++ (if isUnder wP p = true ∧ ignB pats (cutW p) = false then [p] else [])) := fun q p hq => upto_step hq
  have HUL : Hid (∀ q, (upto pats (pathsL m.now) q).length ≤ q) := fun q => upto_len _ _ q
  have hrl : rows.length ≤ (pathsL m.now).length := by rw [HTL.out]; exact HUL.out _
  have HKL : Hid (∀ q, (upto pats (pathsL m.now) q).length ≤ rows.length) := fun q => by
    obtain ⟨r, hr9⟩ := upto_pre (pats := pats) (L := pathsL m.now) q
    rw [HTL.out, hr9, List.length_append]; omega
  rw [← hplen] at hps hml
  obtain ⟨L, hL⟩ : ∃ L, pathsL m.now = L := ⟨_, rfl⟩
  rw [hL] at hps HTL HTA HLK HPB HUS HUL HKL hml hrl
  have HPS : Hid _ := hps
  have H : Hid (St w0 S O w (.pointer (some ⟨g, 0, none⟩)) gs gc m n) := h
  have HE : Hid (Env w0) := hE
  have HS : Hid (EnvS w0) := hS
  have HG : Hid (Good k m) := hg
  have HCA : Hid (Ca m) := hca
  have HT : Hid (Told m pats rows) := ht
  have HOW : Hid _ := hr
  have HRO : Hid _ := hro
  have HPV : Hid _ := hpv
  have HPL : Hid (∀ p ∈ pats, p.length ≤ 1000000) := hpl
  have HKP : Hid (∀ k, keptW k = none) := hkp
  obtain ⟨ra, rc, rfl, -⟩ := Row.of_owns hr (by omega)
  obtain ⟨pa, pc, rfl, -⟩ := hpv.get
  clear h hE hS hg hca ht hr hro hpv hpl hkp hps hplen hpb hL
  go_enter Tryz.func15, Tryz.ntmps15
  go_wp2_with fail
  go_at_call 45
  refine Calls.mono HPS.out ?_
  rintro e w1 ⟨⟨v, rfl, hv⟩, hx1⟩
  have hv1 : IsStrs w1 v L := Row.of_owns hv (by omega)
  have hvo : ∀ j, v.ownBlock = some j → w.heap.size ≤ j ∧ j < w1.heap.size := fun j hj => hv.lt j hj
  obtain ⟨va, vc, rfl, l1, l2, l3, -⟩ := hv1.get
  have HV : Hid (IsStrs w1 (.slice va L.length vc) L) := hv1
  have HVO : Hid (∀ j, (Value.slice va L.length vc).ownBlock = some j → w.heap.size ≤ j ∧ j < w1.heap.size) := hvo
  have HX1 : Hid (Ext w w1) := hx1
  clear hv hv1 hvo hx1 HPS
  have H1 : Hid (St w0 S O w1 (.pointer (some ⟨g, 0, none⟩)) gs gc { m with calls := m.calls } n) := H.out.more HX1.out
  have HU0 : Hid ((upto pats L 0).length = 0) := Nat.le_zero.1 (HUL.out 0)
  go_wp2_with fail
  go_loopw [10, 11] (fun kv i wz => ∃ (q kk : Nat) (O1 : Nat → Prop) (n1 : Int) (c : Nat), q ≤ L.length ∧ i = .int .i64 q ∧ kv = .int .i64 kk ∧ Hid (kk = (upto pats L q).length) ∧ Hid (St w0 S O1 wz (.pointer (some ⟨g, 0, none⟩)) gs gc { m with calls := c } n1) ∧ (n ≤ n1 ∧ n1 ≤ n + kk) ∧ Hid (Good (k + kk) { m with calls := c }) ∧ Hid (FrX (fun j => j = gs ∨ j = gc) O O1 w1 wz)) (fun _ i _ => L.length - (intOf i).toNat)
  case atStart => exact ⟨0, 0, O, n, m.calls, Nat.zero_le _, rfl, rfl, HU0.out.symm, H1, ⟨Int.le_refl _, by omega⟩, HG, FrX.ext (Ext.refl _)⟩
  case round =>
  obtain ⟨q, kk, O1, n1, c, hq, rfl, rfl, HKK, HST, ⟨hn2, hn3⟩, HGD, HFR⟩ := hrel
  have hkk : kk ≤ rows.length := by rw [HKK.out]; exact HKL.out q
  by_cases hlt : q < L.length
  case neg =>
    have hqq : q = L.length := by omega
    subst hqq
    have hke : kk = rows.length := HKK.out.trans HTL.out.symm
    subst hke
    go_wp2
    go_ret
    exact ⟨O1, n1, c, rfl, ⟨hn2, hn3⟩, HST.out, HGD.out, (FrX.ext HX1.out).trans HFR.out⟩
  obtain ⟨p, hpe⟩ : ∃ p, L[q]? = some p := ⟨_, List.getElem?_eq_getElem hlt⟩
  obtain ⟨hpb1, hpl2⟩ := HPB.out p (List.mem_of_getElem? hpe)
  have hls : IsStrs wr (.slice va L.length vc) L := by
    refine row_same HV.out (fun j hj => ?_)
    obtain ⟨j1, j2⟩ := HVO.out j hj
    have hlt1 := H.out.lt
    exact (HFR.out j j2 (fun ho => by have := (H.out.one.lo j ho).2; omega) (by omega)).1
  obtain ⟨_, _, he, -, -, -, hga⟩ := hls.get
  cases he
  obtain ⟨bb, oo, rfl, hc⟩ := hga q hlt
  have y1 := hc q hlt
  rw [show L.getD q [] = p by rw [List.getD_eq_getElem?_getD, hpe]; rfl] at y1
  have Y1 : Hid _ := y1
  have hcl := cutW_len p
  have HPE : Hid _ := hpe
  obtain ⟨u, hu⟩ : ∃ u, isUnder wP p = u := ⟨_, rfl⟩
  have HU : Hid _ := hu
  have hun := runder_any wP p wr (by decide) (by omega)
  rw [show pathB wP = true by decide, hpb1, hu] at hun
  have HUN : Hid _ := hun
  clear hls hga hc hpe hu hun hpb1
  go_wp2_with fail
  go_at_call 29
  refine Calls.mono HUN.out ?_
  rintro e w2 ⟨rfl, hx2⟩
  have HX2 : Hid (Ext wr w2) := hx2
  clear HUN hx2 y1
  have y1 := HX2.out.cell Y1.out
  have HST2 : Hid (St w0 S O1 w2 (.pointer (some ⟨g, 0, none⟩)) gs gc { m with calls := c } n1) := HST.out.more HX2.out
  have HFR2 : Hid (FrX (fun j => j = gs ∨ j = gc) O O1 w1 w2) := HFR.out.trans (FrX.ext HX2.out)
  cases u with
  | false =>
    have HKX : Hid (kk = (upto pats L (q + 1)).length) := by
      unfold Hid
      rw [HUS.out q p HPE.out, if_neg (by rw [HU.out]; simp), List.append_nil]
      exact HKK.out
    have HGX : Hid (Good (k + kk) { m with calls := c }) := HGD.out
    go_wp2_with fail
    go_roundw
    case rel => exact ⟨q + 1, kk, O1, n1, c, by omega, by go_num, rfl, HKX, HST2, ⟨hn2, by omega⟩, HGX, HFR2⟩
    case measure => simp [intOf]; omega
  | true =>
  obtain ⟨h2l, hex⟩ := ext_cut HU.out
  have HEX : Hid _ := hex
  obtain ⟨ib, hib⟩ : ∃ b, ignB pats (cutW p) = b := ⟨_, rfl⟩
  have HIB : Hid _ := hib
  have hig := rign_any (.slice pa pats.length pc) pats (cutW p) w2 (IsStrs.ext HPV.out HST2.out.one.ext) HPL.out (by omega)
  rw [hib] at hig
  have HIG : Hid _ := hig
  clear hex hib hig
  go_wp2_with fail
  go_at_call 46
  rw [HEX.out]
  refine Calls.mono HIG.out ?_
  rintro e w3 ⟨rfl, hx3⟩
  have HX3 : Hid (Ext w2 w3) := hx3
  clear HIG hx3 y1
  have y1 := HX3.out.cell (HX2.out.cell Y1.out)
  have HST3 : Hid (St w0 S O1 w3 (.pointer (some ⟨g, 0, none⟩)) gs gc { m with calls := c } n1) := HST2.out.more HX3.out
  have HFR3 : Hid (FrX (fun j => j = gs ∨ j = gc) O O1 w1 w3) := HFR2.out.trans (FrX.ext HX3.out)
  cases ib with
  | true =>
    have HKX : Hid (kk = (upto pats L (q + 1)).length) := by
      unfold Hid
      rw [HUS.out q p HPE.out, if_neg (by rw [HIB.out]; simp), List.append_nil]
      exact HKK.out
    have HGX : Hid (Good (k + kk) { m with calls := c }) := HGD.out
    go_wp2_with fail
    go_roundw
    case rel => exact ⟨q + 1, kk, O1, n1, c, by omega, by go_num, rfl, HKX, HST3, ⟨hn2, by omega⟩, HGX, HFR3⟩
    case measure => simp [intOf]; omega
  | false =>
  obtain ⟨fi, hfi⟩ := HLK.out p (List.mem_of_getElem? HPE.out)
  have hro := HTA.out q p HPE.out HU.out HIB.out
  rw [rowOf_there hfi, ← HKK.out] at hro
  have HROW : Hid (rows[kk]? = some ⟨cutW p, fi.mode, hashB fi.data⟩) := hro
  have HKX : Hid (kk + 1 = (upto pats L (q + 1)).length) := by
    unfold Hid
    rw [HUS.out q p HPE.out, if_pos ⟨HU.out, HIB.out⟩, List.length_append, ← HKK.out]
    rfl
  have hdl : fi.data.length ≤ 20000 := (HCA.out.ok.dnow _ (look_mem hfi)).2
  have hpk : peekM { m with calls := c } p = (fi, true) := by
    unfold peekM
    show (match look m.now p with | some f => (f, true) | none => (zeroFi, false)) = _
    rw [hfi]
  have hpc := peek_any p HST3.out.one.fs (by omega)
  rw [hpk] at hpc
  have HPC : Hid _ := hpc
  have HFI : Hid _ := hfi
  clear hro hfi hpk hpc
  try dsimp only at HPC
  go_wp2_with fail
  go_at_call 47
  refine Calls.mono HPC.out ?_
  rintro e w4 ⟨⟨v4, rfl, hd4⟩, hx4⟩
  obtain ⟨z1, z2, rfl, -⟩ := id hd4.bytes
  have HB4 : Hid (IsBytes w4 (.slice z1 fi.data.length z2) fi.data) := hd4.bytes
  have HX4 : Hid (Ext w3 w4) := hx4
  clear hd4 hx4 HPC y1
  go_upto_region 8 with (refine wpList_store_row rfl 96 (.tmp 12) (.tmp 46) rfl _ #[.int .i64 fi.mode, .slice z1 fi.data.length z2, .int .i64 fi.time] rfl rfl 96 _ (alloc_at _ _) size_fi rfl (by simp [Value.oneCell']) ?_)
  obtain ⟨w5, hw5⟩ : ∃ w5, w5 = (w4.alloc (.cells #[.int .i64 0, .slice none 0 0, .int .i64 0] 96)).setRow w4.heap.size #[.int .i64 fi.mode, .slice z1 fi.data.length z2, .int .i64 fi.time] := ⟨_, rfl⟩
  rw [← hw5]
  have hx5 : Ext w4 w5 := by rw [hw5]; exact ((Ext.refl w4).alloc _).setRow _ _ (Nat.le_refl _)
  have hb5 : w5.heap[w4.heap.size]? = some (.cells #[.int .i64 fi.mode, .slice z1 fi.data.length z2, .int .i64 fi.time] 96 (0, 0)) := by rw [hw5]; exact setRow_heap _ _ _ _ _ _ (alloc_at _ _)
  have HX5 : Hid (Ext w3 w5) := HX4.out.trans hx5
  have HB5 : Hid _ := hb5
  have HD5 : Hid (IsBytes w5 (.slice z1 fi.data.length z2) fi.data) := IsBytes.ext HB4.out hx5
  have HST5 : Hid (St w0 S O1 w5 (.pointer (some ⟨g, 0, none⟩)) gs gc { m with calls := c } n1) := HST3.out.more HX5.out
  have e0 : w5.cell? ⟨w4.heap.size, 0, none⟩ = some (.int .i64 fi.mode) := (cell_of_row _ _ 0 _ _ _ hb5).trans rfl
  have e1 : w5.cell? ⟨w4.heap.size, 1, none⟩ = some (.slice z1 fi.data.length z2) := (cell_of_row _ _ 1 _ _ _ hb5).trans rfl
  have hid := oid_any z1 z2 fi.data w5 (EnvS.ext HS.out HST5.out.one.ext) HD5.out hdl
  unfold obV at hid
  have HIDC : Hid _ := hid
  have E0 : Hid _ := e0
  obtain ⟨gk, hgk⟩ : ∃ gk, w4.heap.size = gk := ⟨_, rfl⟩
  rw [hgk] at E0 e1 ⊢
  clear hw5 hx5 hb5 hid e0 HX4 hgk
  go_wp2_with fail
  go_at_call 48
  refine Calls.mono HIDC.out ?_
  rintro e w6 ⟨rfl, hx6⟩
  have HX6 : Hid (Ext w3 w6) := HX5.out.trans hx6
  have e0 := hx6.cell E0.out
  clear hx6 HIDC e1
  have HST6 : Hid (St w0 S O1 w6 (.pointer (some ⟨g, 0, none⟩)) gs gc { m with calls := c } n1) := HST3.out.more HX6.out
  have HFR6 : Hid (FrX (fun j => j = gs ∨ j = gc) O O1 w1 w6) := HFR3.out.trans (FrX.ext HX6.out)
  have y6 := HX6.out.cell (HX3.out.cell (HX2.out.cell Y1.out))
  have hrw6 : IsRws w6 (.slice ra rows.length rc) rows := by
    refine row_same (IsRws.ext (Row.of_owns HOW.out (by omega)) HX1.out) (fun j hj => ?_)
    obtain ⟨j1, j2, j3⟩ := HRO.out j hj
    have := (World.ownsRow.lt HOW.out j hj).2
    exact (HFR6.out j (by have := HX1.out.size; omega) j1 (by omega)).1
  obtain ⟨_, _, he, -, -, -, hgr⟩ := hrw6.get
  cases he
  obtain ⟨rb, ro, rfl, r0, r1, r2⟩ := hgr kk _ HROW.out
  have hkl : kk < rows.length := (List.getElem?_eq_some_iff.1 HROW.out).1
  have r0 : w6.cell? ⟨rb, ro + kk * 3, none⟩ = some (S8 (cutW p)) := by rw [Nat.mul_comm kk 3]; exact r0
  have r1 : w6.cell? ⟨rb, ro + kk * 3 + 1, none⟩ = some (.int .i64 fi.mode) := by rw [Nat.mul_comm kk 3]; exact r1
  have r2 : w6.cell? ⟨rb, ro + kk * 3 + 1 + 1, none⟩ = some (S8 (hashB fi.data)) := by rw [Nat.mul_comm kk 3]; exact r2
  have HKR : Hid (¬ rows.length ≤ kk) := by unfold Hid; omega
  have HP2 : Hid ((2 : Int) ≤ (p.length : Int)) := by unfold Hid; omega
  clear hrw6 hgr
  have HEX9 : Hid (((⟨p.toArray⟩ : ByteArray).extract 2 p.length).toList = cutW p) := by unfold Hid; rw [HEX.out, Lib.toList_data]
  go_upto_region 9 with fail
  apply wp_region_mix 45 [.int .i64 0, .bool false, .bool false, .int .i64 kk, .slice (some ⟨rb, ro, none⟩) rows.length rc, .int .i64 rows.length, .bool false, .bool false, .bool false, .slice (some ⟨rb, ro, none⟩) rows.length rc, .int .i64 kk, _, _, S8 (cutW p), .slice (some ⟨bb, oo, none⟩) L.length vc, .int .i64 q, .pointer (some ⟨bb, oo + q, none⟩), S8 p, .string ((⟨p.toArray⟩ : ByteArray).extract 2 p.length), .bool false, .bool false, .bool false, .slice (some ⟨rb, ro, none⟩) rows.length rc, .int .i64 kk, _, _, _, .int .i64 fi.mode, .pointer (some ⟨gk, 0, none⟩), .int .i64 fi.mode, .bool false, .bool false, .bool false, .slice (some ⟨rb, ro, none⟩) rows.length rc, .int .i64 kk, _, _, _, S8 (hashB fi.data), S8 (hashB fi.data), .bool false, .bool false, .bool false, .pointer (some ⟨gs, 0, none⟩), S8 (hashB fi.data)] [none, none, none, none, none, none, none, none, none, none, none, none, none, none, none, none, none, none, none, none, none, none, none, none, none, none, none, none, none, none, none, none, none, none, none, none, none, none, none, none, none, none, none, none, none] [[], [0], [1], [2], [2], [2, 4], [2, 3, 5], [2, 6], [7], [8], [8], [8, 9, 10], [8, 11], [8, 12], [8], [8], [8, 14, 15], [8, 16], [8, 17], [8, 13, 18], [8, 19], [20], [21], [21], [21, 22, 23], [21, 24], [21, 25], [21, 26], [21], [21, 28], [21, 27, 29], [21, 30], [31], [32], [32], [32, 33, 34], [32, 35], [32, 36], [32, 37], [32], [32, 38, 39], [32, 40], [41], [42], [42]] (by kernel_rfl) (by kernel_rfl) (by simp [mixV])
  · trivial
  · simp (maxSteps := 1000000) only [List.take_succ_cons, List.take_zero, oblFrom, stepObl, fillFrom, Act.put, List.setIfInBounds_toArray, List.set_cons_zero, List.set_cons_succ, knows, getV, mixV, List.getD_cons_zero, List.getD_cons_succ, and_true, true_and, forall_const]
    refine ⟨?_, ?_, ?_, ?_, ?_, ?_, ?_, ?_, ?_, ?_, ?_, ?_, ?_, ?_, ?_, ?_, ?_, ?_, ?_, ?_, ?_, ?_, ?_, ?_, ?_, ?_, ?_, ?_, ?_, ?_, ?_, ?_, ?_, ?_, ?_, ?_, ?_, ?_, ?_, ?_, ?_, ?_, ?_, ?_, ?_⟩
    · intro xs wq hq R hR
      have f0 := hq.cell e0; have f1 := hq.cell y6; have f2 := hq.cell r0; have f3 := hq.cell r1; have f4 := hq.cell r2; have f5 := HEX9.out; have f6 := HP2.out
      go_simp
      exact hR _ _ (Ext.refl _) rfl
    · intro xs wq hq hk R hR
      have f0 := hq.cell e0; have f1 := hq.cell y6; have f2 := hq.cell r0; have f3 := hq.cell r1; have f4 := hq.cell r2; have f5 := HEX9.out; have f6 := HP2.out
      go_simp
      exact hR _ _ (Ext.refl _) rfl
    · intro xs wq hq hk R hR
      have f0 := hq.cell e0; have f1 := hq.cell y6; have f2 := hq.cell r0; have f3 := hq.cell r1; have f4 := hq.cell r2; have f5 := HEX9.out; have f6 := HP2.out
      go_simp
      exact hR _ _ (Ext.refl _) rfl
    · intro xs wq hq hk R hR
      have f0 := hq.cell e0; have f1 := hq.cell y6; have f2 := hq.cell r0; have f3 := hq.cell r1; have f4 := hq.cell r2; have f5 := HEX9.out; have f6 := HP2.out
      go_simp
      exact hR _ _ (Ext.refl _) rfl
    · intro xs wq hq hk R hR
      have f0 := hq.cell e0; have f1 := hq.cell y6; have f2 := hq.cell r0; have f3 := hq.cell r1; have f4 := hq.cell r2; have f5 := HEX9.out; have f6 := HP2.out
      go_simp
      exact hR _ _ (Ext.refl _) rfl
    · intro xs wq hq hk R hR
      obtain ⟨hk0, hk1⟩ := hk
      have f0 := hq.cell e0; have f1 := hq.cell y6; have f2 := hq.cell r0; have f3 := hq.cell r1; have f4 := hq.cell r2; have f5 := HEX9.out; have f6 := HP2.out
      go_simp
      exact hR _ _ (Ext.refl _) rfl
    · intro xs wq hq hk R hR
      obtain ⟨hk0, hk1, hk2⟩ := hk
      go_simp
      exact hR _ _ (Ext.refl _) (by rw [decide_eq_false HKR.out])
    · intro xs wq hq hk R hR
      obtain ⟨hk0, hk1⟩ := hk
      have f0 := hq.cell e0; have f1 := hq.cell y6; have f2 := hq.cell r0; have f3 := hq.cell r1; have f4 := hq.cell r2; have f5 := HEX9.out; have f6 := HP2.out
      go_simp
      exact hR _ _ (Ext.refl _) rfl
    · intro xs wq hq hk R hR
      have f0 := hq.cell e0; have f1 := hq.cell y6; have f2 := hq.cell r0; have f3 := hq.cell r1; have f4 := hq.cell r2; have f5 := HEX9.out; have f6 := HP2.out
      go_simp
      exact hR _ _ (Ext.refl _) rfl
    · intro xs wq hq hk R hR
      have f0 := hq.cell e0; have f1 := hq.cell y6; have f2 := hq.cell r0; have f3 := hq.cell r1; have f4 := hq.cell r2; have f5 := HEX9.out; have f6 := HP2.out
      go_simp
      exact hR _ _ (Ext.refl _) rfl
    · intro xs wq hq hk R hR
      have f0 := hq.cell e0; have f1 := hq.cell y6; have f2 := hq.cell r0; have f3 := hq.cell r1; have f4 := hq.cell r2; have f5 := HEX9.out; have f6 := HP2.out
      go_simp
      exact hR _ _ (Ext.refl _) rfl
    · intro xs wq hq hk R hR
      obtain ⟨hk0, hk1, hk2⟩ := hk
      have f0 := hq.cell e0; have f1 := hq.cell y6; have f2 := hq.cell r0; have f3 := hq.cell r1; have f4 := hq.cell r2; have f5 := HEX9.out; have f6 := HP2.out
      go_simp
      exact hR _ _ (Ext.refl _) rfl
    · intro xs wq hq hk R hR
      obtain ⟨hk0, hk1⟩ := hk
      have f0 := hq.cell e0; have f1 := hq.cell y6; have f2 := hq.cell r0; have f3 := hq.cell r1; have f4 := hq.cell r2; have f5 := HEX9.out; have f6 := HP2.out
      go_simp
      exact hR _ _ (Ext.refl _) rfl
    · intro xs wq hq hk R hR
      obtain ⟨hk0, hk1⟩ := hk
      have f0 := hq.cell e0; have f1 := hq.cell y6; have f2 := hq.cell r0; have f3 := hq.cell r1; have f4 := hq.cell r2; have f5 := HEX9.out; have f6 := HP2.out
      go_simp
      exact hR _ _ (Ext.refl _) rfl
    · intro xs wq hq hk R hR
      have f0 := hq.cell e0; have f1 := hq.cell y6; have f2 := hq.cell r0; have f3 := hq.cell r1; have f4 := hq.cell r2; have f5 := HEX9.out; have f6 := HP2.out
      go_simp
      exact hR _ _ (Ext.refl _) rfl
    · intro xs wq hq hk R hR
      have f0 := hq.cell e0; have f1 := hq.cell y6; have f2 := hq.cell r0; have f3 := hq.cell r1; have f4 := hq.cell r2; have f5 := HEX9.out; have f6 := HP2.out
      go_simp
      exact hR _ _ (Ext.refl _) rfl
    · intro xs wq hq hk R hR
      obtain ⟨hk0, hk1, hk2⟩ := hk
      have f0 := hq.cell e0; have f1 := hq.cell y6; have f2 := hq.cell r0; have f3 := hq.cell r1; have f4 := hq.cell r2; have f5 := HEX9.out; have f6 := HP2.out
      go_simp
      exact hR _ _ (Ext.refl _) rfl
    · intro xs wq hq hk R hR
      obtain ⟨hk0, hk1⟩ := hk
      have f0 := hq.cell e0; have f1 := hq.cell y6; have f2 := hq.cell r0; have f3 := hq.cell r1; have f4 := hq.cell r2; have f5 := HEX9.out; have f6 := HP2.out
      go_simp
      exact hR _ _ (Ext.refl _) rfl
    · intro xs wq hq hk R hR
      obtain ⟨hk0, hk1⟩ := hk
      have f0 := hq.cell e0; have f1 := hq.cell y6; have f2 := hq.cell r0; have f3 := hq.cell r1; have f4 := hq.cell r2; have f5 := HEX9.out; have f6 := HP2.out
      go_simp
      exact hR _ _ (Ext.refl _) rfl
    · intro xs wq hq hk R hR
      obtain ⟨hk0, hk1, hk2⟩ := hk
      have f0 := hq.cell e0; have f1 := hq.cell y6; have f2 := hq.cell r0; have f3 := hq.cell r1; have f4 := hq.cell r2; have f5 := HEX9.out; have f6 := HP2.out
      go_simp
      exact hR _ _ (Ext.refl _) rfl
    · intro xs wq hq hk R hR
      obtain ⟨hk0, hk1⟩ := hk
      have f0 := hq.cell e0; have f1 := hq.cell y6; have f2 := hq.cell r0; have f3 := hq.cell r1; have f4 := hq.cell r2; have f5 := HEX9.out; have f6 := HP2.out
      go_simp
      exact hR _ _ (Ext.refl _) rfl
    · intro xs wq hq hk R hR
      have f0 := hq.cell e0; have f1 := hq.cell y6; have f2 := hq.cell r0; have f3 := hq.cell r1; have f4 := hq.cell r2; have f5 := HEX9.out; have f6 := HP2.out
      go_simp
      exact hR _ _ (Ext.refl _) rfl
    · intro xs wq hq hk R hR
      have f0 := hq.cell e0; have f1 := hq.cell y6; have f2 := hq.cell r0; have f3 := hq.cell r1; have f4 := hq.cell r2; have f5 := HEX9.out; have f6 := HP2.out
      go_simp
      exact hR _ _ (Ext.refl _) rfl
    · intro xs wq hq hk R hR
      have f0 := hq.cell e0; have f1 := hq.cell y6; have f2 := hq.cell r0; have f3 := hq.cell r1; have f4 := hq.cell r2; have f5 := HEX9.out; have f6 := HP2.out
      go_simp
      exact hR _ _ (Ext.refl _) rfl
    · intro xs wq hq hk R hR
      obtain ⟨hk0, hk1, hk2⟩ := hk
      have f0 := hq.cell e0; have f1 := hq.cell y6; have f2 := hq.cell r0; have f3 := hq.cell r1; have f4 := hq.cell r2; have f5 := HEX9.out; have f6 := HP2.out
      go_simp
      exact hR _ _ (Ext.refl _) rfl
    · intro xs wq hq hk R hR
      obtain ⟨hk0, hk1⟩ := hk
      have f0 := hq.cell e0; have f1 := hq.cell y6; have f2 := hq.cell r0; have f3 := hq.cell r1; have f4 := hq.cell r2; have f5 := HEX9.out; have f6 := HP2.out
      go_simp
      exact hR _ _ (Ext.refl _) rfl
    · intro xs wq hq hk R hR
      obtain ⟨hk0, hk1⟩ := hk
      have f0 := hq.cell e0; have f1 := hq.cell y6; have f2 := hq.cell r0; have f3 := hq.cell r1; have f4 := hq.cell r2; have f5 := HEX9.out; have f6 := HP2.out
      go_simp
      exact hR _ _ (Ext.refl _) rfl
    · intro xs wq hq hk R hR
      obtain ⟨hk0, hk1⟩ := hk
      have f0 := hq.cell e0; have f1 := hq.cell y6; have f2 := hq.cell r0; have f3 := hq.cell r1; have f4 := hq.cell r2; have f5 := HEX9.out; have f6 := HP2.out
      go_simp
      exact hR _ _ (Ext.refl _) rfl
    · intro xs wq hq hk R hR
      have f0 := hq.cell e0; have f1 := hq.cell y6; have f2 := hq.cell r0; have f3 := hq.cell r1; have f4 := hq.cell r2; have f5 := HEX9.out; have f6 := HP2.out
      go_simp
      exact hR _ _ (Ext.refl _) rfl
    · intro xs wq hq hk R hR
      obtain ⟨hk0, hk1⟩ := hk
      have f0 := hq.cell e0; have f1 := hq.cell y6; have f2 := hq.cell r0; have f3 := hq.cell r1; have f4 := hq.cell r2; have f5 := HEX9.out; have f6 := HP2.out
      go_simp
      exact hR _ _ (Ext.refl _) rfl
    · intro xs wq hq hk R hR
      obtain ⟨hk0, hk1, hk2⟩ := hk
      have f0 := hq.cell e0; have f1 := hq.cell y6; have f2 := hq.cell r0; have f3 := hq.cell r1; have f4 := hq.cell r2; have f5 := HEX9.out; have f6 := HP2.out
      go_simp
      exact hR _ _ (Ext.refl _) rfl
    · intro xs wq hq hk R hR
      obtain ⟨hk0, hk1⟩ := hk
      have f0 := hq.cell e0; have f1 := hq.cell y6; have f2 := hq.cell r0; have f3 := hq.cell r1; have f4 := hq.cell r2; have f5 := HEX9.out; have f6 := HP2.out
      go_simp
      exact hR _ _ (Ext.refl _) rfl
    · intro xs wq hq hk R hR
      have f0 := hq.cell e0; have f1 := hq.cell y6; have f2 := hq.cell r0; have f3 := hq.cell r1; have f4 := hq.cell r2; have f5 := HEX9.out; have f6 := HP2.out
      go_simp
      exact hR _ _ (Ext.refl _) rfl
    · intro xs wq hq hk R hR
      have f0 := hq.cell e0; have f1 := hq.cell y6; have f2 := hq.cell r0; have f3 := hq.cell r1; have f4 := hq.cell r2; have f5 := HEX9.out; have f6 := HP2.out
      go_simp
      exact hR _ _ (Ext.refl _) rfl
    · intro xs wq hq hk R hR
      have f0 := hq.cell e0; have f1 := hq.cell y6; have f2 := hq.cell r0; have f3 := hq.cell r1; have f4 := hq.cell r2; have f5 := HEX9.out; have f6 := HP2.out
      go_simp
      exact hR _ _ (Ext.refl _) rfl
    · intro xs wq hq hk R hR
      obtain ⟨hk0, hk1, hk2⟩ := hk
      have f0 := hq.cell e0; have f1 := hq.cell y6; have f2 := hq.cell r0; have f3 := hq.cell r1; have f4 := hq.cell r2; have f5 := HEX9.out; have f6 := HP2.out
      go_simp
      exact hR _ _ (Ext.refl _) rfl
    · intro xs wq hq hk R hR
      obtain ⟨hk0, hk1⟩ := hk
      have f0 := hq.cell e0; have f1 := hq.cell y6; have f2 := hq.cell r0; have f3 := hq.cell r1; have f4 := hq.cell r2; have f5 := HEX9.out; have f6 := HP2.out
      go_simp
      exact hR _ _ (Ext.refl _) rfl
    · intro xs wq hq hk R hR
      obtain ⟨hk0, hk1⟩ := hk
      have f0 := hq.cell e0; have f1 := hq.cell y6; have f2 := hq.cell r0; have f3 := hq.cell r1; have f4 := hq.cell r2; have f5 := HEX9.out; have f6 := HP2.out
      go_simp
      exact hR _ _ (Ext.refl _) rfl
    · intro xs wq hq hk R hR
      obtain ⟨hk0, hk1⟩ := hk
      have f0 := hq.cell e0; have f1 := hq.cell y6; have f2 := hq.cell r0; have f3 := hq.cell r1; have f4 := hq.cell r2; have f5 := HEX9.out; have f6 := HP2.out
      go_simp
      exact hR _ _ (Ext.refl _) rfl
    · intro xs wq hq hk R hR
      have f0 := hq.cell e0; have f1 := hq.cell y6; have f2 := hq.cell r0; have f3 := hq.cell r1; have f4 := hq.cell r2; have f5 := HEX9.out; have f6 := HP2.out
      go_simp
      exact hR _ _ (Ext.refl _) rfl
    · intro xs wq hq hk R hR
      obtain ⟨hk0, hk1, hk2⟩ := hk
      have f0 := hq.cell e0; have f1 := hq.cell y6; have f2 := hq.cell r0; have f3 := hq.cell r1; have f4 := hq.cell r2; have f5 := HEX9.out; have f6 := HP2.out
      go_simp
      exact hR _ _ (Ext.refl _) rfl
    · intro xs wq hq hk R hR
      obtain ⟨hk0, hk1⟩ := hk
      have f0 := hq.cell e0; have f1 := hq.cell y6; have f2 := hq.cell r0; have f3 := hq.cell r1; have f4 := hq.cell r2; have f5 := HEX9.out; have f6 := HP2.out
      go_simp
      exact hR _ _ (Ext.refl _) rfl
    · intro xs wq hq hk R hR
      have f0 := hq.cell e0; have f1 := hq.cell y6; have f2 := hq.cell r0; have f3 := hq.cell r1; have f4 := hq.cell r2; have f5 := HEX9.out; have f6 := HP2.out
      go_simp
      exact hR _ _ (Ext.refl _) rfl
    · intro xs wq hq hk R hR
      have f0 := hq.cell e0; have f1 := hq.cell y6; have f2 := hq.cell r0; have f3 := hq.cell r1; have f4 := hq.cell r2; have f5 := HEX9.out; have f6 := HP2.out
      go_simp
      exact hR _ _ (Ext.refl _) rfl
    · intro xs wq hq hk R hR
      have f0 := hq.cell e0; have f1 := hq.cell y6; have f2 := hq.cell r0; have f3 := hq.cell r1; have f4 := hq.cell r2; have f5 := HEX9.out; have f6 := HP2.out
      go_simp
      exact hR _ _ (Ext.refl _) rfl
  intro xs w7 hx7 hk
  simp only [heldV, Nat.zero_add, Nat.reduceAdd, and_true] at hk
  have q0 := hk.1
  replace hk := hk.2
  have q1 := hk.1
  replace hk := hk.2
  have q2 := hk.1
  replace hk := hk.2
  have q3 := hk.1
  replace hk := hk.2
  have q4 := hk.1
  replace hk := hk.2
  have q5 := hk.1
  replace hk := hk.2
  have q6 := hk.1
  replace hk := hk.2
  have q7 := hk.1
  replace hk := hk.2
  have q8 := hk.1
  replace hk := hk.2
  have q9 := hk.1
  replace hk := hk.2
  have q10 := hk.1
  replace hk := hk.2
  have q11 := hk.1
  replace hk := hk.2
  have q12 := hk.1
  replace hk := hk.2
  have q13 := hk.1
  replace hk := hk.2
  have q14 := hk.1
  replace hk := hk.2
  have q15 := hk.1
  replace hk := hk.2
  have q16 := hk.1
  replace hk := hk.2
  have q17 := hk.1
  replace hk := hk.2
  have q18 := hk.1
  replace hk := hk.2
  have q19 := hk.1
  replace hk := hk.2
  have q20 := hk.1
  replace hk := hk.2
  have q21 := hk.1
  replace hk := hk.2
  have q22 := hk.1
  replace hk := hk.2
  have q23 := hk.1
  replace hk := hk.2
  have q24 := hk.1
  replace hk := hk.2
  have q25 := hk.1
  replace hk := hk.2
  have q26 := hk.1
  replace hk := hk.2
  have q27 := hk.1
  replace hk := hk.2
  have q28 := hk.1
  replace hk := hk.2
  have q29 := hk.1
  replace hk := hk.2
  have q30 := hk.1
  replace hk := hk.2
  have q31 := hk.1
  replace hk := hk.2
  have q32 := hk.1
  replace hk := hk.2
  have q33 := hk.1
  replace hk := hk.2
  have q34 := hk.1
  replace hk := hk.2
  have q35 := hk.1
  replace hk := hk.2
  have q36 := hk.1
  replace hk := hk.2
  have q37 := hk.1
  replace hk := hk.2
  have q38 := hk.1
  replace hk := hk.2
  have q39 := hk.1
  replace hk := hk.2
  have q40 := hk.1
  replace hk := hk.2
  have q41 := hk.1
  replace hk := hk.2
  have q42 := hk.1
  replace hk := hk.2
  have q43 := hk.1
  replace hk := hk.2
  have q44 := hk
  clear hk
  simp (maxSteps := 1000000) only [List.take_succ_cons, List.take_zero, List.drop_succ_cons, List.drop_zero, fillFrom, Act.put, List.setIfInBounds_toArray, List.set_cons_zero, List.set_cons_succ, Nat.zero_add, Nat.reduceAdd, q0, q1, q2, q3, q4, q5, q6, q7, q8, q9, q10, q11, q12, q13, q14, q15, q16, q17, q18, q19, q20, q21, q22, q23, q24, q25, q26, q27, q28, q29, q30, q31, q32, q33, q34, q35, q36, q37, q38, q39, q40, q41, q42, q43, q44]
  clear q0 q1 q2 q3 q4 q5 q6 q7 q8 q9 q10 q11 q12 q13 q14 q15 q16 q17 q18 q19 q20 q21 q22 q23 q24 q25 q26 q27 q28 q29 q30 q31 q32 q33 q34 q35 q36 q37 q38 q39 q40 q41 q42 q43 q44
  have HX7 : Hid (Ext w6 w7) := hx7
  obtain ⟨hth, dd, hdd⟩ := HT.out.has _ (List.mem_of_getElem? HROW.out)
  have hhas : hasO { m with calls := c } (hashB fi.data) = true := (has_iff (HCA.out.calls c) _).2 ⟨sha_valid _, hth⟩
  have hcl7 := hasF_any HKP.out (hashB fi.data) (HST6.out.more hx7) HE.out HS.out HGD.out (by omega) (by omega) (by omega) (by have := sha_len (1 :: fi.data); unfold hashB; omega)
  rw [hhas] at hcl7
  obtain ⟨c8, hc8⟩ := getO_calm (HCA.out.calls c) (hashB fi.data)
  have hg8 := good_getO HGD.out (hashB fi.data)
  rw [hc8] at hcl7 hg8
  have HC7 : Hid _ := hcl7
  have HG8 : Hid _ := hg8
  clear hx7 hth hdd hhas hcl7 hc8 hg8 e0 y6 r0 r1 r2
  go_wp2_with fail
  go_at_call 49
  refine Calls.mono HC7.out ?_
  rintro e w8 ⟨O8, n8, rfl, hkb, ⟨hn8, hn9⟩, hst, hfr⟩
  have HST8 : Hid (St w0 S O8 w8 (.pointer (some ⟨g, 0, none⟩)) gs gc { m with calls := c8 } n8) := hst
  have HFR8 : Hid (FrX (fun j => j = gs ∨ j = gc) O O8 w1 w8) := (HFR6.out.trans (FrX.ext HX7.out)).trans (FrX.of hfr (.inl rfl) (.inr rfl))
  have HGX : Hid (Good (k + (kk + 1)) { m with calls := c8 }) := HG8.out.mono (by omega)
  clear hkb hst hfr
  go_wp2_with fail
  go_roundw
  case rel => exact ⟨q + 1, kk + 1, O8, n8, c8, by omega, by go_num, by go_num, HKX, HST8, ⟨by omega, by omega⟩, HGX, HFR8⟩
  case measure => simp [intOf]; omega

end Go.Proofs.YtdhgmpibjneplaaGreatDoor

/-! marlaw5.FewEvents, Few: are events, operations few and small? Conditions: as each theorem states. -/
namespace Go.Proofs.YtdhgmpibjneplaaGreatDoor
open Go Go.RowKit
variable [Inhabited BaseW]

theorem ReadO.dExt {p : List Value → Ev → Prop} {w w' : World} {v : Value} {L : List Ev} (h : ReadO w p v L) (hx : Ext w w') : ReadO w' p v L := h.stay hx.size (fun hn k hk => hx.block k (h.lt hn k hk))
/-- An operation, in its cells. -/
def IsOpn (w : World) (cs : List Value) (o : Opn) : Prop := ∃ vd vp, cs = [.int .i64 o.kind, .int .i64 o.mode, .int .i64 o.keep, .int .i64 o.torn, S8 o.path, S8 o.dest, vd, vp] ∧ OldB vd o.data ∧ ReadO w IsEvI vp o.plan
/-! ### FewEvents -/
def evW (n : Nat) (e : Ev) : Nat := min (n + min e.data.length 40000 + min e.path.length 1000) 160000
def fewEv (es : List Ev) : Bool := decide (es.length ≤ 60) && (es.all (fun e => decide (e.path.length ≤ 400)) && decide (es.foldl evW 0 ≤ 40000))
theorem evW_snoc {l : List Ev} {k : Nat} {e : Ev} (h : l[k]? = some e) : (l.take (k + 1)).foldl evW 0 = evW ((l.take k).foldl evW 0) e := by
  have hk := (List.getElem?_eq_some_iff.1 h)
  obtain ⟨hlt, rfl⟩ := hk
  rw [List.take_succ_eq_append_getElem hlt, List.foldl_append]
  rfl
theorem few_snoc {l : List Ev} {k : Nat} {e : Ev} (h : l[k]? = some e) (h0 : (l.take k).all (fun e => decide (e.path.length ≤ 400)) = true) (h1 : e.path.length ≤ 400) : (l.take (k + 1)).all (fun e => decide (e.path.length ≤ 400)) = true := by
  obtain ⟨hlt, rfl⟩ := (List.getElem?_eq_some_iff.1 h)
  rw [List.take_succ_eq_append_getElem hlt]
  simp only [List.all_append, h0, List.all_cons, List.all_nil, Bool.and_true, Bool.true_and, decide_eq_true_eq]
  exact h1
theorem few_no {l : List Ev} {k : Nat} {e : Ev} (h : l[k]? = some e) (h1 : ¬ e.path.length ≤ 400) : fewEv l = false := by
  have : l.all (fun e => decide (e.path.length ≤ 400)) = false := by
    rw [List.all_eq_false]
    exact ⟨e, List.mem_of_getElem? h, by simpa using h1⟩
  unfold fewEv
  rw [this]
  simp

set_option maxRecDepth 100000 in
set_option maxHeartbeats 2000000 in
theorem fewEvents_any {w : World} {v : Value} {l : List Ev} (hv : ReadO w IsEvI v l) :
    Calls Tryz.prog 73 #[v] w fun e w' => e = .returned (.bool (fewEv l)) ∧ Ext w w' := by
  obtain ⟨a, cap, rfl, h1, h2, h3, h4⟩ := readO_get 7 (fun c x hx => hx.length.1) (by omega) hv
  have H4 : Hid _ := h4
  clear h4 hv
  go_enter Tryz.func73, Tryz.ntmps73
  go_wp2
  go_loopw [3, 4] (fun n i wr => ∃ k m : Nat, Ext w wr ∧ k ≤ l.length ∧ k ≤ 60 ∧ i = .int .i64 k ∧ n = .int .i64 m ∧ m ≤ 160000 ∧ (l.take k).foldl evW 0 = m ∧ (l.take k).all (fun e => decide (e.path.length ≤ 400)) = true) (fun _ i _ => l.length - (intOf i).toNat)
  case atStart => exact ⟨0, 0, Ext.refl _, Nat.zero_le _, by omega, rfl, rfl, by omega, rfl, rfl⟩
  case round =>
    obtain ⟨k, m, hx, hk, hk6, rfl, rfl, hm, hfd, hal⟩ := hrel
    have HX : Hid _ := hx
    have HF : Hid _ := hfd
    have HA : Hid _ := hal
    clear hfd hal
    by_cases hlt : k < l.length
    · by_cases h60 : k < 60
      · obtain ⟨E, he⟩ : ∃ e, l[k]? = some e := ⟨_, List.getElem?_eq_getElem hlt⟩
        obtain ⟨b, o, cs, rfl, hev, hc⟩ := H4.out k E he
        obtain ⟨vd, rfl, hd⟩ := hev
        obtain ⟨s1, s2, rfl, -⟩ := id hd.bytes
        have c5 := hx.cell (hc 5 _ rfl)
        have c6 := hx.cell (hc 6 _ rfl)
        have HE : Hid _ := he
        have hdl := hd.bytes.len
        obtain ⟨d', hd'⟩ : ∃ d', min E.data.length 40000 = d' := ⟨_, rfl⟩
        obtain ⟨p', hp'⟩ : ∃ p', min E.path.length 1000 = p' := ⟨_, rfl⟩
        obtain ⟨n', hn'⟩ : ∃ n', min (m + d' + p') 160000 = n' := ⟨_, rfl⟩
        have hmd : min (E.data.length : Int) 40000 = (d' : Int) := by omega
        have hmp : min (E.path.length : Int) 1000 = (p' : Int) := by omega
        have hmn : min ((m : Int) + d' + p') 160000 = (n' : Int) := by omega
        have hdl' : d' ≤ 40000 := by omega
        have hpl' : p' ≤ 1000 := by omega
        have hnl : n' ≤ 160000 := by omega
        have hw1 : IntKind.i64.wrap ((m : Int) + (d' : Int)) = (m : Int) + d' := IntWalk.i64_in _ (by omega)
        have hw2 : IntKind.i64.wrap ((m : Int) + (d' : Int) + (p' : Int)) = (m : Int) + d' + p' := IntWalk.i64_in _ (by omega)
        have HN : Hid (evW m E = n') := by unfold Hid evW; rw [hd', hp', hn']
        clear hd he hd' hp' hn' hc
        by_cases h4 : E.path.length ≤ 400
        · have h4i : ¬ (400 : Int) < (E.path.length : Int) := by omega
          have H40 : Hid _ := h4
          clear h4
          go_wp2_with fail
          apply wp_region_mix 18 [_, _, _, _, _, _, _, _, _, _, _, _, _, _, _, _, _, .int .i64 n'] [none, none, none, none, none, none, none, none, none, none, none, none, none, none, none, none, none, none] [[], [], [], [1, 2], [3], [4], [5], [6], [0, 7], [], [], [9, 10], [11], [12], [13], [14], [8, 15], [16]] (by kernel_rfl) (by kernel_rfl) (by simp [mixV])
          · trivial
          · simp (maxSteps := 1000000) only [List.take_succ_cons, List.take_zero, oblFrom, stepObl, fillFrom, Act.put, List.setIfInBounds_toArray, List.set_cons_zero, List.set_cons_succ, knows, getV, mixV, List.getD_cons_zero, List.getD_cons_succ, and_true, true_and, forall_const]
            refine ⟨?_, ?_, ?_, ?_, ?_, ?_, ?_, ?_, ?_, ?_, ?_, ?_, ?_, ?_, ?_, ?_, ?_, ?_⟩
            · intro xs wq hq R hR
              have f5 := hq.cell c5; have f6 := hq.cell c6
              go_simp
              exact hR _ _ (Ext.refl _) rfl
            · intro xs wq hq R hR
              have f5 := hq.cell c5; have f6 := hq.cell c6
              go_simp
              exact hR _ _ (Ext.refl _) rfl
            · intro xs wq hq R hR
              have f5 := hq.cell c5; have f6 := hq.cell c6
              go_simp
              exact hR _ _ (Ext.refl _) rfl
            · intro xs wq hq hk R hR
              obtain ⟨hk0, hk1⟩ := hk
              have f5 := hq.cell c5; have f6 := hq.cell c6
              go_simp
              exact hR _ _ (Ext.refl _) rfl
            · intro xs wq hq hk R hR
              have f5 := hq.cell c5; have f6 := hq.cell c6
              go_simp
              exact hR _ _ (Ext.refl _) rfl
            · intro xs wq hq hk R hR
              have f5 := hq.cell c5; have f6 := hq.cell c6
              go_simp
              exact hR _ _ (Ext.refl _) rfl
            · intro xs wq hq hk R hR
              have f5 := hq.cell c5; have f6 := hq.cell c6
              go_simp
              exact hR _ _ (Ext.refl _) rfl
            · intro xs wq hq hk R hR
              have f5 := hq.cell c5; have f6 := hq.cell c6
              go_simp
              exact hR _ _ (Ext.refl _) rfl
            · intro xs wq hq hk R hR
              obtain ⟨hk0, hk1⟩ := hk
              have f5 := hq.cell c5; have f6 := hq.cell c6
              go_simp
              exact hR _ _ (Ext.refl _) rfl
            · intro xs wq hq R hR
              have f5 := hq.cell c5; have f6 := hq.cell c6
              go_simp
              exact hR _ _ (Ext.refl _) rfl
            · intro xs wq hq R hR
              have f5 := hq.cell c5; have f6 := hq.cell c6
              go_simp
              exact hR _ _ (Ext.refl _) rfl
            · intro xs wq hq hk R hR
              obtain ⟨hk0, hk1⟩ := hk
              have f5 := hq.cell c5; have f6 := hq.cell c6
              go_simp
              exact hR _ _ (Ext.refl _) rfl
            · intro xs wq hq hk R hR
              have f5 := hq.cell c5; have f6 := hq.cell c6
              go_simp
              exact hR _ _ (Ext.refl _) rfl
            · intro xs wq hq hk R hR
              have f5 := hq.cell c5; have f6 := hq.cell c6
              go_simp
              exact hR _ _ (Ext.refl _) rfl
            · intro xs wq hq hk R hR
              have f5 := hq.cell c5; have f6 := hq.cell c6
              go_simp
              exact hR _ _ (Ext.refl _) rfl
            · intro xs wq hq hk R hR
              have f5 := hq.cell c5; have f6 := hq.cell c6
              go_simp
              exact hR _ _ (Ext.refl _) rfl
            · intro xs wq hq hk R hR
              obtain ⟨hk0, hk1⟩ := hk
              have f5 := hq.cell c5; have f6 := hq.cell c6
              go_simp
              exact hR _ _ (Ext.refl _) rfl
            · intro xs wq hq hk R hR
              have f5 := hq.cell c5; have f6 := hq.cell c6
              go_simp
              exact hR _ _ (Ext.refl _) rfl
          intro xs w2 hx2 hk
          simp only [heldV, Nat.zero_add, Nat.reduceAdd, and_true] at hk
          have q0 := hk.1
          replace hk := hk.2
          have q1 := hk.1
          replace hk := hk.2
          have q2 := hk.1
          replace hk := hk.2
          have q3 := hk.1
          replace hk := hk.2
          have q4 := hk.1
          replace hk := hk.2
          have q5 := hk.1
          replace hk := hk.2
          have q6 := hk.1
          replace hk := hk.2
          have q7 := hk.1
          replace hk := hk.2
          have q8 := hk.1
          replace hk := hk.2
          have q9 := hk.1
          replace hk := hk.2
          have q10 := hk.1
          replace hk := hk.2
          have q11 := hk.1
          replace hk := hk.2
          have q12 := hk.1
          replace hk := hk.2
          have q13 := hk.1
          replace hk := hk.2
          have q14 := hk.1
          replace hk := hk.2
          have q15 := hk.1
          replace hk := hk.2
          have q16 := hk.1
          replace hk := hk.2
          have q17 := hk
          clear hk
          simp (maxSteps := 1000000) only [List.take_succ_cons, List.take_zero, List.drop_succ_cons, List.drop_zero, fillFrom, Act.put, List.setIfInBounds_toArray, List.set_cons_zero, List.set_cons_succ, Nat.zero_add, Nat.reduceAdd, q0, q1, q2, q3, q4, q5, q6, q7, q8, q9, q10, q11, q12, q13, q14, q15, q16, q17]
          clear q0 q1 q2 q3 q4 q5 q6 q7 q8 q9 q10 q11 q12 q13 q14 q15 q16 q17
          have hxr := Ext.trans HX.out hx2
          replace c5 := hx2.cell c5
          replace c6 := hx2.cell c6
          go_wp2
          go_roundw
          case rel => exact ⟨k + 1, n', hxr, by omega, by omega, by go_num, rfl, hnl, by rw [evW_snoc HE.out, HF.out, HN.out], few_snoc HE.out HA.out H40.out⟩
          case measure => simp [intOf]; omega
        · have h4i : (400 : Int) < (E.path.length : Int) := by omega
          have H40 : Hid _ := few_no HE.out h4
          clear h4
          go_wp2_with fail
          apply wp_region_mix 18 [_, _, _, _, _, _, _, _, _, _, _, _, _, _, _, _, _, .int .i64 n'] [none, none, none, none, none, none, none, none, none, none, none, none, none, none, none, none, none, none] [[], [], [], [1, 2], [3], [4], [5], [6], [0, 7], [], [], [9, 10], [11], [12], [13], [14], [8, 15], [16]] (by kernel_rfl) (by kernel_rfl) (by simp [mixV])
          · trivial
          · simp (maxSteps := 1000000) only [List.take_succ_cons, List.take_zero, oblFrom, stepObl, fillFrom, Act.put, List.setIfInBounds_toArray, List.set_cons_zero, List.set_cons_succ, knows, getV, mixV, List.getD_cons_zero, List.getD_cons_succ, and_true, true_and, forall_const]
            refine ⟨?_, ?_, ?_, ?_, ?_, ?_, ?_, ?_, ?_, ?_, ?_, ?_, ?_, ?_, ?_, ?_, ?_, ?_⟩
            · intro xs wq hq R hR
              have f5 := hq.cell c5; have f6 := hq.cell c6
              go_simp
              exact hR _ _ (Ext.refl _) rfl
            · intro xs wq hq R hR
              have f5 := hq.cell c5; have f6 := hq.cell c6
              go_simp
              exact hR _ _ (Ext.refl _) rfl
            · intro xs wq hq R hR
              have f5 := hq.cell c5; have f6 := hq.cell c6
              go_simp
              exact hR _ _ (Ext.refl _) rfl
            · intro xs wq hq hk R hR
              obtain ⟨hk0, hk1⟩ := hk
              have f5 := hq.cell c5; have f6 := hq.cell c6
              go_simp
              exact hR _ _ (Ext.refl _) rfl
            · intro xs wq hq hk R hR
              have f5 := hq.cell c5; have f6 := hq.cell c6
              go_simp
              exact hR _ _ (Ext.refl _) rfl
            · intro xs wq hq hk R hR
              have f5 := hq.cell c5; have f6 := hq.cell c6
              go_simp
              exact hR _ _ (Ext.refl _) rfl
            · intro xs wq hq hk R hR
              have f5 := hq.cell c5; have f6 := hq.cell c6
              go_simp
              exact hR _ _ (Ext.refl _) rfl
            · intro xs wq hq hk R hR
              have f5 := hq.cell c5; have f6 := hq.cell c6
              go_simp
              exact hR _ _ (Ext.refl _) rfl
            · intro xs wq hq hk R hR
              obtain ⟨hk0, hk1⟩ := hk
              have f5 := hq.cell c5; have f6 := hq.cell c6
              go_simp
              exact hR _ _ (Ext.refl _) rfl
            · intro xs wq hq R hR
              have f5 := hq.cell c5; have f6 := hq.cell c6
              go_simp
              exact hR _ _ (Ext.refl _) rfl
            · intro xs wq hq R hR
              have f5 := hq.cell c5; have f6 := hq.cell c6
              go_simp
              exact hR _ _ (Ext.refl _) rfl
            · intro xs wq hq hk R hR
              obtain ⟨hk0, hk1⟩ := hk
              have f5 := hq.cell c5; have f6 := hq.cell c6
              go_simp
              exact hR _ _ (Ext.refl _) rfl
            · intro xs wq hq hk R hR
              have f5 := hq.cell c5; have f6 := hq.cell c6
              go_simp
              exact hR _ _ (Ext.refl _) rfl
            · intro xs wq hq hk R hR
              have f5 := hq.cell c5; have f6 := hq.cell c6
              go_simp
              exact hR _ _ (Ext.refl _) rfl
            · intro xs wq hq hk R hR
              have f5 := hq.cell c5; have f6 := hq.cell c6
              go_simp
              exact hR _ _ (Ext.refl _) rfl
            · intro xs wq hq hk R hR
              have f5 := hq.cell c5; have f6 := hq.cell c6
              go_simp
              exact hR _ _ (Ext.refl _) rfl
            · intro xs wq hq hk R hR
              obtain ⟨hk0, hk1⟩ := hk
              have f5 := hq.cell c5; have f6 := hq.cell c6
              go_simp
              exact hR _ _ (Ext.refl _) rfl
            · intro xs wq hq hk R hR
              have f5 := hq.cell c5; have f6 := hq.cell c6
              go_simp
              exact hR _ _ (Ext.refl _) rfl
          intro xs w2 hx2 hk
          simp only [heldV, Nat.zero_add, Nat.reduceAdd, and_true] at hk
          have q0 := hk.1
          replace hk := hk.2
          have q1 := hk.1
          replace hk := hk.2
          have q2 := hk.1
          replace hk := hk.2
          have q3 := hk.1
          replace hk := hk.2
          have q4 := hk.1
          replace hk := hk.2
          have q5 := hk.1
          replace hk := hk.2
          have q6 := hk.1
          replace hk := hk.2
          have q7 := hk.1
          replace hk := hk.2
          have q8 := hk.1
          replace hk := hk.2
          have q9 := hk.1
          replace hk := hk.2
          have q10 := hk.1
          replace hk := hk.2
          have q11 := hk.1
          replace hk := hk.2
          have q12 := hk.1
          replace hk := hk.2
          have q13 := hk.1
          replace hk := hk.2
          have q14 := hk.1
          replace hk := hk.2
          have q15 := hk.1
          replace hk := hk.2
          have q16 := hk.1
          replace hk := hk.2
          have q17 := hk
          clear hk
          simp (maxSteps := 1000000) only [List.take_succ_cons, List.take_zero, List.drop_succ_cons, List.drop_zero, fillFrom, Act.put, List.setIfInBounds_toArray, List.set_cons_zero, List.set_cons_succ, Nat.zero_add, Nat.reduceAdd, q0, q1, q2, q3, q4, q5, q6, q7, q8, q9, q10, q11, q12, q13, q14, q15, q16, q17]
          clear q0 q1 q2 q3 q4 q5 q6 q7 q8 q9 q10 q11 q12 q13 q14 q15 q16 q17
          have hxr := Ext.trans HX.out hx2
          replace c5 := hx2.cell c5
          replace c6 := hx2.cell c6
          go_wp2
          go_ret
          exact ⟨by rw [H40.out]; rfl, hxr⟩
      · have hkk : k = 60 := by omega
        subst hkk
        have hl60 : ¬ (l.length : Int) ≤ 60 := by omega
        have HB : Hid (fewEv l = false) := by
          unfold Hid fewEv
          rw [decide_eq_false (by omega)]
          rfl
        go_wp2
        go_ret
        exact ⟨by rw [HB.out]; rfl, HX.out⟩
    · have hkk : k = l.length := by omega
      subst hkk
      have hfd := HF.out
      have hal := HA.out
      rw [List.take_length] at hfd hal
      have hl60 : (l.length : Int) ≤ 60 := by omega
      have HB : Hid (fewEv l = decide ((m : Int) ≤ 40000)) := by
        unfold Hid fewEv
        rw [decide_eq_true hk6, hal, hfd]
        simp only [Bool.true_and, decide_eq_decide]
        omega
      clear hfd hal
      go_wp2
      go_ret
      exact ⟨by rw [HB.out]; rfl, HX.out⟩

/-! ### Few -/
def opW (n : Nat) (o : Opn) : Nat := min (n + min o.data.length 40000) 160000
def okOp (o : Opn) : Bool := fewEv o.plan && (decide (o.path.length ≤ 400) && decide (o.dest.length ≤ 400))
def fewOps (l : List Opn) : Bool := decide (l.length ≤ 100) && (l.all okOp && decide (l.foldl opW 0 ≤ 40000))
theorem opW_snoc {l : List Opn} {k : Nat} {e : Opn} (h : l[k]? = some e) : (l.take (k + 1)).foldl opW 0 = opW ((l.take k).foldl opW 0) e := by
  obtain ⟨hlt, rfl⟩ := (List.getElem?_eq_some_iff.1 h)
  rw [List.take_succ_eq_append_getElem hlt, List.foldl_append]
  rfl
theorem okOp_snoc {l : List Opn} {k : Nat} {e : Opn} (h : l[k]? = some e) (h0 : (l.take k).all okOp = true) (h1 : okOp e = true) : (l.take (k + 1)).all okOp = true := by
  obtain ⟨hlt, rfl⟩ := (List.getElem?_eq_some_iff.1 h)
  rw [List.take_succ_eq_append_getElem hlt]
  simp only [List.all_append, h0, List.all_cons, List.all_nil, Bool.and_true, Bool.true_and, h1]
theorem okOp_no {l : List Opn} {k : Nat} {e : Opn} (h : l[k]? = some e) (h1 : okOp e = false) : fewOps l = false := by
  have : l.all okOp = false := by
    rw [List.all_eq_false]
    exact ⟨e, List.mem_of_getElem? h, by simpa using h1⟩
  unfold fewOps
  rw [this]
  simp
theorem IsOpn.length {w : World} {cs : List Value} {o : Opn} (h : IsOpn w cs o) : cs.length = 8 ∧ cs.all (·.oneCell') = true := by
  obtain ⟨vd, vp, rfl, h1, h3⟩ := h
  obtain ⟨_, _, rfl, _⟩ := h1.bytes
  obtain ⟨_, ⟨_, _, rfl, _⟩, _⟩ := h3
  exact ⟨rfl, by simp [Value.oneCell']⟩
abbrev IsOps (w : World) (v : Value) (l : List Opn) : Prop := ReadO w (IsOpn w) v l
theorem ops_cells {w : World} {v : Value} {l : List Opn} (h : IsOps w v l) : ∃ a cap, v = .slice a l.length cap ∧ l.length ≤ cap ∧ l.length ≤ 140737488355328 ∧ cap ≤ 9223372036854775807 ∧
    ∀ (k : Nat) x, l[k]? = some x → ∃ b o cs, a = some ⟨b, o, none⟩ ∧ IsOpn w cs x ∧ ∀ j u, cs[j]? = some u → w.cell? ⟨b, o + k * 8 + j, none⟩ = some u :=
  readO_get 8 (fun c x hx => hx.length.1) (by omega) h

set_option maxRecDepth 100000 in
set_option maxHeartbeats 2000000 in
theorem fewOps_any {w0 w : World} {v : Value} {l : List Opn} (hx0 : Ext w0 w) (hv : IsOps w0 v l) :
    Calls Tryz.prog 36 #[v] w fun e w' => e = .returned (.bool (fewOps l)) ∧ Ext w w' := by
  obtain ⟨a, cap, rfl, h1, h2, h3, h4⟩ := ops_cells hv
  have H4 : Hid _ := h4
  have HX0 : Hid _ := hx0
  clear h4 hv hx0
  go_enter Tryz.func36, Tryz.ntmps36
  go_wp2
  go_loopw [3, 4] (fun n i wr => ∃ k m : Nat, Ext w wr ∧ k ≤ l.length ∧ k ≤ 100 ∧ i = .int .i64 k ∧ n = .int .i64 m ∧ m ≤ 160000 ∧ (l.take k).foldl opW 0 = m ∧ (l.take k).all okOp = true) (fun _ i _ => l.length - (intOf i).toNat)
  case atStart => exact ⟨0, 0, Ext.refl _, Nat.zero_le _, by omega, rfl, rfl, by omega, rfl, rfl⟩
  case round =>
    obtain ⟨k, m, hx, hk, hk6, rfl, rfl, hm, hfd, hal⟩ := hrel
    have HX : Hid _ := hx
    have HF : Hid _ := hfd
    have HA : Hid _ := hal
    clear hfd hal
    by_cases hlt : k < l.length
    · by_cases h60 : k < 100
      · obtain ⟨E, he⟩ : ∃ e, l[k]? = some e := ⟨_, List.getElem?_eq_getElem hlt⟩
        obtain ⟨b, o, cs, rfl, hop, hc⟩ := H4.out k E he
        obtain ⟨vd, vp, rfl, hd, hpl⟩ := hop
        obtain ⟨s1, s2, rfl, -⟩ := id hd.bytes
        obtain ⟨_, ⟨p1, p2, rfl, -⟩, -⟩ := id hpl
        have hxw := Ext.trans HX0.out hx
        have c4 := hxw.cell (hc 4 _ rfl)
        have c5 := hxw.cell (hc 5 _ rfl)
        have c6 := hxw.cell (hc 6 _ rfl)
        have c7 := hxw.cell (hc 7 _ rfl)
        have HPL : Hid _ := ReadO.dExt hpl hxw
        have HE : Hid _ := he
        have hdl := hd.bytes.len
        obtain ⟨d', hd'⟩ : ∃ d', min E.data.length 40000 = d' := ⟨_, rfl⟩
        obtain ⟨n', hn'⟩ : ∃ n', min (m + d') 160000 = n' := ⟨_, rfl⟩
        have hmd : min (E.data.length : Int) 40000 = (d' : Int) := by omega
        have hmn : min ((m : Int) + d') 160000 = (n' : Int) := by omega
        have hdl' : d' ≤ 40000 := by omega
        have hnl : n' ≤ 160000 := by omega
        have HN : Hid (opW m E = n') := by unfold Hid opW; rw [hd', hn']
        obtain ⟨fe, hfe⟩ : ∃ fe, fewEv E.plan = fe := ⟨_, rfl⟩
        have HFE : Hid _ := hfe
        clear hd he hd' hn' hc hpl hxw hfe
        go_wp2_with fail
        go_at_call 73
        refine (fewEvents_any HPL.out).mono ?_
        rw [HFE.out]
        rintro e w2 ⟨rfl, hx2⟩
        replace c4 := hx2.cell c4
        replace c5 := hx2.cell c5
        replace c6 := hx2.cell c6
        have hxr := hx.trans hx2
        cases fe with
        | false =>
          have HNO : Hid (fewOps l = false) := okOp_no HE.out (by unfold okOp; rw [HFE.out]; rfl)
          go_wp2
          go_ret
          exact ⟨ret_b HNO.out.symm, hxr⟩
        | true =>
          by_cases hp : (400 : Int) < (E.path.length : Int)
          · have HNO : Hid (fewOps l = false) := okOp_no HE.out (by unfold okOp; rw [decide_eq_false (by omega)]; simp)
            go_wp2
            go_ret
            exact ⟨ret_b HNO.out.symm, hxr⟩
          · by_cases hq : (400 : Int) < (E.dest.length : Int)
            · have HNO : Hid (fewOps l = false) := okOp_no HE.out (by unfold okOp; rw [decide_eq_false (p := E.dest.length ≤ 400) (by omega)]; simp)
              go_wp2
              go_ret
              exact ⟨ret_b HNO.out.symm, hxr⟩
            · have HOKE : Hid (okOp E = true) := by unfold Hid okOp; rw [HFE.out, decide_eq_true (by omega), decide_eq_true (by omega)]; rfl
              go_wp2
              go_roundw
              case rel => exact ⟨k + 1, n', hxr, by omega, by omega, by go_num, rfl, hnl, by rw [opW_snoc HE.out, HF.out, HN.out], okOp_snoc HE.out HA.out HOKE.out⟩
              case measure => simp [intOf]; omega
      · have hkk : k = 100 := by omega
        subst hkk
        have hl60 : ¬ (l.length : Int) ≤ 100 := by omega
        have HB : Hid (fewOps l = false) := by
          unfold Hid fewOps
          rw [decide_eq_false (by omega)]
          rfl
        go_wp2
        go_ret
        exact ⟨ret_b HB.out.symm, HX.out⟩
    · have hkk : k = l.length := by omega
      subst hkk
      have hfd := HF.out
      have hal := HA.out
      rw [List.take_length] at hfd hal
      have hl60 : (l.length : Int) ≤ 100 := by omega
      have HB : Hid (fewOps l = decide ((m : Int) ≤ 40000)) := by
        unfold Hid fewOps
        rw [decide_eq_true hk6, hal, hfd]
        simp only [Bool.true_and, decide_eq_decide]
        omega
      clear hfd hal
      go_wp2
      go_ret
      exact ⟨ret_b HB.out.symm, HX.out⟩
end Go.Proofs.YtdhgmpibjneplaaGreatDoor

/-! marlaw13.Few, patterns. Conditions: as each theorem states. -/
namespace Go.Proofs.YtdhgmpibjneplaaGreatDoor
open Go Go.RowKit
set_option linter.unusedVariables false
set_option linter.unusedSimpArgs false
set_option linter.unusedSectionVars false
variable [Inhabited BaseW]

theorem info_opn : (Tryz.prog.info? 38).map (fun i => (i.zero, i.size, i.bytes)) = some (some (.agg #[.int .i64 0, .int .i64 0, .int .i64 0, .int .i64 0, S8 [], S8 [], .slice none 0 0, .slice none 0 0]), 8, 112) := by kernel_rfl
section
variable {ops : Array Oper} {rest : List Oper} {o : Oper} {a : Act} {Q : Exit → Act → World → Prop} {w : World}
/-- append of an operation that lies in a block known whole. -/
theorem app_opn (hgd : o.guard = none) (s x : Operand) (ho : o.op = .call { callee := .builtin .append, args := #[s, x], argTypes := #[73, 73] })
    (base : Nat) (v : Value) (n : Nat) (xs : List Value) (hs : a.eval s = v) (hown : w.ownsRow base 38 8 v n xs)
    (g c : Nat) (news : List Value) (hx : a.eval x = .slice (some ⟨g, 0, none⟩) 1 c) (hl : news.length = 8) {fr : Nat × Nat} (hg : w.heap[g]? = some (.cells news.toArray 38 fr)) (h1 : news.all (·.oneCell') = true)
    (hb : n ≤ 10000000) (hbase : base ≤ w.heap.size)
    (h : ∀ v' w', w'.ownsRow base 38 8 v' (n + 1) (xs ++ news) → w.grownBy w' v.ownBlock → wpList Tryz.prog ops Q rest (a.put o.dst v') w') : wpList Tryz.prog ops Q (o :: rest) a w := by
  obtain ⟨i0, hi, hz0, hz1, hz2⟩ := info_parts info_opn
  exact wpList_append_own_at w hgd s x _ ho base _ i0 _ 8 112 Tryz.underlying73 hi hz0 hz1 hz2 rfl (by omega) v n xs hs hown ⟨g, 0, none⟩ 1 c news hx (by simpa using hl) (by simpa using news_of_block hg) (fun u hu => List.all_eq_true.1 h1 u hu) (by unfold maxLen; omega) (by omega) hbase
    (fun v' w' h1 h2 _ h4 => h v' w' h1 h2)
end

theorem ops_read {w w0 : World} {b : Nat} {v : Value} {L : List Opn} {css : List (List Value)} (h : w.ownsRow b 38 8 v L.length css.flatten) (he : Each (IsOpn w0) css L) (hn : L.length ≤ 1000000) : ReadO w (IsOpn w0) v L :=
  ⟨css, Row.of_owns h (by omega), fun _ k hk => (h.lt k hk).2, he⟩
theorem IsOpn.ext {w w' : World} {cs : List Value} {o : Opn} (h : IsOpn w cs o) (hx : Ext w w') : IsOpn w' cs o := by
  obtain ⟨vd, vp, rfl, h1, h2⟩ := h
  exact ⟨vd, vp, rfl, h1, h2.dExt hx⟩
theorem IsOps.ext {w w' : World} {v : Value} {l : List Opn} (h : IsOps w v l) (hx : Ext w w') : IsOps w' v l :=
  (h.stay hx.size (fun hn k hk => hx.block k (h.lt hn k hk))).mono (fun c x hc => hc.ext hx)

/-- marlaw13's operations. -/
structure Sop where
  kind : Int
  f : Opn
def IsSop (w : World) (cs : List Value) (o : Sop) : Prop := ∃ fs, cs = .int .i64 o.kind :: fs ∧ IsOpn w fs o.f
theorem IsSop.length {w : World} {cs : List Value} {o : Sop} (h : IsSop w cs o) : cs.length = 9 := by
  obtain ⟨fs, rfl, h⟩ := h
  simp [(h.length).1]
abbrev IsSops (w : World) (v : Value) (l : List Sop) : Prop := ReadO w (IsSop w) v l
theorem sops_cells {w : World} {v : Value} {l : List Sop} (h : IsSops w v l) : ∃ a cap, v = .slice a l.length cap ∧ l.length ≤ cap ∧ l.length ≤ 140737488355328 ∧ cap ≤ 9223372036854775807 ∧
    ∀ (k : Nat) x, l[k]? = some x → ∃ b o cs, a = some ⟨b, o, none⟩ ∧ IsSop w cs x ∧ ∀ j u, cs[j]? = some u → w.cell? ⟨b, o + k * 9 + j, none⟩ = some u :=
  readO_get 9 (fun c x hx => hx.length) (by omega) h
def fewS (l : List Sop) : Bool := decide (l.length ≤ 60) && fewOps (l.map Sop.f)
theorem take_snocN {α : Type} {l : List α} {k : Nat} {e : α} (h : l[k]? = some e) : l.take (k + 1) = l.take k ++ [e] := by rw [List.take_add_one, h]; rfl

set_option maxRecDepth 100000 in
set_option maxHeartbeats 2000000 in
theorem fewS_any {w0 w : World} {v : Value} {l : List Sop} (hx0 : Ext w0 w) (hv : IsSops w0 v l) :
    Calls Tryz.prog 9 #[v] w fun e w' => e = .returned (.bool (fewS l)) ∧ Ext w w' := by
  obtain ⟨a, cap, rfl, h1, h2, h3, h4⟩ := sops_cells hv
  have H4 : Hid _ := h4
  have HX0 : Hid (Ext w0 w) := hx0
  clear h4 hv hx0
  go_enter Tryz.func9, Tryz.ntmps9
  go_wp2
  go_loopw [3, 4] (fun v i wr => ∃ (k : Nat) (css : List (List Value)), k ≤ l.length ∧ k ≤ 60 ∧ i = .int .i64 k ∧ wr.ownsRow w.heap.size 38 8 v k css.flatten ∧ Each (IsOpn w0) css ((l.take k).map Sop.f) ∧ Ext w wr) (fun _ i _ => l.length - (intOf i).toNat)
  case atStart => exact ⟨0, [], Nat.zero_le _, by omega, rfl, World.ownsRow_nil _ _ _ _, Each.nil _, Ext.refl _⟩
  case round =>
    obtain ⟨k, css, hk, hk6, rfl, hown, heach, hx⟩ := hrel
    have HEA : Hid (Each (IsOpn w0) css ((l.take k).map Sop.f)) := heach
    clear heach
    have HX : Hid (Ext w wr) := hx
    by_cases hlt : k < l.length
    · by_cases h60 : k < 60
      · obtain ⟨e, hke⟩ : ∃ e, l[k]? = some e := ⟨_, List.getElem?_eq_getElem hlt⟩
        obtain ⟨b, o, cs, rfl, ⟨fs, rfl, hop⟩, hc⟩ := H4.out k e hke
        have HOP : Hid (IsOpn w0 fs e.f) := hop
        obtain ⟨vd, vp, rfl, hd, hpl⟩ := id hop
        obtain ⟨d1, d2, rfl, -⟩ := id hd.bytes
        obtain ⟨_, ⟨p1, p2, rfl, -⟩, -⟩ := id hpl
        have HSN : Hid _ := take_snocN hke
        have hxw := Ext.trans HX0.out hx
        have c1 := hxw.cell (hc 1 _ rfl)
        have c2 := hxw.cell (hc 2 _ rfl)
        have c3 := hxw.cell (hc 3 _ rfl)
        have c4 := hxw.cell (hc 4 _ rfl)
        have c5 := hxw.cell (hc 5 _ rfl)
        have c6 := hxw.cell (hc 6 _ rfl)
        have c7 := hxw.cell (hc 7 _ rfl)
        have c8 := hxw.cell (hc 8 _ rfl)
        have hsz := hx.size
        have HKE : Hid _ := hke
        clear hop hd hpl hc hke hxw
        go_wp2_with (at_builtin; go_must (refine app_opn rfl _ _ rfl w.heap.size _ k _ rfl (hown.alloc _) wr.heap.size 1 [.int .i64 e.f.kind, .int .i64 e.f.mode, .int .i64 e.f.keep, .int .i64 e.f.torn, S8 e.f.path, S8 e.f.dest, .slice d1 e.f.data.length d2, .slice p1 e.f.plan.length p2] rfl rfl (alloc_at _ _) (by simp [Value.oneCell']) (by omega) (by simp; omega) ?_; intro v' w3 hown3 hg3))
        go_roundw
        case rel =>
          refine ⟨k + 1, css ++ [[.int .i64 e.f.kind, .int .i64 e.f.mode, .int .i64 e.f.keep, .int .i64 e.f.torn, S8 e.f.path, S8 e.f.dest, .slice d1 e.f.data.length d2, .slice p1 e.f.plan.length p2]], by omega, by omega, by go_num, ?_, ?_, owns_ext_app (hx.alloc _) (hown.alloc _) hg3⟩
          · rw [List.flatten_append]
            simpa using hown3
          · rw [HSN.out, List.map_append]; exact Each.snoc HEA.out HOP.out
        case measure => simp [intOf]; omega
      · have hk60 : k = 60 := by omega
        subst hk60
        by_cases hl : l.length ≤ 60
        · omega
        · have hno : fewS l = false := by unfold fewS; simp [hl]
          have HNO : Hid _ := hno
          clear hno
          have hl2 : ¬ (l.length : Int) ≤ 60 := by omega
          go_wp2
          go_ret
          exact ⟨by rw [HNO.out]; rfl, HX.out⟩
    · have hkl : k = l.length := by omega
      subst hkl
      have hops : IsOps wr u3 (l.map Sop.f) := by
        have h9 := HEA.out
        rw [List.take_of_length_le (Nat.le_refl _)] at h9
        exact ops_read (by rw [List.length_map]; exact hown) (h9.imp (fun c x hc => hc.ext (HX0.out.trans HX.out))) (by rw [List.length_map]; omega)
      have HOPS : Hid (IsOps wr u3 (l.map Sop.f)) := hops
      have hres : fewS l = fewOps (l.map Sop.f) := by
        unfold fewS
        rw [decide_eq_true hk6]
        rfl
      have HRES : Hid _ := hres
      have hl2 : (l.length : Int) ≤ 60 := by omega
      clear hops hres
      go_wp2_with (go_at_call 36; go_must (refine (fewOps_any (Ext.refl wr) HOPS.out).mono ?_; rintro e w5 ⟨rfl, hx5⟩))
      all_goals (go_ret; exact ⟨by rw [HRES.out]; rfl, hx.trans hx5⟩)

end Go.Proofs.YtdhgmpibjneplaaGreatDoor

/-! marlaw13.ScanTrue. Conditions: as each theorem states. -/
namespace Go.Proofs.YtdhgmpibjneplaaGreatDoor
open Go Go.RowKit Go.Sort
set_option linter.unusedVariables false
set_option linter.unusedSimpArgs false
set_option linter.unusedSectionVars false

theorem size_opn : (Tryz.prog.info? 38).map (·.size) = some 8 := by kernel_rfl
theorem fewS_path {l : List Sop} (h : fewS l = true) : l.length ≤ 60 ∧ ∀ o ∈ l, o.f.path.length ≤ 400 := by
  unfold fewS fewOps at h
  simp only [Bool.and_eq_true, decide_eq_true_eq, List.all_eq_true] at h
  refine ⟨h.1, fun o ho => ?_⟩
  have h2 := h.2.2.1 o.f (List.mem_map.2 ⟨o, ho, rfl⟩)
  unfold okOp fewEv at h2
  simp only [Bool.and_eq_true, decide_eq_true_eq, List.all_eq_true] at h2
  exact h2.2.1
theorem tru_new (room : Int) (h0 : 0 ≤ room) (h1 : room ≤ 1073741824) : Tru (newM room) [] :=
  ⟨⟨rfl, rfl, (good_new h0 h1).ok, fun e he => by cases he⟩, (fun p k hk => by cases hk), (fun p f hf => by cases hf)⟩
theorem wn_scan {k : Nat} {m : Fs} {ix : Files} (wr : Int) (pats : List B8) (h : Tru m ix) (hw : WN k m) : WN k (scanGo m ix wr pats).1.m := by
  obtain ⟨s1, -⟩ := scan_ok (wr := wr) (pats := pats) h.ca (fun p k hk => (h.ix p k hk).2)
  exact hw.goes s1.goes
theorem told_rows {k : Nat} {m : Fs} {pats : List B8} {rows : List Rw} (h : Told m pats rows) (hw : WN k m) : rows.length ≤ k := by
  rw [h.eq, List.length_map]
  exact Nat.le_trans (List.length_filter_le _ _) hw
theorem Ixs.new [Inhabited BaseW] [KW : Inhabited KeptW] {w0 w w' : World} {S O : Nat → Prop} {f : Value} {gs gc gi gx : Nat} {m : Fs} {n : Int} (h : St w0 S O w f gs gc m n) (hgi : w'.heap[gi]? = some (.cells #[.map (some gx), .int .i64 0] 91 (0, 0))) (hgx : IsMG knV w' gx []) (hs1 : w.heap.size = gx) (hs2 : gi = gx + 1) : Ixs w0 O gs gc w' gi gx [] 0 := by
  have hlt := h.lt
  have hsz := h.one.ext.size
  exact ⟨hgi, hgx, ⟨by omega, by omega⟩, ⟨fun ho => by have := (h.one.lo _ ho).2; omega, by omega, by omega⟩, ⟨fun ho => by have := (h.one.lo _ ho).2; omega, by omega, by omega⟩⟩

variable [Inhabited BaseW]
section
variable [KW : Inhabited KeptW]
set_option maxRecDepth 100000 in
set_option maxHeartbeats 16000000 in
theorem scanTrue_kept (hkp : ∀ k, keptW k = none) (v vp : Value) (l : List Sop) (pats : List B8) (w : World) (hB : Ext baseW w) (hE : Env w) (hS : EnvS w) (hv : IsSops w v l) (hp : IsStrs w vp pats) :
    Calls Tryz.prog 3 #[v, vp] w fun e w' => e = .returned (.bool true) ∧ Ext w w' := by
  obtain ⟨a, cap, rfl, h1, h2, h3, h4⟩ := sops_cells hv
  obtain ⟨pa, pc, rfl, -⟩ := hp.get
  have H4 : Hid _ := h4
  have HV : Hid (IsSops w (.slice a l.length cap) l) := hv
  have HP : Hid (IsStrs w (.slice pa pats.length pc) pats) := hp
  have HE : Hid (Env w) := hE
  have HS : Hid (EnvS w) := hS
  have HBW : Hid (Ext baseW w) := hB
  have HKP : Hid (∀ k, keptW k = none) := hkp
  clear h4 hv hp hE hS hB hkp
  go_enter Tryz.func3, Tryz.ntmps3
  go_wp2_with fail
  go_at_call 8
  refine (first13_any HKP.out w HE.out HS.out).mono ?_
  rintro e w1 ⟨rfl, hx1⟩
  have HX1 : Hid (Ext w w1) := hx1
  clear hx1
  obtain ⟨fw, hfw⟩ : ∃ b, fewS l = b := ⟨_, rfl⟩
  have HFW : Hid _ := hfw
  clear hfw
  go_wp2_with fail
  go_at_call 9
  refine (fewS_any HX1.out HV.out).mono ?_
  rw [HFW.out]
  rintro e w2 ⟨rfl, hx2⟩
  have HX2 : Hid (Ext w w2) := HX1.out.trans hx2
  clear hx2
  cases fw with
  | false =>
    go_wp2_with fail
    go_at_call 8
    refine (first13_any HKP.out w2 (HE.out.ext HX2.out) (HS.out.ext HX2.out)).mono ?_
    rintro e wz ⟨rfl, hxz⟩
    go_wp2
    go_ret
    exact ⟨rfl, HX2.out.trans hxz⟩
  | true =>
  obtain ⟨hl60, hpth⟩ := fewS_path HFW.out
  have HPTH : Hid (∀ o ∈ l, o.f.path.length ≤ 400) := hpth
  clear hpth
  go_wp2_with fail
  go_at_call 10
  refine (patterns_any _ pats w2 (IsStrs.ext HP.out HX2.out)).mono ?_
  rintro e w3 ⟨pb, rfl, rfl, hpb⟩
  have HPB : Hid (pb = true → pats.length ≤ 20 ∧ ∀ p ∈ pats, p.length ≤ 400) := hpb
  clear hpb
  cases pb with
  | false =>
    go_wp2_with fail
    go_at_call 8
    refine (first13_any HKP.out _ (HE.out.ext HX2.out) (HS.out.ext HX2.out)).mono ?_
    rintro e wz ⟨rfl, hxz⟩
    go_wp2
    go_ret
    exact ⟨rfl, HX2.out.trans hxz⟩
  | true =>
  obtain ⟨-, hpl⟩ := HPB.out rfl
  have HPL : Hid (∀ p ∈ pats, p.length ≤ 1000000) := fun p hp => Nat.le_trans (hpl p hp) (by omega)
  clear hpl HPB
  obtain ⟨w2, rfl⟩ : ∃ w2 : World, w2 = w3 := ⟨_, rfl⟩
  go_wp2_with fail
  go_at_call 11
  refine (new_yes 1073741824 _ (by omega) (by omega)).mono ?_
  rintro e w4 ⟨⟨p, rfl, hf⟩, hx4⟩
  have H4o : Hid (One w (fun _ => False) (Nu w2 w4) w4 p (newM 1073741824)) := by
    have h9 := One.new hf hx4
    exact ⟨HX2.out.trans h9.ext, h9.fs, fun k hk => ⟨Nat.le_trans HX2.out.size (h9.lo k hk).1, (h9.lo k hk).2⟩, fun k hk => hk.elim, fun k hk => hk.elim⟩
  obtain ⟨g, rfl⟩ : ∃ g, p = .pointer (some ⟨g, 0, none⟩) := by
    obtain ⟨g, gm, gd, vp, vl, vu, L, c0, hpe, -⟩ := hf
    exact ⟨g, hpe⟩
  clear hf hx4
  go_wp2_with fail
  go_at_call 12
  refine (open_any H4o.out HKP.out).mono ?_
  rintro e w5 ⟨gs, gc, rfl, h5, hz5⟩
  have H5 : Hid (St w (fun _ => False) (Nu w2 w4) w5 (.pointer (some ⟨g, 0, none⟩)) gs gc (newM 1073741824) 0) := h5
  clear h5 H4o hz5
  go_wp2_with fail
  go_at_call 13
  refine (newIndex_any w5).mono ?_
  rintro e w6 ⟨⟨gi, gx, rfl, hgi, hgx, hs1, hs2, hs3⟩, hx6⟩
  have HI6 : Hid (Ixs w (Nu w2 w4) gs gc w6 gi gx [] 0) := Ixs.new H5.out hgi hgx hs1 hs2
  have H6 : Hid (St w (fun _ => False) (Nu w2 w4) w6 (.pointer (some ⟨g, 0, none⟩)) gs gc (newM 1073741824) 0) := H5.out.more hx6
  have HT0 : Hid (Tru (newM 1073741824) []) := tru_new _ (by omega) (by omega)
  have HG0 : Hid (Good (400 * 0) (newM 1073741824)) := good_new (by omega) (by omega)
  have HW0 : Hid (WN 0 (newM 1073741824)) := Nat.le_refl 0
  have HN0 : Hid (IdsOk []) := ids_nil
  clear hgi hgx hs1 hs2 hs3 hx6 H5
  generalize newM 1073741824 = m0 at *
  go_wp2_with fail
  go_loopw [8, 9] (fun xv i wz => ∃ (k : Nat) (m : Fs) (ix : Files) (wt : Int) (O1 : Nat → Prop) (n : Int) (gi gx : Nat), k ≤ l.length ∧ i = .int .i64 k ∧ xv = .pointer (some ⟨gi, 0, none⟩) ∧ Hid (Tru m ix) ∧ Hid (WN k m) ∧ Hid (Good (400 * k) m) ∧ Hid (IdsOk ix) ∧ (0 ≤ n ∧ n ≤ 200 * k) ∧ Hid (St w (fun _ => False) O1 wz (.pointer (some ⟨g, 0, none⟩)) gs gc m n) ∧ Hid (Ixs w O1 gs gc wz gi gx ix wt)) (fun _ i _ => l.length - (intOf i).toNat)
  case atStart => exact ⟨0, m0, [], 0, _, 0, gi, gx, Nat.zero_le _, rfl, rfl, HT0, HW0, HG0, HN0, ⟨by omega, by omega⟩, H6, HI6⟩
  case round =>
  clear H6 HI6 HT0 HW0 HG0 HN0
  obtain ⟨k, m, ix, wt, O1, n, gi, gx, hk, rfl, rfl, HTR, HWN, HGD, HID, ⟨hn0, hn1⟩, HST, HIX⟩ := hrel
  have HXR : Hid (Ext w wr) := HST.out.one.ext
  by_cases hlt : k < l.length
  case neg =>
    have hkl : k = l.length := by omega
    subst hkl
    go_wp2_with fail
    go_at_call 8
    refine (first13_any HKP.out wr (HE.out.ext HXR.out) (HS.out.ext HXR.out)).mono ?_
    rintro e wz ⟨rfl, hxz⟩
    go_wp2
    go_ret
    exact ⟨rfl, HXR.out.trans hxz⟩
  obtain ⟨o, hko⟩ : ∃ o, l[k]? = some o := ⟨_, List.getElem?_eq_getElem hlt⟩
  obtain ⟨bb, oo, cs, rfl, ⟨fs, rfl, hop⟩, hc⟩ := H4.out k o hko
  obtain ⟨vd, vpl, rfl, hd, hpl⟩ := id hop
  obtain ⟨d1, d2, rfl, -⟩ := id hd.bytes
  obtain ⟨_, ⟨p1, p2, rfl, -⟩, -⟩ := id hpl
  have hopl := HPTH.out o (List.mem_of_getElem? hko)
  have HOD : Hid (OldB (.slice d1 o.f.data.length d2) o.f.data) := hd
  have c0 := HXR.out.cell (hc 0 _ rfl)
  have c1 := HXR.out.cell (hc 1 _ rfl)
  have c2 := HXR.out.cell (hc 2 _ rfl)
  have c3 := HXR.out.cell (hc 3 _ rfl)
  have c4 := HXR.out.cell (hc 4 _ rfl)
  have c5 := HXR.out.cell (hc 5 _ rfl)
  have c6 := HXR.out.cell (hc 6 _ rfl)
  have c7 := HXR.out.cell (hc 7 _ rfl)
  have c8 := HXR.out.cell (hc 8 _ rfl)
  rw [Nat.add_zero] at c0
  have C0 : Hid _ := c0
  clear hop hd hpl hc hko
  go_upto_region 16 with (refine wpList_store_row rfl 38 (.tmp 10) (.tmp 54) rfl _ #[.int .i64 o.f.kind, .int .i64 o.f.mode, .int .i64 o.f.keep, .int .i64 o.f.torn, S8 o.f.path, S8 o.f.dest, .slice d1 o.f.data.length d2, .slice p1 o.f.plan.length p2] rfl rfl 38 _ (alloc_at _ _) size_opn rfl (by simp [Value.oneCell']) ?_)
  obtain ⟨w7, hw7⟩ : ∃ w7, w7 = (wr.alloc (.cells #[.int .i64 0, .int .i64 0, .int .i64 0, .int .i64 0, .string ⟨#[]⟩, .string ⟨#[]⟩, .slice none 0 0, .slice none 0 0] 38)).setRow wr.heap.size #[.int .i64 o.f.kind, .int .i64 o.f.mode, .int .i64 o.f.keep, .int .i64 o.f.torn, S8 o.f.path, S8 o.f.dest, .slice d1 o.f.data.length d2, .slice p1 o.f.plan.length p2] := ⟨_, rfl⟩
  rw [← hw7]
  have hx7 : Ext wr w7 := by rw [hw7]; exact ((Ext.refl wr).alloc _).setRow _ _ (Nat.le_refl _)
  have hb7 : w7.heap[wr.heap.size]? = some (.cells #[.int .i64 o.f.kind, .int .i64 o.f.mode, .int .i64 o.f.keep, .int .i64 o.f.torn, S8 o.f.path, S8 o.f.dest, .slice d1 o.f.data.length d2, .slice p1 o.f.plan.length p2] 38 (0, 0)) := by rw [hw7]; exact setRow_heap _ _ _ _ _ _ (alloc_at _ _)
  obtain ⟨go, hgo⟩ : ∃ go, wr.heap.size = go := ⟨_, rfl⟩
  rw [hgo] at hb7 ⊢
  obtain ⟨z0, z1, z2, z3, z4, z5, z6, z7⟩ := cellsAt8 hb7
  have y0 := hx7.cell C0.out
  have Y0 : Hid _ := y0
  have H7 : Hid (St w (fun _ => False) O1 w7 (.pointer (some ⟨g, 0, none⟩)) gs gc m n) := HST.out.more hx7
  have HI7 : Hid (Ixs w O1 gs gc w7 gi gx ix wt) := HIX.out.ext hx7
  clear hw7 hx7 hb7 hgo c0 c1 c2 c3 c4 c5 c6 c7 c8 z2 z3 z5 z7
  by_cases hk0 : o.kind = 0
  · have hq0 : (o.kind == 0) = true := by simpa using hk0
    clear hk0 z0 z1 z4 z6
    have hlw := wn_list HTR.out.ca HWN.out
    have hgs := good_scan HGD.out ix wt pats
    have hts := tru_scan (wr := wt) (pats := pats) HTR.out
    have hws := wn_scan wt pats HTR.out HWN.out
    have his := ids_scan HID.out m wt pats
    have hsc := scan_any HKP.out (.slice pa pats.length pc) pats H7.out HE.out HS.out HGD.out (by omega) hn0 (by omega) HI7.out (fun hs => hs) HID.out.big HP.out HPL.out
    obtain ⟨⟨xr, er⟩, hR⟩ : ∃ q, scanGo m ix wt pats = q := ⟨_, rfl⟩
    obtain ⟨L, hLL⟩ : ∃ L, (listM m wP).2.1.length = L := ⟨_, rfl⟩
    rw [hR, hLL] at hsc
    rw [hR] at hts hws his
    rw [hR, hLL] at hgs
    rw [hLL] at hlw
    have HSC : Hid _ := hsc
    have HTS : Hid (Tru xr.m ix ∧ (er = 0 → Tru xr.m xr.ix ∧ Told xr.m pats xr.rows)) := hts
    have HWS : Hid (WN k xr.m) := hws
    have HIS : Hid (IdsOk xr.ix) := his
    have HGS : Hid (Good (400 * k + 1 + 5 * L) xr.m) := hgs
    clear hsc hts hws his hgs hR hLL
    try dsimp only at HSC
    go_wp2_with fail
    go_at_call 14
    refine Calls.mono HSC.out ?_
    rintro e w8 ⟨vr, N, O8, n8, rfl, hp8⟩
    obtain ⟨hr8a, hr8b⟩ := hp8.reads
    have H8 : Hid (St w (fun _ => False) O8 w8 (.pointer (some ⟨g, 0, none⟩)) gs gc xr.m n8) := hp8.st
    by_cases he0 : er = 0
    case neg =>
      have heq : (er == 0) = false := by simpa using he0
      have HI8 : Hid (Ixs w O8 gs gc w8 gi gx ix wt) := hp8.bad he0
      have HGX : Hid (Good (400 * (k + 1)) xr.m) := HGS.out.mono (by omega)
      have HWX : Hid (WN (k + 1) xr.m) := HWS.out.mono (by omega)
      have HTX : Hid (Tru xr.m ix) := HTS.out.1
      clear hp8 HSC he0 y0
      go_wp2_with fail
      go_roundw
      case rel => exact ⟨k + 1, xr.m, ix, wt, O8, n8, gi, gx, by omega, by go_num, rfl, HTX, HWX, HGX, HID, ⟨by omega, by omega⟩, H8, HI8⟩
      case measure => simp [intOf]; omega
    subst he0
    obtain ⟨-, hown8, hno8, gx8, hi8⟩ := hp8.good rfl
    obtain ⟨HTX, HTD⟩ := HTS.out.2 rfl
    have hrl := told_rows HTD HWS.out
    have hlt7 := H7.out.lt
    have hlo8 := fun j hj => (World.ownsRow.lt hown8 j hj).1
    have htl := tells_any (k := 400 * k + 1 + 5 * L) HKP.out vr (.slice pa pats.length pc) xr.rows pats H8.out HE.out HS.out HGS.out (by omega) (by omega) (by omega) HTX.ca HTD hown8 (fun j hj => ⟨hno8 j hj, by have := hlo8 j hj; omega, by have := hlo8 j hj; omega⟩) HP.out HPL.out
    obtain ⟨va, vn, vc, rfl⟩ : ∃ va vn vc, vr = .slice va vn vc := by
      obtain ⟨a, c, he, -⟩ := Row.of_owns hown8 (by omega)
      exact ⟨a, _, c, he⟩
    have HTL : Hid _ := htl
    have HI8 : Hid (Ixs w O8 gs gc w8 gi gx8 xr.ix xr.m.time) := hi8
    have HTX : Hid (Tru xr.m xr.ix) := HTX
    clear hp8 HSC hown8 hno8 hi8 hlo8 htl HTD y0
    go_wp2_with fail
    go_at_call 15
    refine Calls.mono HTL.out ?_
    rintro e w9 ⟨O9, n9, c9, rfl, ⟨hn9a, hn9b⟩, hst9, hg9, hfr9⟩
    have H9 : Hid (St w (fun _ => False) O9 w9 (.pointer (some ⟨g, 0, none⟩)) gs gc { xr.m with calls := c9 } n9) := hst9
    have HI9 : Hid (Ixs w O9 gs gc w9 gi gx8 xr.ix xr.m.time) := HI8.out.frx hfr9 (by have := HI8.out.oi; rintro (h | h) <;> omega) (by have := HI8.out.ox; rintro (h | h) <;> omega)
    have HGX : Hid (Good (400 * (k + 1)) { xr.m with calls := c9 }) := hg9.mono (by omega)
    have HWX : Hid (WN (k + 1) { xr.m with calls := c9 }) := WN.mono (m := { xr.m with calls := c9 }) (k := k) HWS.out (by omega)
    have HTY : Hid (Tru { xr.m with calls := c9 } xr.ix) := tru_calls HTX.out c9
    clear hst9 hfr9 hg9 HTL
    go_wp2_with fail
    go_roundw
    case rel => exact ⟨k + 1, _, xr.ix, _, O9, n9, gi, gx8, by omega, by go_num, rfl, HTY, HWX, HGX, HIS, ⟨by omega, by omega⟩, H9, HI9⟩
    case measure => simp [intOf]; omega
  have hq0 : (o.kind == 0) = false := by simpa using hk0
  clear hk0
  by_cases hk1 : o.kind = 1
  · have hq1 : (o.kind == 1) = true := by simpa using hk1
    clear hk1 z0 z1 z4 z6
    go_wp2_with fail
    go_at_call 13
    refine (newIndex_any w7).mono ?_
    rintro e w8 ⟨⟨gj, gy, rfl, hgi, hgx, hs1, hs2, hs3⟩, hx8⟩
    have HI8 : Hid (Ixs w O1 gs gc w8 gj gy [] 0) := Ixs.new H7.out hgi hgx hs1 hs2
    have H8 : Hid (St w (fun _ => False) O1 w8 (.pointer (some ⟨g, 0, none⟩)) gs gc m n) := H7.out.more hx8
    have HGX : Hid (Good (400 * (k + 1)) m) := HGD.out.mono (by omega)
    have HWX : Hid (WN (k + 1) m) := HWN.out.mono (by omega)
    have HTX : Hid (Tru m []) := HTR.out.new
    have HIN : Hid (IdsOk []) := ids_nil
    clear hgi hgx hs1 hs2 hs3 hx8 y0
    go_wp2_with fail
    go_roundw
    case rel => exact ⟨k + 1, m, [], 0, O1, n, gj, gy, by omega, by go_num, rfl, HTX, HWX, HGX, HIN, ⟨by omega, by omega⟩, H8, HI8⟩
    case measure => simp [intOf]; omega
  have hq1 : (o.kind == 1) = false := by simpa using hk1
  clear hk1
  have hcat : ¬ 9223372036854775807 < 2 + o.f.path.length := by omega
  have hdl2 : (dirW ++ o.f.path).length ≤ 1000 := by rw [List.length_append]; show 2 + _ ≤ _; omega
  have htm : m.time ≤ 9000000 := by have := HGD.out.time; omega
  by_cases hk9 : o.f.kind = 9
  · have hq9 : (o.f.kind == 9) = true := by simpa using hk9
    have HC : Hid _ := userRemove_any (dirW ++ o.f.path) (HE.out.ext H7.out.one.ext) H7.out.one.fs HGD.out.ok htm hdl2
    have HGX : Hid (Good (400 * (k + 1)) (userRemove m (dirW ++ o.f.path)).1) := (good_userR HGD.out _).mono (by omega)
    have HWX : Hid (WN (k + 1) (userRemove m (dirW ++ o.f.path)).1) := (wn_remove HWN.out _).mono (by omega)
    have HTX : Hid (Tru (userRemove m (dirW ++ o.f.path)).1 ix) := tru_remove HTR.out _
    clear hk9 z1 z6 hdl2 htm
    go_wp2_with fail
    go_at_call 16
    refine Calls.mono HC.out ?_
    rintro e w8 ⟨rfl, hp8⟩
    have H8 : Hid _ := St.post H7.out hp8
    have HI8 : Hid _ := HI7.out.frs (FrS.fr hp8)
    clear hp8 HC y0 z0 z4
    go_wp2_with fail
    go_roundw
    case rel => exact ⟨k + 1, _, ix, wt, _, n, gi, gx, by omega, by go_num, rfl, HTX, HWX, HGX, HID, ⟨by omega, by omega⟩, H8, HI8⟩
    case measure => simp [intOf]; omega
  · have hq9 : (o.f.kind == 9) = false := by simpa using hk9
    have HC : Hid _ := userWrite_any (dirW ++ o.f.path) o.f.mode (.slice d1 o.f.data.length d2) o.f.data (HE.out.ext H7.out.one.ext) H7.out.one.fs HGD.out.ok htm hdl2 (HOD.out.at (HBW.out.trans H7.out.one.ext)) HOD.out.bytes.len (fun hh => may_eq _ hh) (HOD.out.out (fun j hj => Nat.le_trans HBW.out.size (H7.out.one.lo j hj).1))
    have HGX : Hid (Good (400 * (k + 1)) (userWrite m (dirW ++ o.f.path) o.f.mode o.f.data).1) := (good_userW HGD.out _ _ _).mono (by omega)
    have HWX : Hid (WN (k + 1) (userWrite m (dirW ++ o.f.path) o.f.mode o.f.data).1) := wn_write HWN.out _ _ _
    have HTX : Hid (Tru (userWrite m (dirW ++ o.f.path) o.f.mode o.f.data).1 ix) := tru_write HTR.out _ _ _
    clear hk9 hdl2 htm
    go_wp2_with fail
    go_at_call 17
    refine Calls.mono HC.out ?_
    rintro e w8 ⟨rfl, hp8⟩
    have H8 : Hid _ := St.post H7.out hp8
    have HI8 : Hid _ := HI7.out.frs (FrS.fr hp8)
    clear hp8 HC y0 z0 z1 z4 z6
    go_wp2_with fail
    go_roundw
    case rel => exact ⟨k + 1, _, ix, wt, _, n, gi, gx, by omega, by go_num, rfl, HTX, HWX, HGX, HID, ⟨by omega, by omega⟩, H8, HI8⟩
    case measure => simp [intOf]; omega

end
theorem scanTrue_any (v vp : Value) (l : List Sop) (pats : List B8) (w : World) (hB : Ext baseW w) (hE : Env w) (hS : EnvS w) (hv : IsSops w v l) (hp : IsStrs w vp pats) :
    Calls Tryz.prog 3 #[v, vp] w fun e w' => e = .returned (.bool true) ∧ Ext w w' :=
  scanTrue_kept (KW := ⟨⟨fun _ => none⟩⟩) (fun _ => rfl) v vp l pats w hB hE hS hv hp

end Go.Proofs.YtdhgmpibjneplaaGreatDoor
