/- What marlaw13.ScanTrue says, in plain Lean: users write and remove, a scan tells just what stands there. Conditions: as each theorem states. -/
import Derived.Test.YtfgdmlmfgnhpaaaGreatDoorZak
import Derived.Test.YtfgdmlmfgnhpaaaGreatDoorZaf

set_option linter.unusedVariables false
set_option linter.unusedSimpArgs false
set_option linter.unusedSectionVars false

/-! marref5.FS: begin: a call begins. Conditions: at most 6000000 ticks; a plan that is few. -/
namespace Go.Proofs.YtfgdmlmfgnhpaaaGreatDoor
open Go Go.RowKit
variable [Inhabited BaseW]

end Go.Proofs.YtfgdmlmfgnhpaaaGreatDoor

/-! marref5.FS: Create, Write, Remove, Sync. Conditions: what holds of a file system at all times; short paths. -/
namespace Go.Proofs.YtfgdmlmfgnhpaaaGreatDoor
open Go Go.RowKit
variable [Inhabited BaseW]

/-- What a call finds. -/
structure RefIn (O R : Nat → Prop) (w : World) (p : Value) (m : Fs) : Prop where
  fs : IsRef O R w p m
  ok : OkM m
  plan : PlanOk m
  time : m.time ≤ 5000000
  calls : m.calls ≤ 9000000
  low : ∀ k, O k → k < w.heap.size
  base : Ext baseW w
  high : ∀ k, O k → baseW.heap.size ≤ k
  room0 : 0 ≤ m.room
  room1 : m.room ≤ 1073741824
theorem RefIn.ext {O R : Nat → Prop} {w wx : World} {p : Value} {m : Fs} (h : RefIn O R w p m) (hx : Ext w wx) : RefIn O R wx p m :=
  ⟨h.fs.ext hx, h.ok, h.plan, h.time, h.calls, fun k hk => Nat.lt_of_lt_of_le (h.low k hk) hx.size, h.base.trans hx, h.high, h.room0, h.room1⟩
theorem IsRef.ptr {O R : Nat → Prop} {w : World} {p : Value} {m : Fs} (h : IsRef O R w p m) : ∃ g, p = .pointer (some ⟨g, 0, none⟩) := by
  obtain ⟨g, _, _, _, _, _, h1, _⟩ := h
  exact ⟨g, h1⟩
theorem IsRef.room {O R : Nat → Prop} {w : World} {g : Nat} {m : Fs} (h : IsRef O R w (.pointer (some ⟨g, 0, none⟩)) m) : w.cell? ⟨g, 0, none⟩ = some (.int .i64 m.room) := by
  obtain ⟨g', vn, vs, vp, vl, vu, hpe, hg, _⟩ := h
  cases hpe
  exact (cellsAt9 hg).1

end Go.Proofs.YtfgdmlmfgnhpaaaGreatDoor

/-! marref5.FS: move, Move, MoveNew. Conditions: what holds of a file system at all times; short paths. -/
namespace Go.Proofs.YtfgdmlmfgnhpaaaGreatDoor
open Go Go.RowKit
variable [Inhabited BaseW]

end Go.Proofs.YtfgdmlmfgnhpaaaGreatDoor

/-! marref5.FS: Peek, Paths, Read, List. Conditions: what holds of a file system at all times; short paths. -/
namespace Go.Proofs.YtfgdmlmfgnhpaaaGreatDoor
open Go Go.RowKit
variable [Inhabited BaseW]

end Go.Proofs.YtfgdmlmfgnhpaaaGreatDoor

/-! marref5.FS: List, New, Plan, User, and what each tells of itself. Conditions: what holds of a file system at all times; short paths. -/
namespace Go.Proofs.YtfgdmlmfgnhpaaaGreatDoor
open Go Go.RowKit
variable [Inhabited BaseW]

def inDir (dir q : B8) : Bool := dir == [] || isUnder dir q
end Go.Proofs.YtfgdmlmfgnhpaaaGreatDoor

/-! marref5.FS: New, Plan, User, and what each tells of itself. Conditions: what holds of a file system at all times. -/
namespace Go.Proofs.YtfgdmlmfgnhpaaaGreatDoor
open Go Go.RowKit
variable [Inhabited BaseW]

section
variable {O R : Nat → Prop} {w : World} {p : Value} {m : Fs}
end

def NewRPost (room : Int) (w : World) (e : Ending) (w' : World) : Prop := (∃ p, e = .returned (.tuple #[p, .int .i64 0]) ∧ IsRef (Nu w w') (fun _ => False) w' p (newM room)) ∧ Ext w w'
end Go.Proofs.YtfgdmlmfgnhpaaaGreatDoor

/-! marref5.FS: User. Conditions: at most 10000000 events. -/
namespace Go.Proofs.YtfgdmlmfgnhpaaaGreatDoor
open Go Go.RowKit
variable [Inhabited BaseW]

section
variable {ops : Array Oper} {rest : List Oper} {o : Oper} {a : Act} {Q : Exit → Act → World → Prop} {w : World}
end

end Go.Proofs.YtfgdmlmfgnhpaaaGreatDoor

/-! marref: Bytes, Texts, Has; marlaw5: flag, file. Conditions: at most 10000000 texts. -/
namespace Go.Proofs.YtfgdmlmfgnhpaaaGreatDoor
open Go Go.RowKit

set_option maxRecDepth 100000 in
set_option maxHeartbeats 1000000 in
theorem texts_any (a b : Value) (la lb : List B8) (w : World) (ha : IsStrs w a la) (hb : IsStrs w b lb) :
    Calls Tryz.prog 43 #[a, b] w fun e w' => e = .returned (.bool (la == lb)) ∧ Ext w w' := by
  obtain ⟨a1, c1, rfl, l1, l2, l3, hg1⟩ := ha.get
  obtain ⟨a2, c2, rfl, k1, k2, k3, hg2⟩ := hb.get
  have H1 : Hid _ := hg1
  have H2 : Hid _ := hg2
  clear ha hb hg1 hg2
  by_cases hl : la.length = lb.length
  · have hli : ((la.length : Int) == (lb.length : Int)) = true := by rw [beq_iff_eq]; omega
    have HL : Hid _ := hl
    rw [← hl] at k1 k2
    have HB : Hid (∀ k, k < la.length → ∃ b o, a2 = some ⟨b, o, none⟩ ∧ (∀ i, i < la.length → w.cell? ⟨b, o + i, none⟩ = some (S8 (lb.getD i [])))) := by
      unfold Hid; rw [hl]; exact H2.out
    obtain ⟨n2, hn2⟩ : ∃ n2, lb.length = n2 := ⟨_, rfl⟩
    have hn2l : n2 = la.length := by omega
    rw [hn2, hn2l]
    clear hn2 hli hl hn2l
    go_enter Tryz.func43, Tryz.ntmps43
    go_wp2
    go_loopw [5] (fun i wr => ∃ k : Nat, k ≤ la.length ∧ i = .int .i64 k ∧ la.take k = lb.take k ∧ Ext w wr) (fun i _ => la.length - (intOf i).toNat)
    case atStart => exact ⟨0, Nat.zero_le _, rfl, by simp, Ext.refl _⟩
    case round =>
      obtain ⟨k, hk, rfl, htk, hx⟩ := hrel
      have HT : Hid _ := htk
      clear htk
      by_cases hlt : k < la.length
      · obtain ⟨b1, o1, rfl, hc1⟩ := H1.out k hlt
        obtain ⟨b2, o2, rfl, hc2⟩ := HB.out k hlt
        have y1 := hx.cell (hc1 k hlt)
        have y2 := hx.cell (hc2 k hlt)
        obtain ⟨p, hp⟩ : ∃ p, la.getD k [] = p := ⟨_, rfl⟩
        obtain ⟨q, hq⟩ : ∃ q, lb.getD k [] = q := ⟨_, rfl⟩
        rw [hp] at y1
        rw [hq] at y2
        have HP : Hid (la[k]? = some p) := by
          unfold Hid; rw [List.getElem?_eq_getElem hlt, ← hp]; simp [hlt]
        have hlt2 : k < lb.length := by rw [← HL.out]; exact hlt
        have HQ : Hid (lb[k]? = some q) := by
          unfold Hid; rw [List.getElem?_eq_getElem hlt2, ← hq]; simp [hlt2]
        have tp := tl p
        have tq := tl q
        obtain ⟨bq, hbq⟩ : ∃ bq, (p == q) = bq := ⟨_, rfl⟩
        have HBQ : Hid _ := hbq
        clear hc1 hc2 hp hq hlt2
        go_wp2_with fail
        apply wp_region_mix 9 [_, _, _, _, _, _, _, _, .bool (!bq)] [none, none, none, none, none, none, none, none, none] [[], [], [0, 1], [2], [], [], [4, 5], [6], [3, 7]] (by kernel_rfl) (by kernel_rfl) (by simp [mixV])
        · trivial
        · simp (maxSteps := 1000000) only [List.take_succ_cons, List.take_zero, oblFrom, stepObl, fillFrom, Act.put, List.setIfInBounds_toArray, List.set_cons_zero, List.set_cons_succ, knows, getV, mixV, List.getD_cons_zero, List.getD_cons_succ, and_true, true_and, forall_const]
          refine ⟨?_, ?_, ?_, ?_, ?_, ?_, ?_, ?_, ?_⟩
          · intro xs wq hq R hR
            have f1 := hq.cell y1; have f2 := hq.cell y2
            go_simp
            exact hR _ _ (Ext.refl _) rfl
          · intro xs wq hq R hR
            have f1 := hq.cell y1; have f2 := hq.cell y2
            go_simp
            exact hR _ _ (Ext.refl _) rfl
          · intro xs wq hq hk R hR
            obtain ⟨hk0, hk1⟩ := hk
            have f1 := hq.cell y1; have f2 := hq.cell y2
            go_simp
            exact hR _ _ (Ext.refl _) rfl
          · intro xs wq hq hk R hR
            have f1 := hq.cell y1; have f2 := hq.cell y2
            go_simp
            exact hR _ _ (Ext.refl _) rfl
          · intro xs wq hq R hR
            have f1 := hq.cell y1; have f2 := hq.cell y2
            go_simp
            exact hR _ _ (Ext.refl _) rfl
          · intro xs wq hq R hR
            have f1 := hq.cell y1; have f2 := hq.cell y2
            go_simp
            exact hR _ _ (Ext.refl _) rfl
          · intro xs wq hq hk R hR
            obtain ⟨hk0, hk1⟩ := hk
            have f1 := hq.cell y1; have f2 := hq.cell y2
            go_simp
            exact hR _ _ (Ext.refl _) rfl
          · intro xs wq hq hk R hR
            have f1 := hq.cell y1; have f2 := hq.cell y2
            go_simp
            exact hR _ _ (Ext.refl _) rfl
          · intro xs wq hq hk R hR
            obtain ⟨hk0, hk1⟩ := hk
            have f1 := hq.cell y1; have f2 := hq.cell y2
            go_simp
            exact hR _ _ (Ext.refl _) rfl
        intro xs w2 hx2 hk
        simp only [heldV, Nat.zero_add, Nat.reduceAdd, and_true] at hk
        obtain ⟨q0, q1, q2, q3, q4, q5, q6, q7, q8⟩ := hk
        simp (maxSteps := 1000000) only [List.take_succ_cons, List.take_zero, List.drop_succ_cons, List.drop_zero, fillFrom, Act.put, List.setIfInBounds_toArray, List.set_cons_zero, List.set_cons_succ, Nat.zero_add, Nat.reduceAdd, q0, q1, q2, q3, q4, q5, q6, q7, q8]
        clear q0 q1 q2 q3 q4 q5 q6 q7 q8
        have hxr := hx.trans hx2
        clear hbq
        cases bq with
        | false =>
          have hne : p ≠ q := by simpa using HBQ.out
          have HF : Hid ((la == lb) = false) := by
            unfold Hid
            rw [beq_eq_false_iff_ne]
            intro e
            have h1 := HP.out
            rw [e, HQ.out] at h1
            exact hne (Option.some.inj h1).symm
          clear hne
          go_wp2
          go_ret
          exact ⟨ret_b HF.out.symm, hxr⟩
        | true =>
          have heq : p = q := by simpa using HBQ.out
          have HE : Hid _ := heq
          clear heq
          go_wp2
          go_roundw
          case rel => exact ⟨k + 1, by omega, by go_num, by rw [List.take_add_one, List.take_add_one, HP.out, HQ.out, HE.out, HT.out], hxr⟩
          case measure => simp [intOf]; omega
      · have hkk : la.length ≤ k := by omega
        have HF : Hid ((la == lb) = true) := by
          have := HT.out
          rw [List.take_of_length_le hkk, List.take_of_length_le (by rw [← HL.out]; exact hkk)] at this
          unfold Hid; simpa using this
        go_wp2
        go_ret
        exact ⟨ret_b HF.out.symm, hx⟩
  · have hli : ((la.length : Int) == (lb.length : Int)) = false := by rw [beq_eq_false_iff_ne]; omega
    have HF : Hid ((la == lb) = false) := by
      unfold Hid
      rw [beq_eq_false_iff_ne]
      intro e; exact hl (by rw [e])
    clear hl
    go_enter Tryz.func43, Tryz.ntmps43
    go_wp2
    go_ret
    exact ⟨ret_b HF.out.symm, Ext.refl _⟩

set_option maxRecDepth 100000 in
set_option maxHeartbeats 1000000 in
theorem has_any (a : Value) (la : List B8) (s : B8) (w : World) (ha : IsStrs w a la) :
    Calls Tryz.prog 33 #[a, S8 s] w fun e w' => e = .returned (.bool (la.contains s)) ∧ Ext w w' := by
  obtain ⟨a1, c1, rfl, l1, l2, l3, hg1⟩ := ha.get
  have H1 : Hid _ := hg1
  have ts := tl s
  clear ha hg1
  go_enter Tryz.func33, Tryz.ntmps33
  go_wp2
  go_loopw [5] (fun i wr => ∃ k : Nat, k ≤ la.length ∧ i = .int .i64 k ∧ s ∉ la.take k ∧ Ext w wr) (fun i _ => la.length - (intOf i).toNat)
  case atStart => exact ⟨0, Nat.zero_le _, rfl, by simp, Ext.refl _⟩
  case round =>
    obtain ⟨k, hk, rfl, htk, hx⟩ := hrel
    have HT : Hid _ := htk
    clear htk
    by_cases hlt : k < la.length
    · obtain ⟨b1, o1, rfl, hc1⟩ := H1.out k hlt
      have y1 := hx.cell (hc1 k hlt)
      obtain ⟨p, hp⟩ : ∃ p, la.getD k [] = p := ⟨_, rfl⟩
      rw [hp] at y1
      have HP : Hid (la[k]? = some p) := by
        unfold Hid; rw [List.getElem?_eq_getElem hlt, ← hp]; simp [hlt]
      have tp := tl p
      obtain ⟨bq, hbq⟩ : ∃ bq, (p == s) = bq := ⟨_, rfl⟩
      have HBQ : Hid _ := hbq
      clear hc1 hp
      cases bq with
      | true =>
        have HF : Hid (la.contains s = true) := by
          have : p = s := by simpa using HBQ.out
          unfold Hid
          rw [List.contains_iff_mem, ← this]
          exact List.mem_of_getElem? HP.out
        go_wp2
        go_ret
        exact ⟨ret_b HF.out.symm, hx⟩
      | false =>
        go_wp2
        go_roundw
        case rel =>
          refine ⟨k + 1, by omega, by go_num, fun hm => ?_, hx⟩
          rw [List.take_add_one, HP.out, Option.toList_some] at hm
          rcases List.mem_append.1 hm with hm | hm
          · exact HT.out hm
          · have : s = p := by simpa using hm
            have h2 := HBQ.out
            rw [this] at h2
            simp at h2
        case measure => simp [intOf]; omega
    · have hkk : la.length ≤ k := by omega
      have HF : Hid (la.contains s = false) := by
        have := HT.out
        rw [List.take_of_length_le hkk] at this
        unfold Hid
        cases hc : la.contains s with
        | false => rfl
        | true => exact absurd (List.contains_iff_mem.1 hc) this
      go_wp2
      go_ret
      exact ⟨ret_b HF.out.symm, hx⟩

def FilePost (f g : Fi) (w : World) (e : Ending) (w' : World) : Prop := (∃ r : Bool, e = .returned (.bool r) ∧ (f = g → r = true)) ∧ Ext w w'
end Go.Proofs.YtfgdmlmfgnhpaaaGreatDoor

/-! marlaw16.TablePaths, what the chapter's examples fix given. Conditions: as each theorem states. -/
namespace Go.Proofs.YtfgdmlmfgnhpaaaGreatDoor
open Go Go.RowKit Go.Sort
set_option linter.unusedVariables false
set_option linter.unusedSimpArgs false
set_option linter.unusedSectionVars false

def First16 (w : World) : Prop := ∀ w', Ext w w' → Calls Tryz.prog 37 #[] w' fun e w'' => e = .returned (.bool true) ∧ Ext w' w''
theorem tbs_new {w : World} {us : List Value} {ls : List (List Rw)} (hl : us.length = ls.length) (hn : us.length ≤ 1000) (h : ∀ (k : Nat) (u : Value) (l : List Rw), us[k]? = some u → ls[k]? = some l → IsRws w u l) :
    IsTbs (w.alloc (.cells us.toArray 51)) (.slice (some ⟨w.heap.size, 0, none⟩) us.length us.length) us ls :=
  ⟨Row.new (alloc_at w _) (by omega) _ rfl, hl, fun k u l h1 h2 => (h k u l h1 h2).ext ((Ext.refl _).alloc _)⟩
theorem tbs2 {w : World} {u v : Value} {a b : List Rw} (ha : IsRws w u a) (hb : IsRws w v b) : IsTbs (w.alloc (.cells #[u, v] 51)) (.slice (some ⟨w.heap.size, 0, none⟩) 2 2) [u, v] [a, b] :=
  tbs_new (us := [u, v]) rfl (by simp) (fun k x l hu hl => by
    match k, hu, hl with
    | 0, hu, hl => cases hu; cases hl; exact ha
    | 1, hu, hl => cases hu; cases hl; exact hb
    | k + 2, hu, hl => simp at hu)
theorem tbs3 {w : World} {u v x : Value} {a b c : List Rw} (ha : IsRws w u a) (hb : IsRws w v b) (hc : IsRws w x c) : IsTbs (w.alloc (.cells #[u, v, x] 51)) (.slice (some ⟨w.heap.size, 0, none⟩) 3 3) [u, v, x] [a, b, c] :=
  tbs_new (us := [u, v, x]) rfl (by simp) (fun k y l hu hl => by
    match k, hu, hl with
    | 0, hu, hl => cases hu; cases hl; exact ha
    | 1, hu, hl => cases hu; cases hl; exact hb
    | 2, hu, hl => cases hu; cases hl; exact hc
    | k + 3, hu, hl => simp at hu)
theorem paths_aab (a b : List Rw) : uniqT (pathsLs [a, a, b]) = pathsT a b := by
  unfold pathsT pathsLs
  refine (uniqT_of (uniqT_rise _) (fun x => ?_)).symm
  rw [uniqT_mem]
  simp only [List.flatMap_cons, List.flatMap_nil, List.append_nil, List.mem_append]
  constructor
  · rintro (h | h)
    · exact .inl h
    · exact .inr (.inr h)
  · rintro (h | h | h)
    · exact .inl h
    · exact .inl h
    · exact .inr h
theorem paths_nil : uniqT (pathsLs []) = [] := uniqT_nil
theorem has_step {l : List Rw} {k : Nat} {x : Rw} {p : B8} (h : l[k]? = some x) : ((l.take (k + 1)).any fun r => r.path == p) = (((l.take k).any fun r => r.path == p) || (x.path == p)) := by
  rw [take_snocR h, List.any_append]
  simp
theorem paths_has {a b : List Rw} {p : B8} : (pathsT a b).contains p = ((a.any fun r => r.path == p) || (b.any fun r => r.path == p)) := by
  rw [Bool.eq_iff_iff, List.contains_iff_mem, Bool.or_eq_true, List.any_eq_true, List.any_eq_true]
  unfold pathsT
  rw [uniqT_mem, List.mem_append, List.mem_map, List.mem_map]
  simp only [beq_iff_eq]

set_option maxRecDepth 100000 in
set_option maxHeartbeats 16000000 in
theorem tablePaths_of (va vb : Value) (a b : List Rw) (p : B8) (w : World) (hF : First16 w) (hva : IsRws w va a) (hvb : IsRws w vb b) :
    Calls Tryz.prog 7 #[va, vb, S8 p] w fun e w' => e = .returned (.bool true) ∧ Ext w w' := by
  obtain ⟨aa, ac, rfl, -, -, -, hga⟩ := hva.cells
  obtain ⟨ba, bc, rfl, -, -, -, hgb⟩ := hvb.cells
  have HVA : Hid (IsRws w (.slice aa a.length ac) a) := hva
  have HVB : Hid (IsRws w (.slice ba b.length bc) b) := hvb
  have HGA : Hid _ := hga
  have HGB : Hid _ := hgb
  have HF : Hid (First16 w) := hF
  clear hva hvb hF hga hgb
  go_enter Tryz.func7, Tryz.ntmps7
  go_wp2_with fail
  go_at_call 37
  refine (HF.out w (Ext.refl _)).mono ?_
  rintro e w1 ⟨rfl, hx1⟩
  have HX1 : Hid (Ext w w1) := hx1
  clear hx1
  go_wp2_with fail
  go_at_call 38
  refine (few16_any _ a w1 (HVA.out.ext HX1.out)).mono ?_
  rintro e w2 ⟨ta, rfl, rfl, hta⟩
  have HTA0 : Hid (ta = true → a.length ≤ 100 ∧ ∀ r ∈ a, r.path.length ≤ 400 ∧ r.id.length ≤ 400) := hta
  clear hta
  obtain ⟨w1, rfl⟩ : ∃ w1 : World, w1 = w2 := ⟨_, rfl⟩
  cases ta with
  | false =>
    go_wp2_with fail
    go_at_call 37
    refine (HF.out _ HX1.out).mono ?_
    rintro e wz ⟨rfl, hxz⟩
    go_wp2
    go_ret
    exact ⟨rfl, HX1.out.trans hxz⟩
  | true =>
  have ha100 := (HTA0.out rfl).1
  go_wp2_with fail
  go_at_call 38
  refine (few16_any _ b w1 (HVB.out.ext HX1.out)).mono ?_
  rintro e w2 ⟨tb, rfl, rfl, htb⟩
  have HTB0 : Hid (tb = true → b.length ≤ 100 ∧ ∀ r ∈ b, r.path.length ≤ 400 ∧ r.id.length ≤ 400) := htb
  clear htb
  obtain ⟨w1, rfl⟩ : ∃ w1 : World, w1 = w2 := ⟨_, rfl⟩
  cases tb with
  | false =>
    go_wp2_with fail
    go_at_call 37
    refine (HF.out _ HX1.out).mono ?_
    rintro e wz ⟨rfl, hxz⟩
    go_wp2
    go_ret
    exact ⟨rfl, HX1.out.trans hxz⟩
  | true =>
  have hb100 := (HTB0.out rfl).1
  clear HTA0 HTB0
  by_cases hpl : (400 : Int) < (p.length : Int)
  · go_wp2_with fail
    go_at_call 37
    refine (HF.out _ HX1.out).mono ?_
    rintro e wz ⟨rfl, hxz⟩
    go_wp2
    go_ret
    exact ⟨rfl, HX1.out.trans hxz⟩
  have hpu : (pathsT a b).length ≤ 200 := by
    refine Nat.le_trans (uniqT_len _) ?_
    rw [List.length_append, List.length_map, List.length_map]
    omega
  have hl2 : (pathsLs [a, b]).length ≤ 1000000 := by show ([a, b].flatMap fun l => l.map (·.path)).length ≤ _; simp; omega
  have hl3 : (pathsLs [b, a]).length ≤ 1000000 := by show ([b, a].flatMap fun l => l.map (·.path)).length ≤ _; simp; omega
  have hl4 : (pathsLs [a, a, b]).length ≤ 1000000 := by show ([a, a, b].flatMap fun l => l.map (·.path)).length ≤ _; simp; omega
  have HL3 : Hid _ := hl3
  have HL4 : Hid _ := hl4
  have HE1 : Hid (uniqT (pathsLs [b, a]) = pathsT a b) := (pathsLs2 b a).trans (paths_comm a b)
  have HE2 : Hid (uniqT (pathsLs [a, a, b]) = pathsT a b) := paths_aab a b
  have HRS : Hid (riseT (pathsT a b)) := uniqT_rise _
  have HHS : Hid (∀ q, (pathsT a b).contains q = ((a.any fun r => r.path == q) || (b.any fun r => r.path == q))) := fun q => paths_has
  go_wp2_with fail
  obtain ⟨w3, hw3⟩ : ∃ w3, w3 = w1.alloc (.cells #[.slice aa a.length ac, .slice ba b.length bc] 51) := ⟨_, rfl⟩
  have htb : IsTbs w3 (.slice (some ⟨w1.heap.size, 0, none⟩) 2 2) [.slice aa a.length ac, .slice ba b.length bc] [a, b] := by rw [hw3]; exact tbs2 (HVA.out.ext HX1.out) (HVB.out.ext HX1.out)
  have HX3 : Hid (Ext w w3) := by rw [hw3]; exact HX1.out.alloc _
  have HTB : Hid _ := htb
  rw [← hw3]
  clear hw3 htb hl3 hl4
  go_at_call 42
  refine (tpaths_any _ _ _ w3 HTB.out hl2).mono ?_
  rw [pathsLs2]
  obtain ⟨P, hP⟩ : ∃ P, pathsT a b = P := ⟨_, rfl⟩
  rw [hP] at hpu HE1 HE2 HRS HHS ⊢
  rintro e w4 ⟨⟨vp, rfl, hvp⟩, hx4⟩
  have hsp : IsStrs w4 vp P := Row.of_owns hvp (by omega)
  have HSP : Hid (IsStrs w4 vp P) := hsp
  obtain ⟨pa, pc, rfl, -⟩ := hsp.get
  have HX4 : Hid (Ext w w4) := HX3.out.trans hx4
  clear hP hvp hsp hx4 HTB hl2
  go_wp2_with fail
  go_at_call 28
  refine (rises16_any _ P w4 HSP.out).mono ?_
  rintro e w5 ⟨⟨c, rfl, hc⟩, hx5⟩
  obtain rfl : c = true := hc.2 HRS.out
  have HX45 : Hid (Ext w4 w5) := hx5
  have HX5 : Hid (Ext w w5) := HX4.out.trans hx5
  clear hc hx5
  go_wp2_with fail
  obtain ⟨w6, hw6⟩ : ∃ w6, w6 = w5.alloc (.cells #[.slice ba b.length bc, .slice aa a.length ac] 51) := ⟨_, rfl⟩
  have htb : IsTbs w6 (.slice (some ⟨w5.heap.size, 0, none⟩) 2 2) [.slice ba b.length bc, .slice aa a.length ac] [b, a] := by rw [hw6]; exact tbs2 (HVB.out.ext HX5.out) (HVA.out.ext HX5.out)
  have HX46 : Hid (Ext w4 w6) := by rw [hw6]; exact HX45.out.alloc _
  have HTB : Hid _ := htb
  rw [← hw6]
  clear hw6 htb
  go_at_call 42
  refine (tpaths_any _ _ _ w6 HTB.out HL3.out).mono ?_
  rw [HE1.out]
  rintro e w7 ⟨⟨vq, rfl, hvq⟩, hx7⟩
  have HSQ : Hid (IsStrs w7 vq P) := Row.of_owns hvq (by omega)
  obtain ⟨qa, qc, rfl, -⟩ := HSQ.out.get
  have HX47 : Hid (Ext w4 w7) := HX46.out.trans hx7
  clear hvq hx7 HTB
  go_wp2_with fail
  go_at_call 43
  refine (texts_any _ _ P P w7 HSQ.out (IsStrs.ext HSP.out HX47.out)).mono ?_
  rw [show (P == P) = true by simp]
  rintro e w8 ⟨rfl, hx8⟩
  have HX48 : Hid (Ext w4 w8) := HX47.out.trans hx8
  have HX8 : Hid (Ext w w8) := HX4.out.trans HX48.out
  clear hx8 HSQ
  go_wp2_with fail
  obtain ⟨w9, hw9⟩ : ∃ w9, w9 = w8.alloc (.cells #[.slice aa a.length ac, .slice aa a.length ac, .slice ba b.length bc] 51) := ⟨_, rfl⟩
  have htb : IsTbs w9 (.slice (some ⟨w8.heap.size, 0, none⟩) 3 3) [.slice aa a.length ac, .slice aa a.length ac, .slice ba b.length bc] [a, a, b] := by rw [hw9]; exact tbs3 (HVA.out.ext HX8.out) (HVA.out.ext HX8.out) (HVB.out.ext HX8.out)
  have HX49 : Hid (Ext w4 w9) := by rw [hw9]; exact HX48.out.alloc _
  have HTB : Hid _ := htb
  rw [← hw9]
  clear hw9 htb
  go_at_call 42
  refine (tpaths_any _ _ _ w9 HTB.out HL4.out).mono ?_
  rw [HE2.out]
  rintro e wa ⟨⟨vq, rfl, hvq⟩, hxa⟩
  have HSQ : Hid (IsStrs wa vq P) := Row.of_owns hvq (by omega)
  obtain ⟨qa, qc, rfl, -⟩ := HSQ.out.get
  have HX4a : Hid (Ext w4 wa) := HX49.out.trans hxa
  clear hvq hxa HTB
  go_wp2_with fail
  go_at_call 43
  refine (texts_any _ _ P P wa HSQ.out (IsStrs.ext HSP.out HX4a.out)).mono ?_
  rw [show (P == P) = true by simp]
  rintro e wb ⟨rfl, hxb⟩
  have HX4b : Hid (Ext w4 wb) := HX4a.out.trans hxb
  clear hxb HSQ
  go_wp2_with fail
  go_at_call 42
  refine (tpaths_any _ [] [] wb ⟨Row.nil _, rfl, fun k u l hu hl => by simp at hu⟩ (by show (0 : Nat) ≤ _; omega)).mono ?_
  rw [paths_nil]
  rintro e wc ⟨⟨vq, rfl, hvq⟩, hxc⟩
  have hn : IsStrs wc vq [] := Row.of_owns hvq (by simp)
  obtain ⟨qa, qc, rfl, -⟩ := hn.get
  have HX4c : Hid (Ext w4 wc) := HX4b.out.trans hxc
  clear hvq hxc hn
  go_wp2_with fail
  go_loopw [8, 9, 10] (fun x y i wr => ∃ k : Nat, k ≤ a.length ∧ i = .int .i64 k ∧ y = .bool false ∧ x = .bool ((a.take k).any fun r => r.path == p) ∧ Hid (Ext w4 wr)) (fun _ _ i _ => a.length - (intOf i).toNat)
  case atStart => exact ⟨0, Nat.zero_le _, rfl, rfl, rfl, HX4c⟩
  case round =>
  obtain ⟨k, hk, rfl, rfl, rfl, HX⟩ := hrel
  obtain ⟨xq, hxq⟩ : ∃ c, ((a.take k).any fun r => r.path == p) = c := ⟨_, rfl⟩
  have HXQ : Hid _ := hxq
  rw [hxq]
  clear hxq
  by_cases hlt : k < a.length
  case pos =>
    obtain ⟨r, hr⟩ : ∃ r, a[k]? = some r := ⟨_, List.getElem?_eq_getElem hlt⟩
    obtain ⟨rb, ro, rfl, c0, -, -⟩ := HGA.out k r hr
    have y0 := HX.out.cell (HX4.out.cell c0)
    have HSN : Hid _ := has_step (p := p) hr
    have HHC : Hid (P.contains r.path = true) := by
      unfold Hid
      rw [HHS.out, Bool.or_eq_true]
      exact .inl (List.any_eq_true.2 ⟨r, List.mem_of_getElem? hr, by simp⟩)
    have htr : (⟨r.path.toArray⟩ : ByteArray).toList = r.path := Lib.toList_data _
    have htp : (⟨p.toArray⟩ : ByteArray).toList = p := Lib.toList_data _
    obtain ⟨bq, hbq⟩ : ∃ q, (r.path == p) = q := ⟨_, rfl⟩
    have HBQ : Hid _ := hbq
    have HX0 : Hid (Ext w4 wr) := HX
    clear c0 hr
    cases xq <;> cases bq
    all_goals
      go_wp2_with fail
      go_at_call 33
      refine (has_any _ P r.path wr (IsStrs.ext HSP.out HX0.out)).mono ?_
      rw [HHC.out]
      rintro e wh ⟨rfl, hxh⟩
      have HXH : Hid (Ext w4 wh) := HX0.out.trans hxh
      clear hxh y0
      go_wp2_with fail
      go_roundw
      case rel => exact ⟨k + 1, by omega, by go_num, rfl, by rw [HSN.out]; rw [HXQ.out, HBQ.out]; rfl, HXH⟩
      case measure => simp [intOf]; omega
  have hkk : k = a.length := by omega
  subst hkk
  have HXA : Hid ((a.any fun r => r.path == p) = xq) := by have h9 := HXQ.out; rwa [List.take_length] at h9
  have HXL : Hid (Ext w4 wr) := HX
  clear hk hlt
  go_wp2_with fail
  go_loopw [8, 9, 11] (fun x y i wq => ∃ k : Nat, k ≤ b.length ∧ i = .int .i64 k ∧ y = .bool false ∧ x = .bool ((a.any fun r => r.path == p) || ((b.take k).any fun r => r.path == p)) ∧ Hid (Ext w4 wq)) (fun _ _ i _ => b.length - (intOf i).toNat)
  case atStart => exact ⟨0, Nat.zero_le _, rfl, rfl, by rw [HXA.out]; simp, HXL⟩
  case round =>
  clear HXL HX HXQ
  obtain ⟨k, hk, rfl, rfl, rfl, HX⟩ := hrel
  obtain ⟨xq, hxq⟩ : ∃ c, ((a.any fun r => r.path == p) || ((b.take k).any fun r => r.path == p)) = c := ⟨_, rfl⟩
  have HXQ : Hid _ := hxq
  rw [hxq]
  clear hxq
  by_cases hlt : k < b.length
  case pos =>
    obtain ⟨r, hr⟩ : ∃ r, b[k]? = some r := ⟨_, List.getElem?_eq_getElem hlt⟩
    obtain ⟨rb, ro, rfl, c0, -, -⟩ := HGB.out k r hr
    have y0 := HX.out.cell (HX4.out.cell c0)
    have HSN : Hid _ := has_step (p := p) hr
    have HHC : Hid (P.contains r.path = true) := by
      unfold Hid
      rw [HHS.out, Bool.or_eq_true]
      exact .inr (List.any_eq_true.2 ⟨r, List.mem_of_getElem? hr, by simp⟩)
    have htr : (⟨r.path.toArray⟩ : ByteArray).toList = r.path := Lib.toList_data _
    have htp : (⟨p.toArray⟩ : ByteArray).toList = p := Lib.toList_data _
    obtain ⟨bq, hbq⟩ : ∃ q, (r.path == p) = q := ⟨_, rfl⟩
    have HBQ : Hid _ := hbq
    have HX0 : Hid (Ext w4 wr) := HX
    clear c0 hr
    cases xq <;> cases bq
    all_goals
      go_wp2_with fail
      go_at_call 33
      refine (has_any _ P r.path wr (IsStrs.ext HSP.out HX0.out)).mono ?_
      rw [HHC.out]
      rintro e wh ⟨rfl, hxh⟩
      have HXH : Hid (Ext w4 wh) := HX0.out.trans hxh
      clear hxh y0
      go_wp2_with fail
      go_roundw
      case rel => exact ⟨k + 1, by omega, by go_num, rfl, by rw [HSN.out]; rw [← Bool.or_assoc, HXQ.out, HBQ.out]; rfl, HXH⟩
      case measure => simp [intOf]; omega
  have hkk : k = b.length := by omega
  subst hkk
  have HPC : Hid (P.contains p = xq) := by have h9 := HXQ.out; rw [List.take_length] at h9; unfold Hid; rw [HHS.out]; exact h9
  have HXW : Hid (Ext w wr) := HX4.out.trans HX.out
  go_wp2_with fail
  go_at_call 37
  refine (HF.out wr HXW.out).mono ?_
  rintro e we ⟨rfl, hxe⟩
  have HXE : Hid (Ext w4 we) := HX.out.trans hxe
  clear hxe
  go_wp2_with fail
  go_at_call 33
  refine (has_any _ P p we (IsStrs.ext HSP.out HXE.out)).mono ?_
  rw [HPC.out]
  rintro e wf ⟨rfl, hxf⟩
  have HXG : Hid (Ext w wf) := HX4.out.trans (HXE.out.trans hxf)
  clear hxf
  cases xq with
  | true =>
    go_wp2
    go_ret
    exact ⟨rfl, HXG.out⟩
  | false =>
    have HEN : Hid (entG a p = (0, [])) := ent_none (fun r hr he => by
      have h9 := (HHS.out p).symm
      rw [HPC.out, Bool.or_eq_false_iff, List.any_eq_false] at h9
      exact h9.1 r hr (by simpa using he))
    have hfd : ∀ w : World, (Instr.field 83 (.agg #[.int .i64 0, S8 []]) 0).run Tryz.prog w = .ok (.int .i64 0) w := fun _ => by kernel_rfl
    go_wp2_with fail
    go_at_call 44
    refine (tget_any _ a p wf (HVA.out.ext HXG.out)).mono ?_
    rw [HEN.out]
    unfold entV
    dsimp only
    rintro e wg ⟨rfl, hxg⟩
    have HXZ : Hid (Ext w wg) := HXG.out.trans hxg
    clear hxg
    go_wp2
    go_ret
    exact ⟨rfl, HXZ.out⟩

end Go.Proofs.YtfgdmlmfgnhpaaaGreatDoor

/-! What marlaw13.ScanTrue says, in plain Lean: users write and remove, a scan tells just what stands there. Conditions: as each theorem states. -/
namespace Go.Proofs.YtfgdmlmfgnhpaaaGreatDoor
open Go Go.RowKit

/-- What holds between the deeds: a file system, an index. -/
structure Tru (m : Fs) (ix : Files) : Prop where
  ca : Ca m
  ix : ∀ p k, look ix p = some k → k.time ≤ m.time ∧ ∀ f, look m.now (dirW ++ p) = some f → f.time = k.time → k.data = hashB f.data
  tw : ∀ p f, look m.now (dirW ++ p) = some f → f.time ≤ m.time
/-- Rows tell what stands there. -/
structure Told (m : Fs) (pats : List B8) (rows : List Rw) : Prop where
  eq : rows = (takenL pats ((pathsL m.now).filter (isUnder wP))).map (rowOf m.now)
  has : ∀ r ∈ rows, HasF m.now r.id ∧ ∃ d, r.id = hashB d
theorem dirW_under (p : B8) : isUnder wP (dirW ++ p) = true := by unfold isUnder wP dirW; simp [List.isPrefixOf]
theorem Tru.new {m : Fs} {ix : Files} (h : Tru m ix) : Tru m [] := ⟨h.ca, (fun p k hk => by cases hk), h.tw⟩
end Go.Proofs.YtfgdmlmfgnhpaaaGreatDoor
