/- obj: may rows of a tree be; may an object be. Conditions: as each theorem states. -/
import Derived.Test.YtfgdmlmfgnhpaaaGreatDoorZaf
import Derived.Test.YtfgdmlmfgnhpaaaGreatDoorZag
import Derived.Test.YtfgdmlmfgnhpaaaGreatDoorZah
import Derived.Deep.DeepCutAuto
import Derived.Test.YtfgdmlmfgnhpaaaGreatDoorZab
import Derived.Deep.Upon
import Derived.OwnWalk
import Derived.BigQuiet
import Derived.Test.YtfgdmlmfgnhpaaaGreatDoorZae
import Derived.Test.YtfgdmlmfgnhpaaaGreatDoorZad
import Derived.Lib.SlBytesConst
import Derived.Test.YtfgdmlmfgnhpaaaGreatDoorShelf

set_option linter.unusedVariables false
set_option linter.unusedSimpArgs false
set_option linter.unusedSectionVars false

/-! obj: what may be. Conditions: as each theorem states. -/
namespace Go.Proofs.YtfgdmlmfgnhpaaaGreatDoor
open Go Go.RowKit Go.Sort
set_option linter.unusedVariables false
set_option linter.unusedSimpArgs false
set_option linter.unusedSectionVars false

def okC (c : UInt8) : Bool := decide (32 ≤ c.toNat) && decide (c.toNat ≤ 126)
theorem msg_bad {s : ByteArray} {k : Nat} (h : k < s.size) (hb : okC s[k] = false) : msgOk s.data.toList = false := by
  unfold msgOk
  rw [Bool.and_eq_false_iff]
  refine .inl (List.all_eq_false.2 ⟨s[k], ?_, by show ¬ okC _ = true; rw [hb]; simp⟩)
  have : s.data.toList[k]? = some s[k] := by
    rw [List.getElem?_eq_getElem (by simpa using h)]; rfl
  exact List.mem_of_getElem? this
set_option maxHeartbeats 400000 in
theorem mayMsg_s (s : ByteArray) (w : World) (hs : s.size < 4294967281) :
    Calls Tryz.prog 251 #[.string s] w fun e w' => e = .returned (.bool (msgOk s.data.toList)) ∧ w' = w := by
  go_enter Tryz.func251, Tryz.ntmps251
  go_wp2
  go_loop [6] (fun i => ∃ k : Nat, k ≤ s.size ∧ i = .int .i64 k ∧ (s.data.toList.take k).all okC = true) (fun i => s.size - (intOf i).toNat)
  case atStart => exact ⟨0, Nat.zero_le _, rfl, rfl⟩
  case round =>
    obtain ⟨k, hk, rfl, hn⟩ := hrel
    have HN : Hid _ := hn
    clear hn
    by_cases hlt : k < s.size
    · by_cases h1 : (s[k].toNat : Int) < 32
      · go_wp2
        go_ret
        exact ⟨ret_b (msg_bad hlt (by unfold okC; rw [decide_eq_false (by omega)]; rfl)).symm, rfl⟩
      · by_cases h2 : (126 : Int) < s[k].toNat
        · go_wp2
          go_ret
          exact ⟨ret_b (msg_bad hlt (by unfold okC; rw [decide_eq_false (by omega : ¬ s[k].toNat ≤ 126)]; simp)).symm, rfl⟩
        · go_wp2
          go_round
          case rel =>
            exact ⟨k + 1, by omega, by go_num, by rw [take_snoc s k hlt, List.all_append, HN.out]; simp [okC]; omega⟩
          case measure => simp [intOf]; omega
    · have hkk : k = s.size := by omega
      have hall : s.data.toList.all okC = true := by
        have := HN.out
        rwa [hkk, List.take_of_length_le (by simp)] at this
      have HA : Hid _ := hall
      clear hall HN hkk
      go_wp2
      go_ret
      refine ⟨ret_b ?_, rfl⟩
      show _ = (s.data.toList.all okC && decide (s.data.toList.length ≤ 200))
      rw [HA.out]
      have hsz : s.data.toList.length = s.size := by simp
      rw [hsz, Bool.true_and]
      exact decide_eq_decide.2 (by omega)
theorem mayMsg_any (l : B8) (w : World) (hs : l.length < 4294967281) :
    Calls Tryz.prog 251 #[S8 l] w fun e w' => e = .returned (.bool (msgOk l)) ∧ w' = w := mayMsg_s ⟨l.toArray⟩ w hs

/-! ### Parents -/
theorem rises_snoc : ∀ (l : List B8) (a b : B8), risesB (l ++ [a, b]) = (risesB (l ++ [a]) && ltB a b)
  | [], a, b => by simp [risesB]
  | [x], a, b => by simp [risesB]
  | x :: y :: l, a, b => by
    have h := rises_snoc (y :: l) a b
    show (ltB x y && risesB (y :: l ++ [a, b])) = (ltB x y && risesB (y :: l ++ [a]) && ltB a b)
    rw [h, Bool.and_assoc]
theorem rises_take {l : List B8} {k : Nat} {a b : B8} (ha : l[k]? = some a) (hb : l[k + 1]? = some b) : risesB (l.take (k + 2)) = (risesB (l.take (k + 1)) && ltB a b) := by
  have h1 : l.take (k + 1) = l.take k ++ [a] := by rw [List.take_add_one, ha]; rfl
  have h2 : l.take (k + 2) = l.take k ++ [a, b] := by rw [List.take_add_one, hb, h1, List.append_assoc]; rfl
  rw [h1, h2, rises_snoc]
theorem rises_cut : ∀ (l : List B8) (k : Nat), risesB l = true → risesB (l.take k) = true
  | [], k, _ => by rw [List.take_nil]; rfl
  | [x], k, _ => by cases k <;> simp [risesB]
  | x :: y :: l, 0, _ => rfl
  | x :: y :: l, 1, _ => rfl
  | x :: y :: l, k + 2, h => by
    have h : (ltB x y && risesB (y :: l)) = true := h
    rw [Bool.and_eq_true] at h
    have ih := rises_cut (y :: l) (k + 1) h.2
    show (ltB x y && risesB (y :: (l.take k))) = true
    rw [h.1]
    exact ih
/-- What was read so far is fine: hashes that rise. -/
def parT (l : List B8) (k : Nat) : Bool := (l.take k).all validB && risesB (l.take k)
theorem parT_bad {l : List B8} {k : Nat} (h : parT l k = false) : parsOk l = false := by
  unfold parT at h
  unfold parsOk
  rw [Bool.and_eq_false_iff] at h ⊢
  rcases h with h | h
  · left
    rw [List.all_eq_false] at h ⊢
    obtain ⟨x, hx, hv⟩ := h
    exact ⟨x, List.mem_of_mem_take hx, hv⟩
  · right
    rw [Bool.and_eq_false_iff]
    left
    cases hq : risesB l with
    | false => rfl
    | true => rw [rises_cut l k hq] at h; cases h
theorem parT_step {l : List B8} {k : Nat} {x : B8} (hx : l[k]? = some x) : parT l (k + 1) = (parT l k && (validB x && (decide (k = 0) || ltB (l.getD (k - 1) []) x))) := by
  unfold parT
  have h1 : l.take (k + 1) = l.take k ++ [x] := by rw [List.take_add_one, hx]; rfl
  rw [h1, List.all_append]
  simp only [List.all_cons, List.all_nil, Bool.and_true]
  cases k with
  | zero => simp [risesB]
  | succ j =>
    have hj : j < l.length := by have := (List.getElem?_eq_some_iff.1 hx).1; omega
    have hy : l[j]? = some (l.getD j []) := by rw [List.getD_eq_getElem?_getD, List.getElem?_eq_getElem hj]; rfl
    have h2 := rises_take hy hx
    rw [h1] at h2
    rw [h2]
    simp only [Nat.add_one_sub_one, Nat.add_eq_zero_iff, Nat.one_ne_zero, and_false, decide_false, Bool.false_or]
    cases (l.take (j + 1)).all validB <;> cases validB x <;> cases risesB (l.take (j + 1)) <;> cases ltB (l.getD j []) x <;> rfl

theorem leT_cases (x y : B8) : (ltB y x = true ∧ Op.bytesLess x y = false ∧ (x == y) = false) ∨ (ltB y x = false ∧ Op.bytesLess x y = true) ∨ (ltB y x = false ∧ Op.bytesLess x y = false ∧ (x == y) = true) := by
  rw [less_ltB]
  cases h1 : ltB y x with
  | true =>
    refine .inl ⟨rfl, ltB_asymm h1, ?_⟩
    rw [beq_eq_false_iff_ne]
    exact fun e => (ltB_ne h1) e.symm
  | false =>
    by_cases he : x = y
    · subst he
      exact .inr (.inr ⟨rfl, by rw [h1], by simp⟩)
    · exact .inr (.inl ⟨rfl, ltB_total h1 (fun e => he e.symm)⟩)
set_option maxRecDepth 100000 in
set_option maxHeartbeats 2000000 in
theorem mayParents_any (v : Value) (l : List B8) (w : World) (hv : IsStrs w v l) (hs : ∀ s ∈ l, s.length ≤ 10000000) :
    Calls Tryz.prog 250 #[v] w fun e w' => e = .returned (.bool (parsOk l)) ∧ Ext w w' := by
  obtain ⟨a, c, rfl, l1, l2, l3, hg⟩ := hv.get
  have HG : Hid _ := hg
  have HS : Hid _ := hs
  clear hv hg hs
  go_enter Tryz.func250, Tryz.ntmps250
  go_wp2
  go_loopw [7] (fun i wr => ∃ k : Nat, k ≤ l.length ∧ i = .int .i64 k ∧ Hid (parT l k = true) ∧ Hid (Ext w wr)) (fun i _ => l.length - (intOf i).toNat)
  case atStart => exact ⟨0, Nat.zero_le _, rfl, rfl, Ext.refl _⟩
  case round =>
    obtain ⟨k, hk, rfl, HT, HX⟩ := hrel
    by_cases hlt : k < l.length
    · obtain ⟨x, hx⟩ : ∃ x, l[k]? = some x := ⟨_, List.getElem?_eq_getElem hlt⟩
      obtain ⟨bb, oo, rfl, hc⟩ := HG.out k hlt
      have hxl := HS.out x (List.mem_of_getElem? hx)
      have y1 := HX.out.cell (hc k hlt)
      rw [show l.getD k [] = x by rw [List.getD_eq_getElem?_getD, hx]; rfl] at y1
      have hst := parT_step hx
      rw [HT.out, Bool.true_and] at hst
      obtain ⟨vx, hvx⟩ : ∃ vx, validB x = vx := ⟨_, rfl⟩
      rw [hvx] at hst
      have HVX : Hid _ := hvx
      have HST : Hid _ := hst
      have HC : Hid _ := hc
      clear hst hvx hx hc
      go_wp2_with fail
      go_at_call 31
      refine (valid_any x wr (by omega)).mono ?_
      rw [HVX.out]
      rintro e w1 ⟨rfl, hx1⟩
      have HX1 : Hid (Ext w w1) := HX.out.trans hx1
      have y2 := hx1.cell y1
      clear hx1 y1
      cases vx with
      | false =>
        have HF : Hid (parsOk l = false) := parT_bad (k := k + 1) (by rw [HST.out]; rfl)
        go_wp2
        go_ret
        exact ⟨ret_b HF.out.symm, HX1.out⟩
      | true =>
        by_cases hk0 : k = 0
        · subst hk0
          have HP : Hid (parT l 1 = true) := by unfold Hid; rw [HST.out]; rfl
          go_wp2
          go_roundw
          case rel => exact ⟨1, by omega, by go_num, HP, HX1⟩
          case measure => simp [intOf]; omega
        · obtain ⟨j, rfl⟩ : ∃ j, k = j + 1 := ⟨k - 1, by omega⟩
          have hwj : IntKind.i64.wrap (((j + 1 : Nat) : Int) - 1) = (j : Int) := by rw [IntWalk.i64_in _ (by omega)]; omega
          have y3 := HX1.out.cell (HC.out j (by omega))
          obtain ⟨z, hz⟩ : ∃ z, l.getD j [] = z := ⟨_, rfl⟩
          rw [hz] at y3
          have hst := HST.out
          rw [show j + 1 - 1 = j from rfl, hz] at hst
          have HST2 : Hid _ := hst
          have hk1 : (0 : Int) < ((j + 1 : Nat) : Int) := by omega
          clear hz hst
          rcases leT_cases x z with ⟨hlt, hb, he⟩ | ⟨hlt, hb⟩ | ⟨hlt, hb, he⟩
          · have HP : Hid (parT l (j + 1 + 1) = true) := by unfold Hid; rw [HST2.out, hlt]; simp
            clear hlt
            go_wp2
            go_roundw
            case rel => exact ⟨j + 1 + 1, by omega, by go_num, HP, HX1⟩
            case measure => simp [intOf]; omega
          · have HF : Hid (parsOk l = false) := parT_bad (k := j + 1 + 1) (by rw [HST2.out, hlt]; simp)
            clear hlt
            go_wp2
            go_ret
            exact ⟨ret_b HF.out.symm, HX1.out⟩
          · have HF : Hid (parsOk l = false) := parT_bad (k := j + 1 + 1) (by rw [HST2.out, hlt]; simp)
            clear hlt
            go_wp2
            go_ret
            exact ⟨ret_b HF.out.symm, HX1.out⟩
    · have hkl : k = l.length := by omega
      have HF : Hid (parsOk l = decide (l.length ≤ 2)) := by
        have h9 := HT.out
        unfold parT at h9
        rw [hkl, List.take_length, Bool.and_eq_true] at h9
        unfold Hid parsOk
        rw [h9.1, h9.2, Bool.true_and, Bool.true_and]
      clear hk
      go_wp2
      go_ret
      refine ⟨ret_b ?_, HX.out⟩
      rw [HF.out]
      exact decide_eq_decide.2 (by omega)

/-! ### An object as a value -/
def itC (x : Itm) : List Value := [.int .i64 x.mode, S8 x.name, S8 x.id]
/-- The slice holds these rows. -/
def IsItms (w : World) (v : Value) (l : List Itm) : Prop := Row w v l.length (l.flatMap itC)
abbrev obV (o : Ob) (vd vi vp : Value) : Value := .agg #[.int .i64 o.kind, vd, vi, S8 o.tree, vp, .int .i64 o.stamp, .int .i64 o.author, S8 o.msg]
def IsOb (w : World) (v : Value) (o : Ob) : Prop := ∃ vd vi vp, v = obV o vd vi vp ∧ IsBytes w vd o.data ∧ IsItms w vi o.items ∧ IsStrs w vp o.parents
theorem IsItms.ext {w w' : World} {v : Value} {l : List Itm} (h : IsItms w v l) (hx : Ext w w') : IsItms w' v l := Row.ext h hx
theorem IsOb.ext {w w' : World} {v : Value} {o : Ob} (h : IsOb w v o) (hx : Ext w w') : IsOb w' v o := by
  obtain ⟨vd, vi, vp, rfl, h1, h2, h3⟩ := h
  exact ⟨vd, vi, vp, rfl, h1.ext hx, h2.ext hx, h3.ext hx⟩
theorem flat_it : ∀ (l : List Itm) (k : Nat) (x : Itm), l[k]? = some x → (l.flatMap itC)[3 * k]? = some (.int .i64 x.mode) ∧ (l.flatMap itC)[3 * k + 1]? = some (S8 x.name) ∧ (l.flatMap itC)[3 * k + 2]? = some (S8 x.id)
  | [], k, x, h => by simp at h
  | y :: l, 0, x, h => by
    simp only [List.getElem?_cons_zero, Option.some.injEq] at h
    subst h
    exact ⟨rfl, rfl, rfl⟩
  | y :: l, k + 1, x, h => by
    simp only [List.getElem?_cons_succ] at h
    have ih := flat_it l k x h
    rw [List.flatMap_cons]
    have e : itC y = [.int .i64 y.mode, S8 y.name, S8 y.id] := rfl
    rw [e, show 3 * (k + 1) = 3 * k + 1 + 1 + 1 by omega]
    exact ih
theorem IsItms.get {w : World} {v : Value} {l : List Itm} (h : IsItms w v l) : ∃ a c, v = .slice a l.length c ∧ l.length ≤ c ∧ l.length ≤ 140737488355328 ∧ c ≤ 9223372036854775807 ∧
    ∀ k x, l[k]? = some x → ∃ b o, a = some ⟨b, o, none⟩ ∧ w.cell? ⟨b, o + k * 3, none⟩ = some (.int .i64 x.mode) ∧ w.cell? ⟨b, o + k * 3 + 1, none⟩ = some (S8 x.name) ∧ w.cell? ⟨b, o + k * 3 + 2, none⟩ = some (S8 x.id) := by
  obtain ⟨a, c, rfl, h1, h2, h3, h4⟩ := h
  refine ⟨a, c, rfl, h1, h3, h2, fun k x hk => ?_⟩
  obtain ⟨f0, f1, f2⟩ := flat_it l k x hk
  obtain ⟨b, o, rfl, hc⟩ := h4 (by intro e; rw [e] at f0; simp at f0)
  refine ⟨b, o, rfl, ?_, ?_, ?_⟩
  · have := hc _ _ f0; rwa [Nat.mul_comm] at this
  · have := hc _ _ f1; rwa [Nat.mul_comm, ← Nat.add_assoc] at this
  · have := hc _ _ f2; rwa [Nat.mul_comm, ← Nat.add_assoc] at this

set_option maxRecDepth 100000 in
set_option maxHeartbeats 2000000 in
theorem noCommit_any (o : Ob) (vd vi vp : Value) (w : World) (hp : IsStrs w vp o.parents) :
    Calls Tryz.prog 248 #[obV o vd vi vp] w fun e w' => e = .returned (.bool (noCom o)) ∧ Ext w w' := by
  obtain ⟨kind, data, items, tree, parents, stamp, author, msg⟩ := o
  obtain ⟨pa, pc, rfl, p1, p2, p3, -⟩ := hp.get
  obtain ⟨r, hr⟩ : ∃ r, noCom ⟨kind, data, items, tree, parents, stamp, author, msg⟩ = r := ⟨_, rfl⟩
  rw [hr]
  have hr2 : ((tree == []) && ((parents.length == 0) && ((stamp == 0) && ((author == 0) && (msg == []))))) = r := hr
  have HR : Hid _ := hr2
  clear hr hr2 hp
  unfold obV
  dsimp only
  go_enter Tryz.func248, Tryz.ntmps248
  by_cases h1 : tree = []
  · have b1 : (tree == ([] : B8)) = true := by simpa using h1
    by_cases h2 : parents.length = 0
    · have b2 : ((parents.length : Int) == 0) = true := by rw [beq_iff_eq]; omega
      by_cases h3 : stamp = 0
      · have b3 : (stamp == 0) = true := by simpa using h3
        by_cases h4 : author = 0
        · have b4 : (author == 0) = true := by simpa using h4
          by_cases h5 : msg = []
          · have b5 : (msg == ([] : B8)) = true := by simpa using h5
            have HF : Hid (r = true) := by unfold Hid; rw [← HR.out, h1, h2, h3, h4, h5]; rfl
            clear h1 h2 h3 h4 h5
            go_wp2
            go_ret
            exact ⟨ret_b HF.out.symm, (Ext.refl w).alloc _⟩
          · have b5 : (msg == ([] : B8)) = false := by simpa using h5
            have HF : Hid (r = false) := by unfold Hid; rw [← HR.out, b5]; simp
            clear h1 h2 h3 h4 h5
            go_wp2
            go_ret
            exact ⟨ret_b HF.out.symm, (Ext.refl w).alloc _⟩
        · have b4 : (author == 0) = false := by simpa using h4
          have HF : Hid (r = false) := by unfold Hid; rw [← HR.out, b4]; simp
          clear h1 h2 h3 h4
          go_wp2
          go_ret
          exact ⟨ret_b HF.out.symm, (Ext.refl w).alloc _⟩
      · have b3 : (stamp == 0) = false := by simpa using h3
        have HF : Hid (r = false) := by unfold Hid; rw [← HR.out, b3]; simp
        clear h1 h2 h3
        go_wp2
        go_ret
        exact ⟨ret_b HF.out.symm, (Ext.refl w).alloc _⟩
    · have b2 : ((parents.length : Int) == 0) = false := by rw [beq_eq_false_iff_ne]; omega
      have HF : Hid (r = false) := by unfold Hid; rw [← HR.out, show (parents.length == 0) = false by simpa using h2]; simp
      clear h1 h2
      go_wp2
      go_ret
      exact ⟨ret_b HF.out.symm, (Ext.refl w).alloc _⟩
  · have b1 : (tree == ([] : B8)) = false := by simpa using h1
    have HF : Hid (r = false) := by unfold Hid; rw [← HR.out, b1]; simp
    clear h1
    go_wp2
    go_ret
    exact ⟨ret_b HF.out.symm, (Ext.refl w).alloc _⟩

end Go.Proofs.YtfgdmlmfgnhpaaaGreatDoor

/-! marref16.May: what may be a table. Conditions: as each theorem states. -/
namespace Go.Proofs.YtfgdmlmfgnhpaaaGreatDoor
open Go Go.RowKit Go.Sort
set_option linter.unusedVariables false
set_option linter.unusedSimpArgs false
set_option linter.unusedSectionVars false

theorem r0_no {l : List Rw} {k : Nat} {x : Rw} {r b : Bool} (h : mayR0 l k x = !r) (hb : mayR0 l k x = false) : r = true := by
  rw [hb] at h
  cases r
  · cases h
  · rfl
theorem r0_yes {l : List Rw} {k : Nat} {x : Rw} {r : Bool} (h : mayR0 l k x = !r) (hb : mayR0 l k x = true) : r = false := by
  rw [hb] at h
  cases r
  · rfl
  · cases h
theorem r0_of {l : List Rw} {k : Nat} {x : Rw} {a b c d e : Bool} (ha : pathB (dirW ++ x.path) = a) (hb : decide (1 ≤ x.mode) = b) (hc : decide (x.mode ≤ 3) = c) (hd : validB x.id = d) (he : (decide (k = 0) || ltB (l.getD (k - 1) zRw).path x.path) = e) : mayR0 l k x = (a && (b && (c && (d && e)))) := by
  unfold mayR0
  rw [ha, hb, hc, hd, he]
end Go.Proofs.YtfgdmlmfgnhpaaaGreatDoor

/-! wire: merge, Sort, Unique. Conditions: lists of at most 1000000 texts. -/
namespace Go.Proofs.YtfgdmlmfgnhpaaaGreatDoor
open Go Go.RowKit
set_option linter.unusedVariables false
set_option linter.unusedSimpArgs false
set_option linter.unusedSectionVars false

theorem bytesLess_ltB : ∀ a b : B8, Op.bytesLess a b = ltB a b
  | [], [] => by simp [Op.bytesLess, ltB]
  | [], _ :: _ => by simp [Op.bytesLess, ltB]
  | _ :: _, [] => by simp [Op.bytesLess, ltB]
  | a :: r, b :: s => by
    rw [Op.bytesLess, bytesLess_ltB r s]
    unfold ltB
    rw [Bool.eq_iff_iff]
    simp [List.cons_lt_cons_iff]
theorem IsStrs.tail {w : World} {a : Option Addr} {cap : Nat} {l : List B8} (k : Nat) (h : IsStrs w (.slice a l.length cap) l) (hk : k ≤ l.length) :
    ∀ a', (a = none → a' = none) → (cap ≠ k → ∀ b o, a = some ⟨b, o, none⟩ → a' = some ⟨b, o + k, none⟩) → IsStrs w (.slice a' (l.length - k) (cap - k)) (l.drop k) := by
  obtain ⟨a2, cap2, he, h1, h2, h3, h4⟩ := h
  simp only [Value.slice.injEq, true_and] at he
  obtain ⟨rfl, rfl⟩ := he
  intro a' hn hs
  have hlen : (l.drop k).length = l.length - k := List.length_drop
  unfold IsStrs
  rw [hlen]
  refine ⟨a', cap - k, rfl, by omega, by omega, by omega, fun hne => ?_⟩
  have hlt : k < l.length := by
    rcases Nat.lt_or_ge k l.length with h | h
    · exact h
    · rw [List.drop_eq_nil_of_le h] at hne; simp at hne
  obtain ⟨b, o, rfl, hc⟩ := h4 (by intro h0; rw [List.map_eq_nil_iff] at h0; subst h0; simp at hlt)
  refine ⟨b, o + k, hs (by omega) b o rfl, fun i u hu => ?_⟩
  rw [List.getElem?_map, List.getElem?_drop] at hu
  have := hc (k + i) u (by rw [List.getElem?_map]; exact hu)
  rwa [← Nat.add_assoc] at this
theorem IsStrs.head {w : World} {a : Option Addr} {cap : Nat} {l : List B8} (k : Nat) (h : IsStrs w (.slice a l.length cap) l) (hk : k ≤ l.length) : IsStrs w (.slice a k cap) (l.take k) := by
  obtain ⟨a2, cap2, he, h1, h2, h3, h4⟩ := h
  simp only [Value.slice.injEq, true_and] at he
  obtain ⟨rfl, rfl⟩ := he
  have hlen : (l.take k).length = k := by rw [List.length_take]; omega
  unfold IsStrs
  rw [hlen]
  refine ⟨a, cap, rfl, by omega, by omega, by omega, fun hne => ?_⟩
  obtain ⟨b, o, rfl, hc⟩ := h4 (by intro h0; rw [List.map_eq_nil_iff] at h0; subst h0; simp at hne)
  refine ⟨b, o, rfl, fun i u hu => hc i u ?_⟩
  rw [List.getElem?_map, List.getElem?_take] at hu
  split at hu
  · rw [List.getElem?_map]; exact hu
  · cases hu
theorem ltB_irr (a : B8) : ltB a a = false := by
  unfold ltB
  rw [decide_eq_false_iff_not]
  exact List.lt_irrefl a
def cmpI (a b : B8) : Int := if ltB a b = true then -1 else if ltB b a = true then 1 else 0
set_option maxRecDepth 100000 in
theorem compare_any (a b : B8) (w : World) : Calls Tryz.prog 183 #[S8 a, S8 b] w fun e w' => e = .returned (.int .i64 (cmpI a b)) ∧ w' = w := by
  obtain ⟨x, hx⟩ : ∃ x, ltB a b = x := ⟨_, rfl⟩
  have h1 : Op.bytesLess a b = x := by rw [bytesLess_ltB]; exact hx
  cases x with
  | true =>
    have hr : cmpI a b = -1 := by unfold cmpI; rw [hx]; rfl
    rw [hr]
    clear hr hx
    go_enter Tryz.func183, Tryz.ntmps183
    go_wp2
    go_ret
    exact ⟨rfl, rfl⟩
  | false =>
    obtain ⟨y, hy⟩ : ∃ y, ltB b a = y := ⟨_, rfl⟩
    have h2 : (a == b) = !y := by
      cases y with
      | true => simpa using fun e : a = b => by rw [e, ltB_irr] at hy; cases hy
      | false => simpa using leT_anti (a := a) (b := b) (by unfold leT; rw [hy]; rfl) (by unfold leT; rw [hx]; rfl)
    have hr : cmpI a b = if y = true then 1 else 0 := by unfold cmpI; rw [hx, hy]; rfl
    rw [hr]
    clear hr hx hy
    cases y with
    | true =>
      have h3 : (a == b) = false := h2
      clear h2
      go_enter Tryz.func183, Tryz.ntmps183
      go_wp2
      go_ret
      exact ⟨rfl, rfl⟩
    | false =>
      have h3 : (a == b) = true := h2
      clear h2
      go_enter Tryz.func183, Tryz.ntmps183
      go_wp2
      go_ret
      exact ⟨rfl, rfl⟩

def lenV : Value → Nat
  | .slice _ n _ => n
  | _ => 0
set_option maxRecDepth 100000 in
set_option maxHeartbeats 4000000 in
theorem wmerge_any (va vb : Value) (A B : List B8) (w : World) (hA : IsStrs w va A) (hB : IsStrs w vb B) (ua : upL A) (ub : upL B) (hl : A.length + B.length ≤ 2000000) :
    Calls Tryz.prog 247 #[va, vb] w fun e w' => (∃ v, e = .returned v ∧ w'.ownsRow w.heap.size 9 1 v (A.length + B.length) ((sortT (A ++ B)).map S8)) ∧ Ext w w' := by
  obtain ⟨a0, ac, rfl, la1, la2, la3, -⟩ := hA.get
  obtain ⟨b0, bc, rfl, lb1, lb2, lb3, -⟩ := hB.get
  have HA : Hid (IsStrs w (.slice a0 A.length ac) A) := hA
  have HB : Hid (IsStrs w (.slice b0 B.length bc) B) := hB
  have HM : Hid (MInv A B A B []) := MInv.start ua ub
  obtain ⟨i0, hi, hz0, hz1, hz2⟩ := info_parts info_str
  clear hA hB ua ub
  go_enter Tryz.func247, Tryz.ntmps247
  go_wp2_with (at_make; go_must (refine wpList_make_own _ rfl _ _ 23 rfl w.heap.size 9 i0 _ 1 Tryz.underlying23 hi hz0 hz1 _ _ _ (A.length + B.length) rfl rfl (by omega) (by rw [hz2]; omega) (by unfold maxLen; omega) (Nat.le_refl _) ?_; intro w1 hown1 hg1))
  have HX1 : Hid (Ext w w1) := Below.grown (Ext.refl w) hg1 (Nat.le_refl _) (fun k hk => by cases hk)
  clear hg1
  go_loopw [0, 1, 5] (fun xa xb v wr => ∃ (a b C : List B8), Hid (MInv A B a b C) ∧ Hid (IsStrs w xa a) ∧ Hid (IsStrs w xb b) ∧ wr.ownsRow w.heap.size 9 1 v C.length (C.map S8) ∧ Hid (Ext w wr)) (fun xa xb _ _ => lenV xa + lenV xb)
  case atStart => exact ⟨A, B, [], HM, HA, HB, hown1, HX1⟩
  case round =>
  clear hown1
  obtain ⟨a, b, C, HI, HXA, HXB, hown, HX⟩ := hrel
  have hln := HI.out.len
  have HA1 : Hid (IsStrs wr _ a) := IsStrs.ext HXA.out HX.out
  have HB1 : Hid (IsStrs wr _ b) := IsStrs.ext HXB.out HX.out
  obtain ⟨aa, ca, rfl, ka1, ka2, ka3, hga⟩ := HA1.out.get
  obtain ⟨ab, cb, rfl, kb1, kb2, kb3, hgb⟩ := HB1.out.get
  have HGA : Hid _ := hga
  have HGB : Hid _ := hgb
  clear hga hgb
  have hsz := HX.out.size
  cases a with
  | nil =>
    have HF : Hid (C ++ ([] ++ b) = sortT (A ++ B)) := HI.out.swap.fin
    have hcl : C.length + 0 + b.length = A.length + B.length := by simpa using hln
    clear HGA HGB
    go_wp2_with first | (at_builtin; (have hq9 := HB4.out); go_must (refine appS_op _ _ _ 1 16 Tryz.underlying23 info_str rfl (by omega) rfl (.tmp 40) (.tmp 41) rfl rfl w.heap.size _ _ _ rfl hown4 _ b.length (b.map S8) rfl HB4.out (by simp) (by intro u hu; first | (obtain ⟨_, _, rfl⟩ := List.mem_map.1 hu; rfl) | cases hu) (by omega) (by omega) hsz4 ?_; intro v5 w5 hown5 hg5; have hx5 : Ext w w5 := owns_ext_app hx4 hown4 hg5)) | (at_builtin; go_must (refine appS_op _ _ _ 1 16 Tryz.underlying23 info_str rfl (by omega) rfl (.tmp 38) (.tmp 39) rfl rfl w.heap.size _ C.length (C.map S8) rfl hown _ 0 [] rfl HA1.out (by simp) (by intro u hu; first | (obtain ⟨_, _, rfl⟩ := List.mem_map.1 hu; rfl) | cases hu) (by omega) (by omega) hsz ?_; intro v4 w4 hown4 hg4; have hx4 : Ext w w4 := owns_ext_app HX.out hown hg4; have hsz4 := hx4.size; have HB4 : Hid (IsStrs w4 _ _) := IsStrs.ext HXB.out hx4))
    go_ret
    refine ⟨⟨_, rfl, ?_⟩, hx5⟩
    rw [← HF.out]
    have h9 := hown5
    rw [hcl] at h9
    simpa using h9
  | cons x a =>
    cases b with
    | nil =>
      have HF : Hid (C ++ ((x :: a) ++ []) = sortT (A ++ B)) := by have h9 := HI.out.fin; unfold Hid; rw [List.append_nil]; exact h9
      have hcl : C.length + (a.length + 1) + 0 = A.length + B.length := by simpa using hln
      clear HGA HGB
      go_wp2_with first | (at_builtin; (have hq9 := HB4.out); go_must (refine appS_op _ _ _ 1 16 Tryz.underlying23 info_str rfl (by omega) rfl (.tmp 40) (.tmp 41) rfl rfl w.heap.size _ _ _ rfl hown4 _ 0 [] rfl HB4.out (by simp) (by intro u hu; first | (obtain ⟨_, _, rfl⟩ := List.mem_map.1 hu; rfl) | cases hu) (by omega) (by omega) hsz4 ?_; intro v5 w5 hown5 hg5; have hx5 : Ext w w5 := owns_ext_app hx4 hown4 hg5)) | (at_builtin; go_must (refine appS_op _ _ _ 1 16 Tryz.underlying23 info_str rfl (by omega) rfl (.tmp 38) (.tmp 39) rfl rfl w.heap.size _ C.length (C.map S8) rfl hown _ (a.length + 1) ((x :: a).map S8) rfl HA1.out (by simp) (by intro u hu; first | (obtain ⟨_, _, rfl⟩ := List.mem_map.1 hu; rfl) | cases hu) (by omega) (by omega) hsz ?_; intro v4 w4 hown4 hg4; have hx4 : Ext w w4 := owns_ext_app HX.out hown hg4; have hsz4 := hx4.size; have HB4 : Hid (IsStrs w4 _ _) := IsStrs.ext HXB.out hx4))
      go_ret
      refine ⟨⟨_, rfl, ?_⟩, hx5⟩
      rw [← HF.out]
      have h9 := hown5
      rw [hcl] at h9
      simpa using h9
    | cons y b =>
      obtain ⟨ba, oa, rfl, hca⟩ := HGA.out 0 (by simp)
      obtain ⟨bb, ob, rfl, hcb⟩ := HGB.out 0 (by simp)
      have y1 : wr.cell? ⟨ba, oa, none⟩ = some (S8 x) := hca 0 (by simp)
      have y2 : wr.cell? ⟨bb, ob, none⟩ = some (S8 y) := hcb 0 (by simp)
      clear hca hcb HGA HGB HA1 HB1
      simp only [List.length_cons] at hln ka1 ka2 kb1 kb2
      obtain ⟨c, hc⟩ : ∃ c, cmpI y x = c := ⟨_, rfl⟩
      have HC : Hid _ := hc
      cases hq : ltB y x with
      | false =>
        have HQ : Hid (MInv A B a (y :: b) (C ++ [x])) := HI.out.step hq
        have hcn : ¬ c < 0 := by
          rw [← hc]
          unfold cmpI
          rw [hq]
          cases ltB x y <;> simp
        clear hc hq
        go_upto_region 3 with fail
        apply wp_region_mix 8 [_, _, S8 y, _, _, S8 x, .int .i64 c, .bool false] [none, none, none, none, none, none, none, none] [[], [0], [1], [], [3], [4], [2, 5], [6]] (by kernel_rfl) (by kernel_rfl) (by simp [mixV])
        · trivial
        · simp (maxSteps := 1000000) only [List.take_succ_cons, List.take_zero, oblFrom, stepObl, fillFrom, Act.put, List.setIfInBounds_toArray, List.set_cons_zero, List.set_cons_succ, knows, getV, mixV, List.getD_cons_zero, List.getD_cons_succ, and_true, true_and, forall_const]
          refine ⟨?_, ?_, ?_, ?_, ?_, ?_, ?_, ?_⟩
          · intro xs wq hq R hR
            have f1 := hq.cell y1; have f2 := hq.cell y2
            go_simp
            exact hR _ _ (Ext.refl _) rfl
          · intro xs wq hq hk R hR
            have f1 := hq.cell y1; have f2 := hq.cell y2
            go_simp
            exact hR _ _ (Ext.refl _) rfl
          · intro xs wq hq hk R hR
            have f1 := hq.cell y1; have f2 := hq.cell y2
            go_simp
            exact hR _ _ (Ext.refl _) rfl
          · intro xs wq hq R hR
            have f1 := hq.cell y1; have f2 := hq.cell y2
            go_simp
            exact hR _ _ (Ext.refl _) rfl
          · intro xs wq hq hk R hR
            have f1 := hq.cell y1; have f2 := hq.cell y2
            go_simp
            exact hR _ _ (Ext.refl _) rfl
          · intro xs wq hq hk R hR
            have f1 := hq.cell y1; have f2 := hq.cell y2
            go_simp
            exact hR _ _ (Ext.refl _) rfl
          · intro xs wq hq hk R hR
            obtain ⟨hk0, hk1⟩ := hk
            go_simp
            exact (compare_any y x _).mono (by rw [HC.out]; rintro e' w4 ⟨rfl, rfl⟩; exact ⟨_, rfl, hR _ _ (Ext.refl _) rfl⟩)
          · intro xs wq hq hk R hR
            have f1 := hq.cell y1; have f2 := hq.cell y2
            go_simp
            exact hR _ _ (Ext.refl _) rfl
        intro xs w2 hx2 hk
        simp only [heldV, Nat.zero_add, Nat.reduceAdd, and_true] at hk
        obtain ⟨q0, q1, q2, q3, q4, q5, q6, q7⟩ := hk
        simp (maxSteps := 1000000) only [List.take_succ_cons, List.take_zero, List.drop_succ_cons, List.drop_zero, fillFrom, Act.put, List.setIfInBounds_toArray, List.set_cons_zero, List.set_cons_succ, Nat.zero_add, Nat.reduceAdd, q0, q1, q2, q3, q4, q5, q6, q7]
        clear q0 q1 q2 q3 q4 q5 q6 q7
        have y3 := hx2.cell y1
        have hown2 := owns_ext hown hx2
        have hsz2 := hx2.size
        have HX2 : Hid (Ext w w2) := HX.out.trans hx2
        have HT : Hid (IsStrs w (.slice (if ca = 1 then some ⟨ba, oa, none⟩ else some ⟨ba, oa + 1, none⟩) a.length (ca - 1)) a) := IsStrs.tail (l := x :: a) 1 HXA.out (by simp) (if ca = 1 then some ⟨ba, oa, none⟩ else some ⟨ba, oa + 1, none⟩) (fun h => by cases h) (fun h b o e => by rw [if_neg h]; cases e; rfl)
        clear hx2 y1 y2
        go_wp2_with (at_builtin; go_must (refine app_str rfl _ _ rfl w.heap.size _ C.length _ rfl (hown2.alloc _) w2.heap.size 1 1 [x] rfl rfl (alloc_at _ _) (by omega) (by simp; omega) ?_; intro v' w3 hown3 hg3))
        go_roundw
        case rel => exact ⟨a, y :: b, C ++ [x], HQ, HT, HXB, by rw [List.length_append]; exact hown3, owns_ext_app (HX2.out.alloc _) (hown2.alloc _) hg3⟩
        case measure => simp [lenV]
      | true =>
        have hxy : ltB x y = false := by
          cases h9 : ltB x y with
          | false => rfl
          | true =>
            have := ltB_trans hq h9
            rw [ltB_irr] at this
            cases this
        have HQ : Hid (MInv A B b (x :: a) (C ++ [y])) := HI.out.swap.step hxy
        have hcn : c < 0 := by
          rw [← hc]
          unfold cmpI
          rw [hxy, hq]
          decide
        clear hc hq hxy
        go_upto_region 3 with fail
        apply wp_region_mix 8 [_, _, S8 y, _, _, S8 x, .int .i64 c, .bool true] [none, none, none, none, none, none, none, none] [[], [0], [1], [], [3], [4], [2, 5], [6]] (by kernel_rfl) (by kernel_rfl) (by simp [mixV])
        · trivial
        · simp (maxSteps := 1000000) only [List.take_succ_cons, List.take_zero, oblFrom, stepObl, fillFrom, Act.put, List.setIfInBounds_toArray, List.set_cons_zero, List.set_cons_succ, knows, getV, mixV, List.getD_cons_zero, List.getD_cons_succ, and_true, true_and, forall_const]
          refine ⟨?_, ?_, ?_, ?_, ?_, ?_, ?_, ?_⟩
          · intro xs wq hq R hR
            have f1 := hq.cell y1; have f2 := hq.cell y2
            go_simp
            exact hR _ _ (Ext.refl _) rfl
          · intro xs wq hq hk R hR
            have f1 := hq.cell y1; have f2 := hq.cell y2
            go_simp
            exact hR _ _ (Ext.refl _) rfl
          · intro xs wq hq hk R hR
            have f1 := hq.cell y1; have f2 := hq.cell y2
            go_simp
            exact hR _ _ (Ext.refl _) rfl
          · intro xs wq hq R hR
            have f1 := hq.cell y1; have f2 := hq.cell y2
            go_simp
            exact hR _ _ (Ext.refl _) rfl
          · intro xs wq hq hk R hR
            have f1 := hq.cell y1; have f2 := hq.cell y2
            go_simp
            exact hR _ _ (Ext.refl _) rfl
          · intro xs wq hq hk R hR
            have f1 := hq.cell y1; have f2 := hq.cell y2
            go_simp
            exact hR _ _ (Ext.refl _) rfl
          · intro xs wq hq hk R hR
            obtain ⟨hk0, hk1⟩ := hk
            go_simp
            exact (compare_any y x _).mono (by rw [HC.out]; rintro e' w4 ⟨rfl, rfl⟩; exact ⟨_, rfl, hR _ _ (Ext.refl _) rfl⟩)
          · intro xs wq hq hk R hR
            have f1 := hq.cell y1; have f2 := hq.cell y2
            go_simp
            exact hR _ _ (Ext.refl _) rfl
        intro xs w2 hx2 hk
        simp only [heldV, Nat.zero_add, Nat.reduceAdd, and_true] at hk
        obtain ⟨q0, q1, q2, q3, q4, q5, q6, q7⟩ := hk
        simp (maxSteps := 1000000) only [List.take_succ_cons, List.take_zero, List.drop_succ_cons, List.drop_zero, fillFrom, Act.put, List.setIfInBounds_toArray, List.set_cons_zero, List.set_cons_succ, Nat.zero_add, Nat.reduceAdd, q0, q1, q2, q3, q4, q5, q6, q7]
        clear q0 q1 q2 q3 q4 q5 q6 q7
        have y3 := hx2.cell y2
        have hown2 := owns_ext hown hx2
        have hsz2 := hx2.size
        have HX2 : Hid (Ext w w2) := HX.out.trans hx2
        have HT : Hid (IsStrs w (.slice (if cb = 1 then some ⟨bb, ob, none⟩ else some ⟨bb, ob + 1, none⟩) b.length (cb - 1)) b) := IsStrs.tail (l := y :: b) 1 HXB.out (by simp) (if cb = 1 then some ⟨bb, ob, none⟩ else some ⟨bb, ob + 1, none⟩) (fun h => by cases h) (fun h b o e => by rw [if_neg h]; cases e; rfl)
        clear hx2 y1 y2
        go_wp2_with (at_builtin; go_must (refine app_str rfl _ _ rfl w.heap.size _ C.length _ rfl (hown2.alloc _) w2.heap.size 1 1 [y] rfl rfl (alloc_at _ _) (by omega) (by simp; omega) ?_; intro v' w3 hown3 hg3))
        go_roundw
        case rel => exact ⟨b, x :: a, C ++ [y], HQ, HT, HXA, by rw [List.length_append]; exact hown3, owns_ext_app (HX2.out.alloc _) (hown2.alloc _) hg3⟩
        case measure => simp [lenV]; omega

end Go.Proofs.YtfgdmlmfgnhpaaaGreatDoor

/-! table.find: where a path is in rows that rise. Conditions: as each theorem states. -/
namespace Go.Proofs.YtfgdmlmfgnhpaaaGreatDoor
open Go Go.RowKit Go.Sort
set_option linter.unusedVariables false
set_option linter.unusedSimpArgs false
set_option linter.unusedSectionVars false

set_option maxRecDepth 100000 in
theorem findF_any (x : Rw) (p : B8) (w : World) :
    Calls Tryz.prog 187 #[.agg #[S8 x.path, .int .i64 x.mode, S8 x.id], S8 p] w fun e w' => e = .returned (.int .i64 (cmpI x.path p)) ∧ Ext w w' := by
  obtain ⟨wa, hwa⟩ : ∃ wa, wa = w.alloc (.cells #[S8 x.path, .int .i64 x.mode, S8 x.id] 85) := ⟨_, rfl⟩
  have hxa : Ext w wa := by rw [hwa]; exact (Ext.refl _).alloc _
  have hba : wa.heap[w.heap.size]? = some (.cells #[S8 x.path, .int .i64 x.mode, S8 x.id] 85 (0, 0)) := by rw [hwa]; exact alloc_at _ _
  have HX : Hid (Ext w wa) := hxa
  obtain ⟨z0, z1, z2⟩ := cellsAt3 hba
  have HWA : Hid _ := hwa
  clear hxa hba hwa
  go_enter Tryz.func187, Tryz.ntmps187
  go_upto_region 1 with fail
  rw [← HWA.out]
  go_wp2_with fail
  go_at_call 183
  refine (compare_any x.path p wa).mono ?_
  rintro e w1 ⟨rfl, rfl⟩
  go_wp2
  go_ret
  exact ⟨rfl, HX.out⟩

/-- Ahead of a place all is below, from another place on nothing is. -/
structure BsI (l : List Rw) (p : B8) (i j : Nat) : Prop where
  le : i ≤ j
  len : j ≤ l.length
  lo : ∀ t x, t < i → l[t]? = some x → ltB x.path p = true
  hi : ∀ t x, j ≤ t → l[t]? = some x → ltB x.path p = false
theorem BsI.start (l : List Rw) (p : B8) : BsI l p 0 l.length := ⟨Nat.zero_le _, Nat.le_refl _, fun t x h => absurd h (Nat.not_lt_zero _), fun t x h hx => by have := (List.getElem?_eq_some_iff.1 hx).1; omega⟩
theorem BsI.up {l : List Rw} {p : B8} {i j h : Nat} {y : Rw} (b : BsI l p i j) (hr : riseT (l.map (·.path))) (hy : l[h]? = some y) (hh : i ≤ h ∧ h < j) (hb : ltB y.path p = true) : BsI l p (h + 1) j := by
  refine ⟨by omega, b.len, fun t x ht hx => ?_, b.hi⟩
  by_cases hth : t = h
  · subst hth
    rw [hy] at hx
    cases hx
    exact hb
  · exact lt_trans' (rise_lt hr (i := t) (j := h) (by rw [List.getElem?_map, hx]; rfl) (by rw [List.getElem?_map, hy]; rfl) (by omega)) hb
theorem BsI.down {l : List Rw} {p : B8} {i j h : Nat} {y : Rw} (b : BsI l p i j) (hr : riseT (l.map (·.path))) (hy : l[h]? = some y) (hh : i ≤ h ∧ h < j) (hb : ltB y.path p = false) : BsI l p i h := by
  refine ⟨by omega, by have := b.len; omega, b.lo, fun t x ht hx => ?_⟩
  by_cases hth : t = h
  · subst hth
    rw [hy] at hx
    cases hx
    exact hb
  · cases hq : ltB x.path p with
    | false => rfl
    | true =>
      have := lt_trans' (rise_lt hr (i := h) (j := t) (by rw [List.getElem?_map, hy]; rfl) (by rw [List.getElem?_map, hx]; rfl) (by omega)) hq
      rw [hb] at this
      cases this
def hasR (l : List Rw) (p : B8) : Bool := l.any fun r => r.path == p
theorem BsI.found {l : List Rw} {p : B8} {i : Nat} {y : Rw} (b : BsI l p i i) (hr : riseT (l.map (·.path))) (hy : l[i]? = some y) : hasR l p = (y.path == p) := by
  unfold hasR
  rw [Bool.eq_iff_iff, List.any_eq_true]
  constructor
  · rintro ⟨r, hm, hp⟩
    obtain ⟨t, ht, rfl⟩ := List.mem_iff_getElem.1 hm
    have hp : l[t].path = p := by simpa using hp
    have hx : l[t]? = some l[t] := List.getElem?_eq_getElem ht
    rcases Nat.lt_trichotomy t i with h | h | h
    · have := b.lo t _ h hx
      rw [hp, lt_irr] at this
      cases this
    · subst h
      rw [hy] at hx
      cases hx
      simpa using hp
    · have h1 := rise_lt hr (i := i) (j := t) (by rw [List.getElem?_map, hy]; rfl) (by rw [List.getElem?_map, hx]; rfl) h
      have h1 : ltB y.path l[t].path = true := h1
      rw [hp] at h1
      rw [b.hi i y (Nat.le_refl _) hy] at h1
      cases h1
  · intro h
    exact ⟨y, List.mem_of_getElem? hy, h⟩
theorem BsI.none {l : List Rw} {p : B8} (b : BsI l p l.length l.length) : hasR l p = false := by
  unfold hasR
  rw [List.any_eq_false]
  intro r hm
  obtain ⟨t, ht, rfl⟩ := List.mem_iff_getElem.1 hm
  have := b.lo t _ ht (List.getElem?_eq_getElem ht)
  have := lt_ne this
  simpa using this
theorem cmp_lt {a b : B8} : (decide (cmpI a b < 0)) = ltB a b := by
  unfold cmpI
  cases h1 : ltB a b with
  | true => simp
  | false =>
    cases h2 : ltB b a <;> simp
theorem cmp_eq {a b : B8} : (cmpI a b == 0) = (a == b) := by
  unfold cmpI
  cases h1 : ltB a b with
  | true =>
    have := lt_ne h1
    simp [this]
  | false =>
    cases h2 : ltB b a with
    | true =>
      have := (lt_ne h2).symm
      simp [this]
    | false =>
      have : a = b := Classical.byContradiction fun h => by have := lt_tri h1 h; rw [this] at h2; cases h2
      simp [this]

set_option maxRecDepth 100000 in
set_option maxHeartbeats 4000000 in
theorem bsearch_any (v : Value) (l : List Rw) (p : B8) (w : World) (hv : IsRws w v l) (hl : l.length ≤ 100000) (hr : riseT (l.map (·.path))) :
    Calls Tryz.prog 186 #[v, S8 p, .func (.func 187) #[] #[]] w fun e w' => (∃ i : Nat, e = .returned (.tuple #[.int .i64 i, .bool (hasR l p)])) ∧ Ext w w' := by
  obtain ⟨a, cap, rfl, l1, l2, l3, hg⟩ := hv.cells
  have HG : Hid _ := hg
  have HR : Hid (riseT (l.map (·.path))) := hr
  clear hv hg hr
  go_enter Tryz.func186, Tryz.ntmps186
  go_wp2_with fail
  go_loopw [9, 10] (fun vi vj wr => ∃ i j : Nat, Hid (BsI l p i j) ∧ vi = .int .i64 i ∧ vj = .int .i64 j ∧ Hid (Ext w wr)) (fun vi vj _ => (intOf vj).toNat - (intOf vi).toNat)
  case atStart => exact ⟨0, l.length, BsI.start l p, rfl, rfl, Ext.refl _⟩
  case round =>
  obtain ⟨i, j, HB, rfl, rfl, HX⟩ := hrel
  have hij := HB.out.le
  have hjl := HB.out.len
  by_cases hlt : i < j
  case neg =>
    have hij2 : i = j := by omega
    subst hij2
    by_cases hin : i < l.length
    case neg =>
      have hil : i = l.length := by omega
      subst hil
      have HN : Hid _ := HB.out.none
      go_wp2
      go_ret2
      exact ⟨⟨l.length, by rw [HN.out]; rfl⟩, HX.out⟩
    obtain ⟨y, hy⟩ : ∃ y, l[i]? = some y := ⟨_, List.getElem?_eq_getElem hin⟩
    obtain ⟨bb, oo, rfl, c0, c1, c2⟩ := HG.out i y hy
    have y0 := HX.out.cell c0
    have y1 := HX.out.cell c1
    have y2 := HX.out.cell c2
    have HN : Hid _ := HB.out.found HR.out hy
    clear c0 c1 c2 hy
    obtain ⟨c, hc⟩ : ∃ c, cmpI y.path p = c := ⟨_, rfl⟩
    have HC : Hid _ := hc
    have HCE : Hid ((c == 0) = (y.path == p)) := by unfold Hid; rw [← hc]; exact cmp_eq
    obtain ⟨q, hq⟩ : ∃ q, (c == 0) = q := ⟨_, rfl⟩
    have HQ : Hid (hasR l p = q) := by unfold Hid; rw [HN.out, ← HCE.out, hq]
    clear hc
    go_wp2_with fail
    go_at_call 187
    refine (findF_any y p wr).mono ?_
    rw [HC.out]
    rintro e w2 ⟨rfl, hx2⟩
    have HX2 : Hid (Ext w w2) := HX.out.trans hx2
    clear y0 y1 y2 hx2
    go_wp2
    go_ret2
    exact ⟨⟨i, by rw [HQ.out]; rfl⟩, HX2.out⟩
  have hw1 : IntKind.i64.wrap ((i : Int) + (j : Int)) = (i : Int) + (j : Int) := IntWalk.i64_in _ (by omega)
  go_upto_region 5 with fail
  obtain ⟨h, hh⟩ : ∃ h : Nat, ((i : Int) + (j : Int)) / 2 = (h : Int) := ⟨(i + j) / 2, by omega⟩
  have hih : i ≤ h ∧ h < j := by omega
  rw [hh]
  clear hw1 hh
  obtain ⟨hih, hhj⟩ := hih
  have hhl : h < l.length := by omega
  obtain ⟨y, hy⟩ : ∃ y, l[h]? = some y := ⟨_, List.getElem?_eq_getElem hhl⟩
  obtain ⟨bb, oo, rfl, c0, c1, c2⟩ := HG.out h y hy
  have y0 := HX.out.cell c0
  have y1 := HX.out.cell c1
  have y2 := HX.out.cell c2
  have HY : Hid _ := hy
  obtain ⟨c, hc⟩ : ∃ c, cmpI y.path p = c := ⟨_, rfl⟩
  have HC : Hid _ := hc
  have HCL : Hid (decide (c < 0) = ltB y.path p) := by unfold Hid; rw [← hc]; exact cmp_lt
  clear c0 c1 c2 hy hc
  go_wp2_with fail
  go_at_call 187
  refine (findF_any y p wr).mono ?_
  rw [HC.out]
  rintro e w2 ⟨rfl, hx2⟩
  have HX2 : Hid (Ext w w2) := HX.out.trans hx2
  clear y0 y1 y2 hx2
  by_cases hc0 : c < 0
  · have HBX : Hid (BsI l p (h + 1) j) := HB.out.up HR.out HY.out ⟨hih, hhj⟩ (by rw [← HCL.out]; exact decide_eq_true hc0)
    go_wp2_with fail
    go_roundw
    case rel => exact ⟨h + 1, j, HBX, by go_num, rfl, HX2⟩
    case measure => simp [intOf]; omega
  · have HBX : Hid (BsI l p i h) := HB.out.down HR.out HY.out ⟨hih, hhj⟩ (by rw [← HCL.out]; exact decide_eq_false hc0)
    go_wp2_with fail
    go_roundw
    case rel => exact ⟨i, h, HBX, rfl, rfl, HX2⟩
    case measure => simp [intOf]; omega

set_option maxRecDepth 100000 in
theorem tfind_any (v : Value) (l : List Rw) (p : B8) (w : World) (hv : IsRws w v l) (hl : l.length ≤ 100000) (hr : riseT (l.map (·.path))) :
    Calls Tryz.prog 122 #[v, S8 p] w fun e w' => (∃ i : Nat, e = .returned (.tuple #[.int .i64 i, .bool (hasR l p)])) ∧ Ext w w' := by
  have HB : Hid _ := bsearch_any v l p w hv hl hr
  obtain ⟨a, cap, rfl, -⟩ := hv.cells
  clear hv hr
  go_enter Tryz.func122, Tryz.ntmps122
  go_wp2_with fail
  go_at_call 186
  refine Calls.mono HB.out ?_
  rintro e w1 ⟨⟨i, rfl⟩, hx⟩
  go_wp2
  go_ret2
  exact ⟨⟨i, rfl⟩, hx⟩

end Go.Proofs.YtfgdmlmfgnhpaaaGreatDoor

/-! A file system of the call's own. Conditions: as each theorem states. -/
namespace Go.Proofs.YtfgdmlmfgnhpaaaGreatDoor
open Go Go.RowKit
set_option linter.unusedVariables false
set_option linter.unusedSimpArgs false
set_option linter.unusedSectionVars false

theorem env_ltR {w0 : World} (hE : Env w0) : 2 < w0.heap.size := by
  obtain ⟨m, hm⟩ := hE
  exact World.block_lt_of_cell? _ _ hm
/-- A file system of the call's own. -/
structure One (w0 : World) (S O : Nat → Prop) (w : World) (f : Value) (m : Fs) : Prop where
  ext : Ext w0 w
  fs : IsFs S O (fun k => k < w.heap.size) w f m
  lo : ∀ k, O k → w0.heap.size ≤ k ∧ k < w.heap.size
  loS : ∀ k, S k → w0.heap.size ≤ k ∧ k < w.heap.size
  disS : ∀ k, S k → ¬ O k
section
variable {w0 w w' : World} {S O : Nat → Prop} {f : Value} {m m' : Fs} {n : Nat}
theorem One.noG (h : One w0 S O w f m) (hE : Env w0) : NoG O := fun k hk e => by have := h.lo k hk; have := env_ltR hE; omega
theorem One.fin (h : One w0 S O w f m) (hE : Env w0) (hg : Good n m) (hn : n ≤ 80000) : FsIn S O (fun k => k < w.heap.size) w f m := by
  have ht := hg.time
  have hc := hg.calls
  exact ⟨hE.ext h.ext, h.fs, hg.ok, hg.plan, by omega, by omega, h.noG hE, fun k hk => ⟨h.disS k hk, (h.loS k hk).2⟩, fun k hk => (h.lo k hk).2, hg.room0, hg.room1⟩
theorem One.more (h : One w0 S O w f m) (hx : Ext w w') : One w0 S O w' f m := by
  have hs := hx.size
  exact ⟨h.ext.trans hx, (h.fs.ext hx).mono (fun _ h => h) (fun k hk => Nat.lt_of_lt_of_le hk hs), fun k hk => by have := h.lo k hk; omega, fun k hk => by have := h.loS k hk; omega, h.disS⟩
theorem One.post (h : One w0 S O w f m) (hp : FsPost S O (fun k => k < w.heap.size) w f m' w') : One w0 S (Nw O w w') w' f m' := by
  have hs := hp.fr.size
  have hs0 := h.ext.size
  refine ⟨Ext.of_fr h.ext hp.fr (fun k hk => (h.lo k hk).1), hp.fs.mono (fun _ h => h) (fun k hk => by rcases hk with hk | hk <;> omega), fun k hk => ?_, fun k hk => by have := h.loS k hk; omega, fun k hk ho => ?_⟩
  · rcases hk with hk | hk
    · have := h.lo k hk; omega
    · exact ⟨by omega, hk.2⟩
  · rcases ho with ho | ho
    · exact h.disS k hk ho
    · have := h.loS k hk; omega
end
theorem One.new {w w' : World} {p : Value} {room : Int} (h : IsFs (fun _ => False) (Nu w w') (fun _ => False) w' p (newM room)) (hx : Ext w w') : One w (fun _ => False) (Nu w w') w' p (newM room) :=
  ⟨hx, h.mono (fun _ h => h) (fun _ h => h.elim), fun k hk => hk, fun k hk => hk.elim, fun k hk => hk.elim⟩
theorem one_byte {w : World} {g : Nat} {x : UInt8} {fr : Nat × Nat} (h : w.heap[g]? = some (.cells #[.int .u8 (x.toNat : Int)] 5 fr)) : IsBytes w (.slice (some ⟨g, 0, none⟩) 1 1) [x] := Row.new h (by decide) _ rfl
theorem str_app (a b : B8) : ((⟨a.toArray⟩ : ByteArray) ++ ⟨b.toArray⟩).data.toList = a ++ b := by rw [ByteArray.data_append]; simp
theorem env_lt' {w0 : World} (hE : Env w0) : 2 < w0.heap.size := by
  obtain ⟨m, hm⟩ := hE.maxl
  exact World.block_lt_of_cell? _ _ hm
theorem FsPost.fin {S O R : Nat → Prop} {w w' : World} {p : Value} {m m' : Fs} (h : FsIn S O R w p m) (hp : FsPost S O R w p m' w') {n : Nat} (hg : Good n m') (hn : n ≤ 80000) : FsIn S (Nw O w w') (Nw R w w') w' p m' := by
  have hs := hp.fr.size
  exact ⟨h.env.fr hp.fr h.noG, hp.fs, hg.ok, hg.plan, by have := hg.time; omega, by have := hg.calls; omega,
    fun k hk e => by
      rcases hk with hk | hk
      · exact h.noG k hk e
      · have := env_lt' h.env; omega,
    fun k hk => ⟨fun ho => by
      rcases ho with ho | ho
      · exact (h.apart k hk).1 ho
      · have := (h.apart k hk).2; omega, by have := (h.apart k hk).2; omega⟩,
    fun k hk => by
      rcases hk with hk | hk
      · have := h.low k hk; omega
      · exact hk.2, hg.room0, hg.room1⟩

end Go.Proofs.YtfgdmlmfgnhpaaaGreatDoor

/-! names.Under; a block of the call's own is written. Conditions: as each theorem states. -/
namespace Go.Proofs.YtfgdmlmfgnhpaaaGreatDoor
open Go Go.RowKit
set_option linter.unusedVariables false
set_option linter.unusedSimpArgs false
set_option linter.unusedSectionVars false

def underB (d s : B8) : Bool := pathB d && (pathB s && isUnder d s)
set_option maxRecDepth 100000 in
theorem under_any (d s : B8) (w : World) (hE : Env w) (hd : d.length ≤ 10000000) (hs : s.length ≤ 10000000) :
    Calls Tryz.prog 40 #[S8 d, S8 s] w fun e w' => e = .returned (.bool (underB d s)) ∧ Ext w w' := by
  have HE : Hid (Env w) := hE
  clear hE
  obtain ⟨a, ha⟩ : ∃ a, pathB d = a := ⟨_, rfl⟩
  obtain ⟨b, hb⟩ : ∃ b, pathB s = b := ⟨_, rfl⟩
  obtain ⟨c, hc⟩ : ∃ c, isUnder d s = c := ⟨_, rfl⟩
  have HR : Hid (underB d s = (a && (b && c))) := by unfold Hid underB; rw [ha, hb, hc]
  have HA : Hid _ := ha
  have HB : Hid _ := hb
  have HC : Hid _ := hc
  clear ha hb hc
  rw [HR.out]
  go_enter Tryz.func40, Tryz.ntmps40
  go_wp2_with fail
  go_at_call 114
  refine (path_l d w HE.out (by omega)).mono ?_
  rw [HA.out]
  rintro e w1 ⟨rfl, hx1⟩
  have HX1 : Hid (Ext w w1) := hx1
  clear hx1
  cases a with
  | false =>
    go_wp2
    go_ret
    exact ⟨rfl, HX1.out⟩
  | true =>
    go_wp2_with fail
    go_at_call 114
    refine (path_l s w1 (HE.out.ext HX1.out) (by omega)).mono ?_
    rw [HB.out]
    rintro e w2 ⟨rfl, hx2⟩
    have HX2 : Hid (Ext w w2) := HX1.out.trans hx2
    clear hx2
    cases b with
    | false =>
      go_wp2
      go_ret
      exact ⟨rfl, HX2.out⟩
    | true =>
      go_wp2_with fail
      go_at_call 123
      refine (prefix_any _ _ _).mono ?_
      rw [show ((⟨d.toArray⟩ : ByteArray) ++ ⟨#[47]⟩).data.toList.isPrefixOf (⟨s.toArray⟩ : ByteArray).data.toList = c by rw [str_app d [47]]; exact HC.out]
      rintro e w3 ⟨rfl, rfl⟩
      go_wp2
      go_ret
      exact ⟨rfl, HX2.out⟩

variable [Inhabited BaseW]
/-- A block of the call's own that lies apart is written. -/
theorem One.grown {w0 w w' : World} {S O : Nat → Prop} {f : Value} {m : Fs} {b : Nat} (h : One w0 S O w f m) (hg : w.grownBy w' (some b)) (hb : w0.heap.size ≤ b) (hO : ¬ O b) (hS : ¬ S b) (hu : ¬ IsU8 w b) : One w0 S O w' f m := by
  have hs := hg.size
  have hne : ∀ k, k ≠ b → k < w.heap.size → w'.heap[k]? = w.heap[k]? := fun k hk hlt => hg.block k hlt (fun e => hk (Option.some.inj e))
  refine ⟨Ext.of_fr h.ext (Fr.of_grown (O := fun k => k = b) hg rfl hu) (fun k hk => by omega), (h.fs.stay (fun k hk hlt => hne k (fun e => hO (e ▸ hk)) hlt) (fun k hk hlt => hne k (fun e => hS (e ▸ hk)) hlt) (grown_keepR hg hu)).mono (fun _ h => h) (fun k hk => by omega), fun k hk => by have := h.lo k hk; omega, fun k hk => by have := h.loS k hk; omega, h.disS⟩
end Go.Proofs.YtfgdmlmfgnhpaaaGreatDoor

/-! table.May: what may be a table. Conditions: as each theorem states. -/
namespace Go.Proofs.YtfgdmlmfgnhpaaaGreatDoor
open Go Go.RowKit Go.Sort
set_option linter.unusedVariables false
set_option linter.unusedSimpArgs false
set_option linter.unusedSectionVars false

def mayTRow (l : List Rw) (k : Nat) (x : Rw) : Bool := mayR0 l k x && (parentsL x.path).all fun p => !hasR (l.take k) p
def mayTab (l : List Rw) : Bool := ((List.range l.length).all fun k => mayTRow l k (l.getD k zRw)) && decide (l.length ≤ 256)
theorem tab_no {l : List Rw} {k : Nat} {x : Rw} (h : l[k]? = some x) (hb : mayTRow l k x = false) : mayTab l = false := by
  unfold mayTab
  have hl := (List.getElem?_eq_some_iff.1 h).1
  have : ((List.range l.length).all fun k => mayTRow l k (l.getD k zRw)) = false := by
    rw [List.all_eq_false]
    exact ⟨k, List.mem_range.2 hl, by rw [getD_at h, hb]; simp⟩
  rw [this, Bool.false_and]
theorem tab_no0 {l : List Rw} {k : Nat} {x : Rw} (h : l[k]? = some x) (hb : mayR0 l k x = false) : mayTab l = false := tab_no h (by unfold mayTRow; rw [hb]; rfl)
theorem tab_noP {l : List Rw} {k : Nat} {x : Rw} {p : B8} (h : l[k]? = some x) (hp : p ∈ parentsL x.path) (h0 : hasR (l.take k) p = true) : mayTab l = false := by
  refine tab_no h ?_
  unfold mayTRow
  have : ((parentsL x.path).all fun p => !hasR (l.take k) p) = false := by
    rw [List.all_eq_false]
    exact ⟨p, hp, by simp [h0]⟩
  rw [this, Bool.and_false]
theorem tab_yes {l : List Rw} (h : ∀ k x, l[k]? = some x → mayTRow l k x = true) : mayTab l = decide (l.length ≤ 256) := by
  unfold mayTab
  have : ((List.range l.length).all fun k => mayTRow l k (l.getD k zRw)) = true := by
    rw [List.all_eq_true]
    intro k hk
    have hk := List.mem_range.1 hk
    have hx : l[k]? = some l[k] := List.getElem?_eq_getElem hk
    rw [getD_at hx]
    exact h _ _ hx
  rw [this, Bool.true_and]
theorem tab_row {l : List Rw} (h : mayTab l = true) {k : Nat} {x : Rw} (hx : l[k]? = some x) : mayTRow l k x = true := by
  cases hq : mayTRow l k x with
  | true => rfl
  | false => rw [tab_no hx hq] at h; cases h
theorem r0_lt {l : List Rw} {k : Nat} (h : ∀ j x, j < k → l[j]? = some x → mayR0 l j x = true) {i j : Nat} {x y : Rw} (hij : i < j) (hj : j < k) (hx : l[i]? = some x) (hy : l[j]? = some y) : ltB x.path y.path = true := by
  have hs : ∀ i x y, i + 1 < k → l[i]? = some x → l[i + 1]? = some y → ltB x.path y.path = true := fun i x y hi hx hy => by
    have h1 := h _ _ hi hy
    unfold mayR0 at h1
    simp only [Bool.and_eq_true, Bool.or_eq_true, decide_eq_true_eq] at h1
    have h2 := h1.2.2.2.2
    rw [show i + 1 - 1 = i by omega, getD_at hx] at h2
    rcases h2 with h2 | h2
    · omega
    · exact h2
  have hd : ∀ (d i : Nat) (x y : Rw), i + 1 + d < k → l[i]? = some x → l[i + 1 + d]? = some y → ltB x.path y.path = true := by
    intro d
    induction d with
    | zero => exact hs
    | succ d ih =>
      intro i x y hi hx hy
      have hm := (List.getElem?_eq_some_iff.1 hy).1
      have hz : l[i + 1 + d]? = some l[i + 1 + d] := List.getElem?_eq_getElem (by omega)
      exact lt_trans' (ih i x _ (by omega) hx hz) (hs (i + 1 + d) _ y hi hz hy)
  exact hd (j - i - 1) i x y (by omega) hx (by rw [show i + 1 + (j - i - 1) = j by omega]; exact hy)
theorem r0_rise {l : List Rw} {k : Nat} (h : ∀ j x, j < k → l[j]? = some x → mayR0 l j x = true) : riseT ((l.take k).map (·.path)) := by
  refine List.pairwise_iff_getElem.2 fun i j hi hj hij => ?_
  rw [List.length_map, List.length_take] at hi hj
  rw [List.getElem_map, List.getElem_map, List.getElem_take, List.getElem_take]
  exact r0_lt h hij (by omega) (List.getElem?_eq_getElem (by omega)) (List.getElem?_eq_getElem (by omega))
theorem IsRws.take {w : World} {a : Option Addr} {l : List Rw} {cap k : Nat} (h : IsRws w (.slice a l.length cap) l) (hk : k ≤ l.length) : IsRws w (.slice a k cap) (l.take k) := by
  obtain ⟨a2, cap2, he, h1, h2, h3, h4⟩ := h
  simp only [Value.slice.injEq, true_and] at he
  obtain ⟨rfl, rfl⟩ := he
  have hlen : (l.take k).length = k := by rw [List.length_take]; omega
  unfold IsRws
  rw [hlen]
  refine ⟨a, cap, rfl, by omega, h2, by omega, fun hne => ?_⟩
  obtain ⟨b, o, ha, hc⟩ := h4 (fun h0 => hne (by
    have : l = [] := by
      cases l with
      | nil => rfl
      | cons x l => rw [List.flatMap_cons] at h0; simp [rwC] at h0
    subst this
    simp))
  refine ⟨b, o, ha, fun i u hu => hc i u ?_⟩
  have he : l.flatMap rwC = (l.take k).flatMap rwC ++ (l.drop k).flatMap rwC := by rw [← List.flatMap_append, List.take_append_drop]
  rw [he, List.getElem?_append_left (List.getElem?_eq_some_iff.1 hu).1]
  exact hu

set_option maxRecDepth 100000 in
set_option maxHeartbeats 16000000 in
theorem tmay_any (v : Value) (l : List Rw) (w : World) (hE : Env w) (hv : IsRws w v l) (hl : l.length ≤ 100000) (hs : ∀ r ∈ l, r.path.length ≤ 400 ∧ r.id.length ≤ 400) :
    Calls Tryz.prog 39 #[v] w fun e w' => e = .returned (.bool (mayTab l)) ∧ Ext w w' := by
  have HV : Hid (IsRws w v l) := hv
  obtain ⟨a, c, rfl, l1, l2, l3, hg⟩ := hv.cells
  have HG : Hid _ := hg
  have HS : Hid _ := hs
  clear hv hg hs
  have HE : Hid (Env w) := hE
  clear hE
  go_enter Tryz.func39, Tryz.ntmps39
  go_wp2_with fail
  go_loopw [11] (fun i wr => ∃ k : Nat, k ≤ l.length ∧ i = .int .i64 k ∧ Hid (∀ j x, j < k → l[j]? = some x → mayTRow l j x = true) ∧ Hid (Ext w wr)) (fun i _ => l.length - (intOf i).toNat)
  case atStart => exact ⟨0, Nat.zero_le _, rfl, fun j x hj => absurd hj (Nat.not_lt_zero _), Ext.refl _⟩
  case round =>
  obtain ⟨k, hk, rfl, HT, HX⟩ := hrel
  by_cases hlt : k < l.length
  case neg =>
    have HF : Hid (mayTab l = decide (l.length ≤ 256)) := tab_yes (fun j x hx => HT.out j x (by have := (List.getElem?_eq_some_iff.1 hx).1; omega) hx)
    go_wp2
    go_ret
    refine ⟨ret_b ?_, HX.out⟩
    rw [HF.out]
    exact decide_eq_decide.2 (by omega)
  obtain ⟨x, hx⟩ : ∃ x, l[k]? = some x := ⟨_, List.getElem?_eq_getElem hlt⟩
  obtain ⟨bb, oo, rfl, hc0, hc1, hc2⟩ := HG.out k x hx
  obtain ⟨hxn, hxi⟩ := HS.out x (List.mem_of_getElem? hx)
  have HK : Hid (l[k]? = some x) := hx
  have HPREV : Hid (∀ j, k = j + 1 → wr.cell? ⟨bb, oo + j * 3, none⟩ = some (S8 (l.getD j zRw).path)) := fun j hj => by
    subst hj
    have hjl : j < l.length := by omega
    obtain ⟨b2, o2, he, h9, -⟩ := HG.out j (l.getD j zRw) (by rw [List.getD_eq_getElem?_getD, List.getElem?_eq_getElem hjl]; rfl)
    cases he
    exact HX.out.cell h9
  have y0 := HX.out.cell hc0
  have y1 := HX.out.cell hc1
  have y2 := HX.out.cell hc2
  obtain ⟨path, mode, id⟩ := x
  dsimp only at y0 y1 y2 hxn hxi
  clear hx hc0 hc1 hc2
  go_upto_region 4 with fail
  obtain ⟨w4, hw4⟩ : ∃ w4, w4 = wr.alloc (.cells #[S8 path, .int .i64 mode, S8 id] 85) := ⟨_, rfl⟩
  have hx4 : Ext wr w4 := by rw [hw4]; exact (Ext.refl _).alloc _
  have hb4 : w4.heap[wr.heap.size]? = some (.cells #[S8 path, .int .i64 mode, S8 id] 85 (0, 0)) := by rw [hw4]; exact alloc_at _ _
  rw [← hw4]
  obtain ⟨gi, hgi⟩ : ∃ gi, wr.heap.size = gi := ⟨_, rfl⟩
  rw [hgi] at hb4 ⊢
  obtain ⟨z0, z1, z2⟩ := cellsAt3 hb4
  have HX4 : Hid (Ext w w4) := HX.out.trans hx4
  have HP4 : Hid (∀ j, k = j + 1 → w4.cell? ⟨bb, oo + j * 3, none⟩ = some (S8 (l.getD j zRw).path)) := fun j hj => hx4.cell (HPREV.out j hj)
  have HB4 : Hid _ := hb4
  have v0 := fun d os => cell_regrown z0 d os
  have v1 := fun d os => cell_regrown z1 d os
  have v2 := fun d os => cell_regrown z2 d os
  obtain ⟨nb, hnb⟩ : ∃ nb, pathB (dirW ++ path) = nb := ⟨_, rfl⟩
  obtain ⟨vb, hvb⟩ : ∃ vb, validB id = vb := ⟨_, rfl⟩
  have HNB : Hid _ := hnb
  have HVB : Hid _ := hvb
  have HNA : Hid (∀ d os, Calls Tryz.prog 114 #[.string (⟨#[119, 47]⟩ ++ ⟨path.toArray⟩)] (grow (redrawn w4 d) os) fun e w' => e = .returned (.bool nb) ∧ ∃ q : Regrown, w' = grow (redrawn w4 q.d) q.os) := fun d os => Calls.regrown_of (by
    have h9 := path_l (dirW ++ path) (grow (redrawn w4 d) os) (HE.out.ext (HX4.out.trans (Ext.regrown _ _ _))) (by simp [dirW]; omega)
    rw [hnb] at h9
    exact h9)
  have HVA : Hid (∀ d os, Calls Tryz.prog 31 #[S8 id] (grow (redrawn w4 d) os) fun e w' => e = .returned (.bool vb) ∧ ∃ q : Regrown, w' = grow (redrawn w4 q.d) q.os) := fun d os => Calls.regrown_of (by
    have h9 := valid_any id (grow (redrawn w4 d) os) (by omega)
    rwa [hvb] at h9)
  obtain ⟨okk, hokk⟩ : ∃ c, mayR0 l k ⟨path, mode, id⟩ = !c := ⟨!mayR0 l k ⟨path, mode, id⟩, by simp⟩
  have HOK : Hid _ := hokk
  clear hw4 hx4 hb4 hgi z0 z1 z2 y0 y1 y2 hnb hvb hokk HPREV HX
  have hcat : ¬ 9223372036854775807 < 2 + path.length := by omega
  go_cut [54] (fun c wx => c = .bool okk ∧ Ext w4 wx)
  case first =>
    cases nb with
    | false =>
      have HR : Hid (okk = true) := r0_no (b := true) HOK.out ((r0_of HNB.out rfl rfl rfl rfl).trans (by simp))
      refine qw_below (by kernel_rfl) (by kernel_rfl) ?_
      repeat (refine qw_step (fun K hK => ?_); go_simp; first | (refine hK _ ?_; clear hK K) | (apply Exists.intro; refine ⟨fun _ => ?_, hK _ ?_⟩; (first | exact HNA.out _ _ | exact HVA.out _ _); clear hK K))
      refine qw_nil ?_
      intro _ hw'
      obtain ⟨⟨dq, osq⟩, hw''⟩ := hw'
      subst hw''
      go_wp2_with fail
      go_meet
      case rel => exact ⟨by rw [HR.out], Ext.regrown _ _ _⟩
    | true =>
    by_cases h1 : mode < 1
    · have HR : Hid (okk = true) := r0_no (b := true) HOK.out ((r0_of rfl (decide_eq_false (by dsimp only; omega)) rfl rfl rfl).trans (by simp))
      refine qw_below (by kernel_rfl) (by kernel_rfl) ?_
      repeat (refine qw_step (fun K hK => ?_); go_simp; first | (refine hK _ ?_; clear hK K) | (apply Exists.intro; refine ⟨fun _ => ?_, hK _ ?_⟩; (first | exact HNA.out _ _ | exact HVA.out _ _); clear hK K))
      refine qw_nil ?_
      intro _ hw'
      obtain ⟨⟨dq, osq⟩, hw''⟩ := hw'
      subst hw''
      go_wp2_with fail
      go_meet
      case rel => exact ⟨by rw [HR.out], Ext.regrown _ _ _⟩
    by_cases h2 : 3 < mode
    · have HR : Hid (okk = true) := r0_no (b := true) HOK.out ((r0_of rfl rfl (decide_eq_false (by dsimp only; omega)) rfl rfl).trans (by simp))
      refine qw_below (by kernel_rfl) (by kernel_rfl) ?_
      repeat (refine qw_step (fun K hK => ?_); go_simp; first | (refine hK _ ?_; clear hK K) | (apply Exists.intro; refine ⟨fun _ => ?_, hK _ ?_⟩; (first | exact HNA.out _ _ | exact HVA.out _ _); clear hK K))
      refine qw_nil ?_
      intro _ hw'
      obtain ⟨⟨dq, osq⟩, hw''⟩ := hw'
      subst hw''
      go_wp2_with fail
      go_meet
      case rel => exact ⟨by rw [HR.out], Ext.regrown _ _ _⟩
    cases vb with
    | false =>
      have HR : Hid (okk = true) := r0_no (b := true) HOK.out ((r0_of rfl rfl rfl HVB.out rfl).trans (by simp))
      refine qw_below (by kernel_rfl) (by kernel_rfl) ?_
      repeat (refine qw_step (fun K hK => ?_); go_simp; first | (refine hK _ ?_; clear hK K) | (apply Exists.intro; refine ⟨fun _ => ?_, hK _ ?_⟩; (first | exact HNA.out _ _ | exact HVA.out _ _); clear hK K))
      refine qw_nil ?_
      intro _ hw'
      obtain ⟨⟨dq, osq⟩, hw''⟩ := hw'
      subst hw''
      go_wp2_with fail
      go_meet
      case rel => exact ⟨by rw [HR.out], Ext.regrown _ _ _⟩
    | true =>
    have HIO : Hid (∀ e : Bool, (decide (k = 0) || ltB (l.getD (k - 1) zRw).path path) = e → mayR0 l k ⟨path, mode, id⟩ = e) := fun e he => (r0_of HNB.out (decide_eq_true (by dsimp only; omega)) (decide_eq_true (by dsimp only; omega)) HVB.out he).trans (by simp)
    by_cases hk0 : k = 0
    · have HR : Hid (okk = false) := r0_yes HOK.out (HIO.out true (by rw [hk0]; rfl))
      subst hk0
     
      refine qw_below (by kernel_rfl) (by kernel_rfl) ?_
      repeat (refine qw_step (fun K hK => ?_); go_simp; first | (refine hK _ ?_; clear hK K) | (apply Exists.intro; refine ⟨fun _ => ?_, hK _ ?_⟩; (first | exact HNA.out _ _ | exact HVA.out _ _); clear hK K))
      refine qw_nil ?_
      intro _ hw'
      obtain ⟨⟨dq, osq⟩, hw''⟩ := hw'
      subst hw''
      go_wp2_with fail
      go_meet
      case rel => exact ⟨by rw [HR.out], Ext.regrown _ _ _⟩
    · obtain ⟨j, rfl⟩ : ∃ j, k = j + 1 := ⟨k - 1, by omega⟩
      have hwj : IntKind.i64.wrap (((j + 1 : Nat) : Int) - 1) = (j : Int) := by rw [IntWalk.i64_in _ (by omega)]; omega
      have y3 := HP4.out j rfl
      obtain ⟨z, hz⟩ : ∃ z, (l.getD j zRw).path = z := ⟨_, rfl⟩
      rw [hz] at y3
      have v3 := fun d os => cell_regrown y3 d os
      have hk1 : (0 : Int) < ((j + 1 : Nat) : Int) := by omega
      have hwj2 : IntKind.i64.wrap (j : Int) = (j : Int) := IntWalk.i64_in _ (by omega)
      have hk2 : (0 : Int) < (j : Int) + 1 := by omega
      have hjl : j < l.length := by omega
      have HZ : Hid _ := hz
      clear hz y3
      rcases leT_cases path z with ⟨hlt9, hb, he⟩ | ⟨hlt9, hb⟩ | ⟨hlt9, hb, he⟩
      · have HR : Hid (okk = false) := r0_yes HOK.out (HIO.out true (by rw [show j + 1 - 1 = j from rfl, HZ.out, hlt9]; simp))
        clear hlt9
        refine qw_below (by kernel_rfl) (by kernel_rfl) ?_
        repeat (refine qw_step (fun K hK => ?_); go_simp; first | (refine hK _ ?_; clear hK K) | (apply Exists.intro; refine ⟨fun _ => ?_, hK _ ?_⟩; (first | exact HNA.out _ _ | exact HVA.out _ _); clear hK K))
        refine qw_nil ?_
        intro _ hw'
        obtain ⟨⟨dq, osq⟩, hw''⟩ := hw'
        subst hw''
        go_wp2_with fail
        go_meet
        case rel => exact ⟨by rw [HR.out], Ext.regrown _ _ _⟩
      · have HR : Hid (okk = true) := r0_no (b := true) HOK.out (HIO.out false (by rw [show j + 1 - 1 = j from rfl, HZ.out, hlt9]; simp))
        clear hlt9
        refine qw_below (by kernel_rfl) (by kernel_rfl) ?_
        repeat (refine qw_step (fun K hK => ?_); go_simp; first | (refine hK _ ?_; clear hK K) | (apply Exists.intro; refine ⟨fun _ => ?_, hK _ ?_⟩; (first | exact HNA.out _ _ | exact HVA.out _ _); clear hK K))
        refine qw_nil ?_
        intro _ hw'
        obtain ⟨⟨dq, osq⟩, hw''⟩ := hw'
        subst hw''
        go_wp2_with fail
        go_meet
        case rel => exact ⟨by rw [HR.out], Ext.regrown _ _ _⟩
      · have HR : Hid (okk = true) := r0_no (b := true) HOK.out (HIO.out false (by rw [show j + 1 - 1 = j from rfl, HZ.out, hlt9]; simp))
        clear hlt9
        refine qw_below (by kernel_rfl) (by kernel_rfl) ?_
        repeat (refine qw_step (fun K hK => ?_); go_simp; first | (refine hK _ ?_; clear hK K) | (apply Exists.intro; refine ⟨fun _ => ?_, hK _ ?_⟩; (first | exact HNA.out _ _ | exact HVA.out _ _); clear hK K))
        refine qw_nil ?_
        intro _ hw'
        obtain ⟨⟨dq, osq⟩, hw''⟩ := hw'
        subst hw''
        go_wp2_with fail
        go_meet
        case rel => exact ⟨by rw [HR.out], Ext.regrown _ _ _⟩
  case rest =>
  obtain ⟨rfl, hxc⟩ := hcut
  have HXC : Hid (Ext w wc) := HX4.out.trans hxc
  have hbc := hxc.row HB4.out
  clear hxc
  cases okk with
  | true =>
    have HF : Hid (mayTab l = false) := tab_no0 HK.out (by rw [HOK.out]; rfl)
    go_wp2
    go_ret
    exact ⟨ret_b HF.out.symm, HXC.out⟩
  | false =>
  obtain ⟨z0, z1, z2⟩ := cellsAt3 hbc
  clear hbc z1 z2 v0 v1 v2 HNA HVA HP4
  have HRK : Hid (riseT ((l.take k).map (·.path))) := r0_rise (fun j x hj hx => by
    have h9 := HT.out j x hj hx
    unfold mayTRow at h9
    exact ((Bool.and_eq_true _ _).mp h9).1)
  go_wp2_with fail
  go_at_call 121
  refine (parents_any path _ (HE.out.ext HXC.out) (by omega)).mono ?_
  rintro e w5 ⟨⟨vP, rfl, hP⟩, hx5⟩
  obtain ⟨pa, pc, rfl, p1, p2, p3, hpg⟩ := hP.get
  have HPG : Hid _ := hpg
  obtain ⟨P, hPP⟩ : ∃ P, parentsL path = P := ⟨_, rfl⟩
  have HPP : Hid _ := hPP
  rw [hPP] at HPG p1 p2 ⊢
  have HX5 : Hid (Ext w w5) := HXC.out.trans hx5
  clear hP hpg hPP hx5 z0
  go_wp2_with fail
  go_loopw [59] (fun i wq => ∃ j : Nat, j ≤ P.length ∧ i = .int .i64 j ∧ Hid (∀ p ∈ P.take j, hasR (l.take k) p = false) ∧ Hid (Ext w5 wq)) (fun i _ => P.length - (intOf i).toNat)
  case atStart => exact ⟨0, Nat.zero_le _, rfl, fun p hp => by simp at hp, Ext.refl _⟩
  case round =>
  obtain ⟨j, hj, rfl, HZ, HX⟩ := hrel
  by_cases hjl : j < P.length
  case neg =>
    have HTX : Hid (∀ i x, i < k + 1 → l[i]? = some x → mayTRow l i x = true) := fun i x hi hx => by
      by_cases hik : i = k
      · subst hik
        rw [HK.out] at hx
        cases hx
        unfold mayTRow
        rw [HOK.out, Bool.not_false, Bool.true_and, HPP.out, List.all_eq_true]
        have h9 := HZ.out
        rw [List.take_of_length_le (by omega)] at h9
        exact fun p hp => by simp [h9 p hp]
      · exact HT.out i x (by omega) hx
    have HXR : Hid (Ext w wr) := HX5.out.trans HX.out
    go_wp2_with fail
    go_roundw
    case rel => exact ⟨k + 1, by omega, by go_num, HTX, HXR⟩
    case measure => simp [intOf]; omega
  obtain ⟨pb, po, rfl, hpc⟩ := HPG.out j hjl
  have u1 := HX.out.cell (hpc j hjl)
  obtain ⟨p, hp⟩ : ∃ p, P[j]? = some p := ⟨_, List.getElem?_eq_getElem hjl⟩
  rw [show P.getD j [] = p by rw [List.getD_eq_getElem?_getD, hp]; rfl] at u1
  have HPJ : Hid _ := hp
  obtain ⟨hb, hhb⟩ : ∃ q, hasR (l.take k) p = q := ⟨_, rfl⟩
  have HHB : Hid _ := hhb
  have hkc : k ≤ c := by omega
  have hrg := tfind_any _ (l.take k) p wr ((HV.out.ext (HX5.out.trans HX.out)).take (by omega)) (by rw [List.length_take]; omega) HRK.out
  rw [hhb] at hrg
  have HRG : Hid _ := hrg
  clear hpc hp hhb hrg
  go_wp2_with fail
  go_at_call 122
  refine Calls.mono HRG.out ?_
  rintro e w6 ⟨⟨ix, rfl⟩, hx6⟩
  have HX6 : Hid (Ext w5 w6) := HX.out.trans hx6
  clear hx6 u1
  cases hb with
  | false =>
    have HZX : Hid (∀ p ∈ P.take (j + 1), hasR (l.take k) p = false) := fun q hq => by
      rw [take_snocR HPJ.out] at hq
      rcases List.mem_append.1 hq with hq | hq
      · exact HZ.out q hq
      · obtain rfl : q = p := by simpa using hq
        exact HHB.out
    go_wp2
    go_roundw
    case rel => exact ⟨j + 1, by omega, by go_num, HZX, HX6⟩
    case measure => simp [intOf]; omega
  | true =>
    have HF : Hid (mayTab l = false) := tab_noP HK.out (by rw [HPP.out]; exact List.mem_of_getElem? HPJ.out) HHB.out
    go_wp2
    go_ret
    exact ⟨ret_b HF.out.symm, HX5.out.trans HX6.out⟩

end Go.Proofs.YtfgdmlmfgnhpaaaGreatDoor

/-! table.parent: the directory and the name of a path. Conditions: as each theorem states. -/
namespace Go.Proofs.YtfgdmlmfgnhpaaaGreatDoor
open Go Go.RowKit Go.Sort
set_option linter.unusedVariables false
set_option linter.unusedSimpArgs false
set_option linter.unusedSectionVars false

set_option maxRecDepth 100000 in
theorem parent_none (p : B8) (w : World) (hp : p.length ≤ 1000000) (h : Lib.lastIndexByte ⟨p.toArray⟩ 47 = -1) :
    Calls Tryz.prog 178 #[S8 p] w fun e w' => e = .returned (.tuple #[S8 [], S8 p]) ∧ w' = w := by
  have hl := Tryz.strings_LastIndexByte ⟨p.toArray⟩ 47 (by show p.length < _; omega) w
  rw [h] at hl
  have HL : Hid _ := hl
  clear hl h
  go_enter Tryz.func178, Tryz.ntmps178
  go_wp2_with fail
  go_at_call 240
  refine Calls.mono HL.out ?_
  rintro e w1 ⟨rfl, rfl⟩
  go_wp2
  go_ret2
  exact ⟨rfl, rfl⟩
set_option maxRecDepth 100000 in
theorem parent_at (p q : B8) (w : World) (hp : p.length ≤ 100000) (hq : q.length ≤ 100000) (h : Lib.lastIndexByte ⟨(p ++ 47 :: q).toArray⟩ 47 = p.length) :
    Calls Tryz.prog 178 #[S8 (p ++ 47 :: q)] w fun e w' => e = .returned (.tuple #[S8 p, S8 q]) ∧ Ext w w' := by
  have hl := Tryz.strings_LastIndexByte ⟨(p ++ 47 :: q).toArray⟩ 47 (by show (p ++ 47 :: q).length < _; rw [List.length_append, List.length_cons]; omega) w
  rw [h] at hl
  have HL : Hid _ := hl
  have hsz : (⟨(p ++ 47 :: q).toArray⟩ : ByteArray).size = p.length + 1 + q.length := by show (p ++ 47 :: q).length = _; rw [List.length_append, List.length_cons]; omega
  have e1 : (⟨(p ++ 47 :: q).toArray⟩ : ByteArray).extract 0 p.length = ⟨p.toArray⟩ := by
    rw [extract_list _ 0 p.length (Nat.zero_le _) (by omega)]
    simp
  have e2 : (⟨(p ++ 47 :: q).toArray⟩ : ByteArray).extract (p.length + 1) (p.length + 1 + q.length) = ⟨q.toArray⟩ := by
    rw [extract_list _ (p.length + 1) (p.length + 1 + q.length) (by omega) (by omega)]
    simp
  obtain ⟨s, hs⟩ : ∃ s : ByteArray, (⟨(p ++ 47 :: q).toArray⟩ : ByteArray) = s := ⟨_, rfl⟩
  have HS : Hid _ := hs
  rw [hs] at hsz e1 e2
  have HL : Hid (Calls Tryz.prog 240 #[.string s, .int .u8 47] w fun e w' => e = .returned (.int .i64 p.length) ∧ w' = w) := by rw [← hs]; exact HL.out
  show Calls Tryz.prog 178 #[.string ⟨(p ++ 47 :: q).toArray⟩] w _
  rw [hs]
  clear hl h hs
  have hw1 : IntKind.i64.wrap ((p.length : Int) + 1) = (p.length : Int) + 1 := IntWalk.i64_in _ (by omega)
  have hn : ¬ (p.length : Int) < 0 := by omega
  have hb1 : (0 : Int) ≤ (p.length : Int) + 1 := by omega
  have hb2 : (p.length : Int) + 1 ≤ (s.size : Int) := by omega
  have hb3 : (p.length : Int) ≤ (s.size : Int) := by omega
  have hb4 : (p.length : Int) ≤ (p.length : Int) + 1 + (q.length : Int) := by omega
  have hb5 : (p.length : Int) + 1 ≤ (p.length : Int) + 1 + (q.length : Int) := by omega
  go_enter Tryz.func178, Tryz.ntmps178
  go_wp2_with fail
  go_at_call 240
  refine Calls.mono HL.out ?_
  rintro e w1 ⟨rfl, rfl⟩
  go_upto_region 4 with fail
  go_quiet (fail)
  go_wp2
  go_ret2
  exact ⟨rfl, Ext.drawn _ _⟩

end Go.Proofs.YtfgdmlmfgnhpaaaGreatDoor

/-! Maps by texts, their elements given by a function: looked up, set. Conditions: keys of at most 1000000 signs. -/
namespace Go.Proofs.YtfgdmlmfgnhpaaaGreatDoor
open Go Go.RowKit

def enG (V : Fi → Value) (e : B8 × Fi) : Lit × DataW Value := (.string e.1, .held (V e.2))
def datG (V : Fi → Value) (l : Files) : DataW Value := .map (l.map (enG V))
def lookG (V : Fi → Value) (z : Value) (l : Files) (p : B8) : Value := match look l p with
  | some f => V f
  | none => z
section
variable (V : Fi → Value)
theorem filter_enG (p : B8) : ∀ l : Files, (l.map (enG V)).filter (fun q => !q.1.sameKey (.string p)) = (delF l p).map (enG V)
  | [] => rfl
  | e :: l => by
    have ih := filter_enG p l
    unfold delF at ih ⊢
    have hk : (enG V e).1.sameKey (.string p) = (e.1 == p) := rfl
    rw [List.map_cons, List.filter_cons, List.filter_cons, hk]
    split
    · rw [List.map_cons, ih]
    · exact ih
theorem insert_enG (x : B8 × Fi) : ∀ l : Files, DataW.insert (enG V x) (l.map (enG V)) = (insF x l).map (enG V)
  | [] => rfl
  | y :: l => by
    rw [List.map_cons, DataW.insert, insF]
    have hb : (enG V x).1.before (enG V y).1 = ltB x.1 y.1 := before_ltB _ _
    rw [hb]
    split
    · rfl
    · rw [insert_enG x l]; rfl
theorem datG_put (l : Files) (p : B8) (f : Fi) : (datG V l).put (.string p) (.held (V f)) = datG V (putF l p f) := by
  unfold datG DataW.put putF
  simp only
  rw [filter_enG]
  have : (Lit.string p, DataW.held (V f)) = enG V (p, f) := rfl
  rw [this, insert_enG]
theorem find_enG (p : B8) : ∀ l : Files, (l.map (enG V)).find? (fun q => q.1.sameKey (.string p)) = (l.find? fun e => e.1 == p).map (enG V)
  | [] => rfl
  | e :: l => by
    have hk : (enG V e).1.sameKey (.string p) = (e.1 == p) := rfl
    rw [List.map_cons, List.find?_cons, List.find?_cons, hk]
    cases e.1 == p
    · exact find_enG p l
    · rfl
theorem datG_at (l : Files) (p : B8) (z : DataW Value) : (datG V l).atKey (.string p) z = match look l p with | some f => .held (V f) | none => z := by
  unfold datG DataW.atKey look
  simp only
  rw [find_enG]
  cases h : l.find? fun e => e.1 == p with
  | none => rfl
  | some e => rfl
theorem datG_has (l : Files) (p : B8) : Maps.has (datG V l) (.string p) = (look l p).isSome := by
  unfold datG
  rw [Maps.has_eq, Bool.eq_iff_iff, List.any_eq_true]
  unfold look
  constructor
  · rintro ⟨q, hq, hk⟩
    obtain ⟨e, he, rfl⟩ := List.mem_map.1 hq
    have : e.1 == p := hk
    rw [Option.isSome_map, List.find?_isSome]
    exact ⟨e, he, this⟩
  · intro h
    rw [Option.isSome_map, List.find?_isSome] at h
    obtain ⟨e, he, hk⟩ := h
    exact ⟨enG V e, List.mem_map.2 ⟨e, he, rfl⟩, hk⟩
end
structure IsMG (V : Fi → Value) (w : World) (b : Nat) (l : Files) : Prop where
  map : w.ownsMap Tryz.prog 9 elemV b l.length (datG V l)
theorem mg_made (V : Fi → Value) (w : World) : IsMG V (w.alloc (.map #[] 0)) w.heap.size [] := ⟨World.ownsMap_made _ _ _ _⟩
section
variable {V : Fi → Value} {w w' : World} {b : Nat} {l : Files}
theorem IsMG.stay (h : IsMG V w b l) (hb : w'.heap[b]? = w.heap[b]?) : IsMG V w' b l := by
  obtain ⟨es, clock, he, F, hs, hD⟩ := h.map
  exact ⟨es, clock, hb.trans he, F, hs, hD⟩
theorem IsMG.lt (h : IsMG V w b l) : b < w.heap.size := h.map.lt
theorem IsMG.ext (h : IsMG V w b l) (hx : Ext w w') : IsMG V w' b l := h.stay (hx.block _ h.lt)
theorem IsMG.kind (h : IsMG V w b l) : ∃ es clock, w.heap[b]? = some (.map es clock) := by
  obtain ⟨es, clock, he, _⟩ := h.map
  exact ⟨es, clock, he⟩
/-- m[p]. -/
theorem IsMG.look_run (h : IsMG V w b l) (T E : TypeId) (z : Value) (hT : Tryz.prog.underlying T = some (.map 9 E)) (hz : (zeroValue E).run Tryz.prog w = .ok z w) (p : B8) (hp : p.length ≤ 1000000) :
    (Instr.lookup T (.map (some b)) (S8 p) true).run Tryz.prog w = .ok (.tuple #[lookG V z l p, .bool (look l p).isSome]) w ∧ (Instr.lookup T (.map (some b)) (S8 p) false).run Tryz.prog w = .ok (lookG V z l p) w := by
  have h2 := h.map
  obtain ⟨v, ps, h4, h5⟩ := h2.look_ok K_str hT hz rfl (key_str p (by omega))
  obtain ⟨v', ps', h6, h7⟩ := h2.lookup K_str hT hz rfl (key_str p (by omega))
  rw [datG_at] at h5 h7
  rw [datG_has] at h4
  have hz : (match look l p with | some f => DataW.held (V f) | none => DataW.held z) = (DataW.held (lookG V z l p) : DataW Value) := by
    unfold lookG
    cases look l p <;> rfl
  rw [hz] at h5 h7
  have e1 : v = lookG V z l p := DataW.held.inj (congrArg Prod.fst (Option.some.inj h5))
  have e2 : v' = lookG V z l p := DataW.held.inj (congrArg Prod.fst (Option.some.inj h7))
  subst e1
  subst e2
  exact ⟨h4, h6⟩
end
section
variable {ops : Array Oper} {rest : List Oper} {o : Oper} {a : Act} {Q : Exit → Act → World → Prop} {w : World} {V : Fi → Value}
theorem set_mg (T E : TypeId) (hT : Tryz.prog.underlying T = some (.map 9 E)) (hgd : o.guard = none) (m x v : Operand) (hop : o.op = Op.mapUpdate T m x v) {b : Nat} {l : Files} (hf : IsMG V w b l) (hl : l.length ≤ 10000000)
    (hm : a.eval m = .map (some b)) (p : B8) (hp : p.length ≤ 1000000) (hx : a.eval x = S8 p) (f : Fi) (hv : a.eval v = V f)
    (h : ∀ w', IsMG V w' b (putF l p f) → w.grownBy w' (some b) → wpList Tryz.prog ops Q rest (a.put o.dst undef) w') : wpList Tryz.prog ops Q (o :: rest) a w := by
  refine wpList_mapUpdate_own w hgd m x v _ hop _ _ K_str hT elemV b _ _ hm hf.map (by unfold maxLen; omega) (S8 p) (V f) (.string p) hx hv (key_str p (by omega)) (.held (V f)) [] rfl ?_
  intro w' hown hg
  rw [datG_put] at hown
  refine h w' ⟨?_⟩ hg
  obtain ⟨es, clock, hb, F, hs, hD⟩ := hown
  refine ⟨es, clock, hb, F, ?_, hD⟩
  have : Maps.size (datG V (putF l p f)) = es.size := by rw [hD]; simp [Maps.size, length_sorted]
  rw [← this]
  simp [datG, Maps.size]
end

end Go.Proofs.YtfgdmlmfgnhpaaaGreatDoor

/-! wire: Sort, Unique. Conditions: lists of at most 1000000 texts. -/
namespace Go.Proofs.YtfgdmlmfgnhpaaaGreatDoor
open Go Go.RowKit Go.Sort
set_option linter.unusedVariables false
set_option linter.unusedSimpArgs false
set_option linter.unusedSectionVars false

/-! ### Neighbours that are alike, in plain Lean -/
structure CpInv (zs : List B8) (m : Nat) : Prop where
  rise : riseT (Lib.compactUpTo zs.toArray m)
  mem : ∀ x, x ∈ Lib.compactUpTo zs.toArray m ↔ x ∈ zs.take m
  last : 0 < m → (Lib.compactUpTo zs.toArray m).getLast? = some (zs.getD (m - 1) [])
theorem cp_at {zs : List B8} {m : Nat} (h : m < zs.length) : zs.toArray[m]! = zs.getD m [] := by
  rw [getElem!_pos zs.toArray m (by simpa using h), List.getD_eq_getElem?_getD, List.getElem?_eq_getElem h]
  rfl
theorem up_next {zs : List B8} (hu : upL zs) {m : Nat} (h : m + 1 < zs.length) : leT (zs.getD m []) (zs.getD (m + 1) []) = true := by
  have h9 := List.pairwise_iff_getElem.1 hu m (m + 1) (by omega) h (by omega)
  rw [List.getD_eq_getElem?_getD, List.getD_eq_getElem?_getD, List.getElem?_eq_getElem h, List.getElem?_eq_getElem (by omega : m < zs.length)]
  exact h9
theorem rise_last {c : List B8} {z x : B8} (hr : riseT c) (hl : c.getLast? = some z) (hz : ltB z x = true) : riseT (c ++ [x]) := by
  obtain ⟨d, rfl⟩ := List.getLast?_eq_some_iff.1 hl
  refine List.pairwise_append.2 ⟨hr, List.pairwise_singleton _ _, fun a ha b hb => ?_⟩
  rw [List.mem_singleton.1 hb]
  rcases List.mem_append.1 ha with ha | ha
  · exact ltB_trans ((List.pairwise_append.1 hr).2.2 a ha z (by simp)) hz
  · rw [List.mem_singleton.1 ha]
    exact hz
theorem cp_inv {zs : List B8} (hu : upL zs) : ∀ m, m ≤ zs.length → CpInv zs m
  | 0, _ => ⟨List.Pairwise.nil, fun x => by simp [Lib.compactUpTo], fun h => by omega⟩
  | m + 1, h => by
    have ih := cp_inv hu m (by omega)
    have hx : zs[m]? = some (zs.getD m []) := by rw [List.getD_eq_getElem?_getD, List.getElem?_eq_getElem (by omega : m < zs.length)]; rfl
    have htk : zs.take (m + 1) = zs.take m ++ [zs.getD m []] := by rw [List.take_add_one, hx]; rfl
    have hd := cp_at (zs := zs) (m := m) (by omega)
    have hsucc := Lib.compactUpTo_succ zs.toArray m
    cases hk : Lib.keeps zs.toArray m with
    | true =>
      rw [hk, if_pos rfl, hd] at hsucc
      refine ⟨?_, fun x => ?_, fun _ => ?_⟩
      · rw [hsucc]
        cases m with
        | zero => exact List.pairwise_singleton _ _
        | succ q =>
          have hl := ih.last (by omega)
          refine rise_last ih.rise hl ?_
          have hle := up_next hu (m := q) (by omega)
          rw [show q + 1 - 1 = q by omega]
          unfold Lib.keeps at hk
          rw [hd, show q + 1 - 1 = q by omega, cp_at (by omega : q < zs.length)] at hk
          have hne : zs.getD (q + 1) [] ≠ zs.getD q [] := by simpa using hk
          cases hlt : ltB (zs.getD q []) (zs.getD (q + 1) []) with
          | true => rfl
          | false => exact (hne (leT_anti (by unfold leT; rw [hlt]; rfl) hle)).elim
      · rw [hsucc, htk, List.mem_append, List.mem_append, ih.mem]
      · rw [hsucc]; simp
    | false =>
      rw [hk, if_neg (by simp), List.append_nil] at hsucc
      have hm0 : m ≠ 0 := by
        rintro rfl
        simp [Lib.keeps] at hk
      obtain ⟨q, rfl⟩ : ∃ q, m = q + 1 := ⟨m - 1, by omega⟩
      unfold Lib.keeps at hk
      rw [hd, show q + 1 - 1 = q by omega, cp_at (by omega : q < zs.length)] at hk
      have he : zs.getD (q + 1) [] = zs.getD q [] := by simpa using hk
      have hl := ih.last (by omega)
      rw [show q + 1 - 1 = q by omega] at hl
      refine ⟨by rw [hsucc]; exact ih.rise, fun x => ?_, fun _ => ?_⟩
      · rw [hsucc, htk, List.mem_append, List.mem_singleton, he]
        constructor
        · intro h1; exact .inl ((ih.mem x).1 h1)
        · rintro (h1 | rfl)
          · exact (ih.mem x).2 h1
          · exact List.mem_of_getLast? hl
      · rw [hsucc, show q + 1 + 1 - 1 = q + 1 by omega, he]; exact hl
theorem cp_uniq (l : List B8) : Lib.compact (sortT l) = uniqT l := by
  have h := cp_inv (sortT_up l) (sortT l).length (Nat.le_refl _)
  refine uniqT_of h.rise (fun x => ?_)
  have h2 := h.mem x
  rw [List.take_length] at h2
  exact h2.trans (sortT_perm l).mem_iff
theorem cp_len (zs : List B8) : (Lib.compact zs).length ≤ zs.length := by
  unfold Lib.compact Lib.compactUpTo
  rw [List.length_map]
  exact Nat.le_trans (List.length_filter_le _ _) (by simp)

/-! ### In memory -/
theorem owns_cut {w : World} {base : Nat} {e : TypeId} {g cap n k : Nat} {xs : List Value} (h : w.ownsRow base e 1 (.slice (some ⟨g, 0, none⟩) n cap) n xs) (hk : k ≤ n) : w.ownsRow base e 1 (.slice (some ⟨g, 0, none⟩) k cap) k (xs.take k) := by
  obtain ⟨hl, ⟨hv, _⟩ | ⟨g', cap', cur, hv, hb, hh, h1, h2, h3, h4⟩⟩ := h
  · cases hv
  · cases hv
    refine ⟨by rw [List.length_take, hl]; omega, .inr ⟨g, cap, cur, rfl, hb, hh, by omega, h2, h3, ?_⟩⟩
    rw [Nat.mul_one, ← h4, Nat.mul_one, List.take_take, Nat.min_eq_left hk]
theorem grow_none (w : World) : grow w #[] = w := by
  unfold grow
  simp
theorem compact_any {w : World} {base : Nat} {v : Value} {zs : List B8} (hown : w.ownsRow base 9 1 v zs.length (zs.map S8)) (hl : zs.length ≤ 10000000) :
    Calls Tryz.prog 191 #[v] w fun e w' => (∃ v', e = .returned v' ∧ w'.ownsRow base 9 1 v' (Lib.compact zs).length ((Lib.compact zs).map S8)) ∧ w.grownBy w' v.ownBlock := by
  rcases hown.2 with ⟨rfl, h0⟩ | ⟨g, cap, cur, rfl, hbase, hb, h1, h2, h3, h4⟩
  · have hs : zs = [] := List.eq_nil_of_length_eq_zero (by simpa using h0)
    subst hs
    exact (Tryz.slices_Compact_string_empty none 0 w).mono fun e w' ⟨he, hw⟩ => ⟨⟨_, he, by rw [hw]; exact World.ownsRow_nil _ _ _ _⟩, by rw [hw]; exact ⟨rfl, rfl, rfl, Nat.le_refl _, fun _ _ _ => rfl⟩⟩
  · refine (Tryz.slices_Compact_string g 0 cap zs w (holds_of_block hb (by simpa using h4)) (by omega) h1).mono ?_
    rintro e w' ⟨he, q, hw⟩
    have hcl := cp_len zs
    have hsz : (Lib.compact zs ++ List.replicate (zs.length - (Lib.compact zs).length) []).length = zs.length := by simp; omega
    have h9 := ownsRow_sorted (w := w) (n := q) (os := #[]) (ss := zs) (ts := Lib.compact zs ++ List.replicate (zs.length - (Lib.compact zs).length) []) hsz hbase hb h1 h2 h3
    rw [grow_none] at h9
    have h8 := grownBy_sorted (w := w) (g := g) (n := q) (os := #[]) (Lib.compact zs ++ List.replicate (zs.length - (Lib.compact zs).length) []).toArray
    rw [grow_none] at h8
    refine ⟨⟨_, he, ?_⟩, by rw [hw]; exact h8⟩
    rw [hw]
    have h7 := owns_cut h9 hcl
    have h6 : ((Lib.compact zs ++ List.replicate (zs.length - (Lib.compact zs).length) []).map encStr).take (Lib.compact zs).length = (Lib.compact zs).map S8 := by
      rw [List.map_append]
      exact List.take_left' (by simp)
    rw [h6] at h7
    exact h7
theorem clone_strs {w : World} {v : Value} {l : List B8} (hv : IsStrs w v l) (hl : l.length ≤ 10000000) :
    Calls Tryz.prog 246 #[v] w fun e w' => (∃ v', e = .returned v' ∧ w'.ownsRow w.heap.size 9 1 v' l.length (l.map S8)) ∧ Ext w w' := by
  obtain ⟨a, cap, rfl, l1, l2, l3, hg⟩ := hv.get
  cases l with
  | nil =>
    cases a with
    | none => exact (Tryz.slices_Clone_string_nil 0 cap w).mono fun e w' ⟨he, hw⟩ => ⟨⟨_, he, World.ownsRow_nil _ _ _ _⟩, by rw [hw]; exact Ext.refl _⟩
    | some ad => exact (Tryz.slices_Clone_string_zero ad cap w).mono fun e w' ⟨v', he, ho, _, hb⟩ => ⟨⟨_, he, ho⟩, hb⟩
  | cons x l =>
    obtain ⟨b, o, rfl, hc⟩ := hg 0 (by simp)
    refine (Tryz.slices_Clone_string b o (x :: l).length cap ((x :: l).map fun s => (⟨s.toArray⟩ : ByteArray)) w (by simp) (by omega) (fun j hj => ?_)).mono fun e w' ⟨v', he, ho, _, hb⟩ => ⟨⟨_, he, ?_⟩, hb⟩
    · rw [List.length_map] at hj
      rw [hc j hj, List.getD_eq_getElem?_getD, List.getD_eq_getElem?_getD, List.getElem?_map, List.getElem?_eq_getElem hj]
      rfl
    · rw [List.take_of_length_le (by simp), List.map_map] at ho
      exact ho

set_option maxRecDepth 100000 in
set_option maxHeartbeats 4000000 in
theorem wsort_all : ∀ (N : Nat) (v : Value) (l : List B8) (w : World), l.length ≤ N → IsStrs w v l → l.length ≤ 1000000 →
    Calls Tryz.prog 192 #[v] w fun e w' => (∃ v', e = .returned v' ∧ w'.ownsRow w.heap.size 9 1 v' l.length ((sortT l).map S8)) ∧ Ext w w' := by
  intro N
  induction N with
  | zero =>
    intro v l w hN hv hl
    have hl0 : l.length = 0 := by omega
    obtain ⟨a, cap, rfl, l1, l2, l3, -⟩ := hv.get
    have HV : Hid (IsStrs w (.slice a l.length cap) l) := hv
    have HS : Hid (sortT l = l) := sort_small (by omega)
    have h2b : (l.length : Int) < 2 := by omega
    clear hv hl0 hN
    go_enter Tryz.func192, Tryz.ntmps192
    go_wp2_with fail
    go_at_call 246
    refine (clone_strs HV.out (by omega)).mono ?_
    rintro e w1 ⟨⟨v1, rfl, ho⟩, hx⟩
    have HO : Hid _ := ho
    have HX : Hid _ := hx
    clear ho hx
    go_wp2
    go_ret
    exact ⟨⟨_, rfl, by rw [HS.out]; exact HO.out⟩, HX.out⟩
  | succ N ih =>
    intro v l w hN hv hl
    obtain ⟨a, cap, rfl, l1, l2, l3, hga⟩ := hv.get
    have HGA : Hid _ := hga
    have HV : Hid (IsStrs w (.slice a l.length cap) l) := hv
    have HI : Hid _ := ih
    clear hv ih hga
    go_enter Tryz.func192, Tryz.ntmps192
    by_cases h2 : l.length < 2
    · have h2b : (l.length : Int) < 2 := by omega
      have HS : Hid (sortT l = l) := sort_small h2
      go_wp2_with fail
      go_at_call 246
      refine (clone_strs HV.out (by omega)).mono ?_
      rintro e w1 ⟨⟨v1, rfl, ho⟩, hx⟩
      have HO : Hid _ := ho
      have HX : Hid _ := hx
      clear ho hx
      go_wp2
      go_ret
      exact ⟨⟨_, rfl, by rw [HS.out]; exact HO.out⟩, HX.out⟩
    · have h2b : ¬ (l.length : Int) < 2 := by omega
      obtain ⟨k, hk⟩ : ∃ k, l.length / 2 = k := ⟨_, rfl⟩
      have hk1 : (l.length : Int) / 2 = (k : Int) := by omega
      have hk2 : Int.tdiv (l.length : Int) 2 = (k : Int) := by rw [Int.tdiv_eq_ediv_of_nonneg (by omega)]; exact hk1
      have hk3 : 0 < k ∧ k < l.length := by omega
      obtain ⟨ba, oa, rfl, -⟩ := HGA.out 0 (by omega)
      have hmn : k ≤ cap := by omega
      have hkl : k ≤ l.length := by omega
      have HLT : Hid ((sortT (l.take k)).length + (sortT (l.drop k)).length = l.length) := by unfold Hid; rw [sortT_len, sortT_len, List.length_take, List.length_drop]; omega
      have HSH : Hid (sortT (sortT (l.take k) ++ sortT (l.drop k)) = sortT l) := sort_halves l k
      have HT1 : Hid (IsStrs w (.slice (some ⟨ba, oa, none⟩) k cap) (l.take k)) := IsStrs.head k HV.out (by omega)
      have HT2 : Hid (IsStrs w (.slice (if cap = k then some ⟨ba, oa, none⟩ else some ⟨ba, oa + k, none⟩) (l.length - k) (cap - k)) (l.drop k)) := IsStrs.tail k HV.out (by omega) (if cap = k then some ⟨ba, oa, none⟩ else some ⟨ba, oa + k, none⟩) (fun h => by cases h) (fun h b o e => by rw [if_neg h]; cases e; rfl)
      clear HGA
      go_upto_region 4 with fail
      apply wp_region_mix 9 [_, _, _, undef, _, _, _, undef, undef] [none, none, none, some (fun u w' => IsStrs w' u (sortT (l.take k))), none, none, none, some (fun u w' => IsStrs w' u (sortT (l.drop k))), some (fun u w' => w'.ownsRow w.heap.size 9 1 u l.length ((sortT l).map S8))] [[], [], [0, 1], [2], [], [], [4, 5], [6], [3, 7]] (by kernel_rfl) (by kernel_rfl) (by simp [mixV])
      · refine ⟨?_, ?_, ?_, trivial⟩
        · exact fun _ _ _ he hu => hu.ext he
        · exact fun _ _ _ he hu => hu.ext he
        · exact fun _ _ _ he hu => owns_ext hu he
      · simp (maxSteps := 1000000) only [List.take_succ_cons, List.take_zero, oblFrom, stepObl, fillFrom, Act.put, List.setIfInBounds_toArray, List.set_cons_zero, List.set_cons_succ, knows, getV, mixV, List.getD_cons_zero, List.getD_cons_succ, and_true, true_and, forall_const]
        refine ⟨?_, ?_, ?_, ?_, ?_, ?_, ?_, ?_, ?_⟩
        · intro xs wq hq R hR
          go_simp
          exact hR _ _ (Ext.refl _) rfl
        · intro xs wq hq R hR
          go_simp
          exact hR _ _ (Ext.refl _) rfl
        · intro xs wq hq hk R hR
          obtain ⟨hk0, hk1⟩ := hk
          go_simp
          exact hR _ _ (Ext.refl _) rfl
        · intro xs wq hq hk R hR
          go_simp
          exact (HI.out _ _ _ (by rw [List.length_take]; omega) (IsStrs.ext HT1.out hq) (by rw [List.length_take]; omega)).mono (by rintro e' w4 ⟨⟨v, rfl, ho⟩, hx⟩; exact ⟨_, rfl, hR _ _ hx (strs_owned ho (by rw [sortT_len]) (by rw [List.length_take]; omega))⟩)
        · intro xs wq hq R hR
          go_simp
          exact hR _ _ (Ext.refl _) rfl
        · intro xs wq hq R hR
          go_simp
          exact hR _ _ (Ext.refl _) rfl
        · intro xs wq hq hk R hR
          obtain ⟨hk0, hk1⟩ := hk
          go_simp
          exact hR _ _ (Ext.refl _) rfl
        · intro xs wq hq hk R hR
          go_simp
          exact (HI.out _ _ _ (by rw [List.length_drop]; omega) (IsStrs.ext HT2.out hq) (by rw [List.length_drop]; omega)).mono (by rintro e' w4 ⟨⟨v, rfl, ho⟩, hx⟩; exact ⟨_, rfl, hR _ _ hx (strs_owned ho (by rw [sortT_len]) (by rw [List.length_drop]; omega))⟩)
        · intro xs wq hq hk R hR
          obtain ⟨hk0, hk1⟩ := hk
          go_simp
          exact (wmerge_any _ _ _ _ _ hk0 hk1 (sortT_up _) (sortT_up _) (by rw [HLT.out]; omega)).mono (by rw [HLT.out, HSH.out]; rintro e' w4 ⟨⟨v, rfl, ho⟩, hx⟩; exact ⟨_, rfl, hR _ _ hx (World.ownsRow.mono ho hq.size)⟩)
      intro xs w2 hx2 hk
      simp only [heldV, Nat.zero_add, Nat.reduceAdd, and_true] at hk
      obtain ⟨q0, q1, q2, q3, q4, q5, q6, q7, q8⟩ := hk
      simp (maxSteps := 1000000) only [List.take_succ_cons, List.take_zero, List.drop_succ_cons, List.drop_zero, fillFrom, Act.put, List.setIfInBounds_toArray, List.set_cons_zero, List.set_cons_succ, Nat.zero_add, Nat.reduceAdd, q0, q1, q2, q4, q5, q6]
      clear q0 q1 q2 q4 q5 q6
      generalize xs 3 = x3 at *
      generalize xs 7 = x7 at *
      generalize xs 8 = x8 at *
      have HO : Hid _ := q8
      have HX : Hid _ := hx2
      clear hx2 q8
      go_wp2
      go_ret
      exact ⟨⟨_, rfl, HO.out⟩, HX.out⟩

set_option maxRecDepth 100000 in
theorem wuniq_any {w : World} {v : Value} {l : List B8} (hv : IsStrs w v l) (hl : l.length ≤ 1000000) :
    Calls Tryz.prog 125 #[v] w fun e w' => (∃ v', e = .returned v' ∧ w'.ownsRow w.heap.size 9 1 v' (uniqT l).length ((uniqT l).map S8)) ∧ Ext w w' := by
  obtain ⟨a, cap, rfl, l1, l2, l3, -⟩ := hv.get
  have HS : Hid _ := wsort_all l.length _ l w (Nat.le_refl _) hv hl
  have HU : Hid (Lib.compact (sortT l) = uniqT l) := cp_uniq l
  clear hv
  go_enter Tryz.func125, Tryz.ntmps125
  go_wp2_with fail
  go_at_call 192
  refine Calls.mono HS.out ?_
  rintro e w1 ⟨⟨v1, rfl, ho⟩, hx⟩
  have HC : Hid _ := compact_any (by rw [sortT_len]; exact ho) (by rw [sortT_len]; omega)
  have HX : Hid (Ext w w1) := hx
  have HO : Hid (w1.ownsRow w.heap.size 9 1 v1 l.length ((sortT l).map S8)) := ho
  clear ho hx HS
  go_wp2_with fail
  go_at_call 191
  refine Calls.mono HC.out ?_
  rw [HU.out]
  rintro e w2 ⟨⟨v2, rfl, ho2⟩, hg⟩
  have HX2 : Hid (Ext w w2) := Below.grown HX.out hg HX.out.size (fun q hq => (World.ownsRow.lt HO.out q hq).1)
  have HO2 : Hid _ := ho2
  clear ho2 hg HC
  go_wp2
  go_ret
  exact ⟨⟨_, rfl, HO2.out⟩, HX2.out⟩

end Go.Proofs.YtfgdmlmfgnhpaaaGreatDoor

/-! Maps whose elements are given by a function, gone through; table.Rising. Conditions: as each theorem states. -/
namespace Go.Proofs.YtfgdmlmfgnhpaaaGreatDoor
open Go Go.RowKit Go.Sort
set_option linter.unusedVariables false
set_option linter.unusedSimpArgs false
set_option linter.unusedSectionVars false

section
variable {ops : Array Oper} {rest : List Oper} {o : Oper} {a : Act} {Q : Exit → Act → World → Prop} {w : World}
theorem next_mg (V : Fi → Value) (hgd : o.guard = none) (it : Operand) (hop : o.op = Op.next it false) (b r n : Nat) (l : Files) (left : Lit → Bool) (cnt : Nat)
    (hit : a.eval it = .pointer (some ⟨r, 0, none⟩)) (h : w.ranges Tryz.prog 9 elemV b r n (datG V l) left cnt)
    (hDone : cnt = 0 → (∀ kl, left kl = false) → wpList Tryz.prog ops Q rest (a.put o.dst (.tuple #[.bool false])) w)
    (hMore : ∀ (p : B8) (f : Fi) (w' : World) (cnt' : Nat), look l p = some f → left (.string p) = true →
      w'.ranges Tryz.prog 9 elemV b r n (datG V l) (fun z => left z && !z.sameKey (.string p)) cnt' → cnt' < cnt → w.grownBy w' (some r) → w'.heap.size = w.heap.size →
      (Instr.entry (.pointer (some ⟨r, 0, none⟩))).run Tryz.prog w' = .ok (.tuple #[S8 p, V f]) w' →
      wpList Tryz.prog ops Q rest (a.put o.dst (.tuple #[.bool true, S8 p, V f])) w') :
    wpList Tryz.prog ops Q (o :: rest) a w := by
  refine wpList_next_ranges w hgd it hop 9 K_str elemV Value.string (id : Value → Value) (fun key kl hk => key_inv hk) (fun v y _ => ⟨v, rfl⟩) b r n (datG V l) left cnt hit h hDone ?_
  intro x v kl y w' cnt' hkey hl hv hat hrg hlt hg hsz hen
  obtain rfl := key_lit hkey
  have hy : y.1 = .held v := by
    have : some (DataW.held v, ([] : List MemPlace)) = some y := hv
    rw [← Option.some.inj this]
  have hlk : ∃ f, look l x.data.toList = some f := by
    cases hk : look l x.data.toList with
    | some f => exact ⟨f, rfl⟩
    | none =>
      have h1 := hat .nil
      rw [datG_at, hk, hy] at h1
      cases h1
  obtain ⟨f, hf⟩ := hlk
  have hvv : v = V f := by
    have h1 := hat .nil
    rw [datG_at, hf, hy] at h1
    exact (DataW.held.inj h1).symm
  subst hvv
  exact hMore x.data.toList f w' cnt' hf hl hrg hlt hg hsz hen
end
theorem leftG_all (V : Fi → Value) {l : Files} : leftF (Maps.has (datG V l)) l = l := by
  unfold leftF
  rw [List.filter_eq_self]
  intro e he
  rw [datG_has]
  unfold look
  rw [Option.isSome_map, List.find?_isSome]
  exact ⟨e, he, by simp⟩

set_option maxRecDepth 100000 in
set_option maxHeartbeats 4000000 in
theorem rising_any (V : Fi → Value) (b : Nat) (l : Files) (w : World) (hr : Rising l) (hm : IsMG V w b l) (hl : l.length ≤ 100000) (hp : ∀ p ∈ pathsL l, p.length ≤ 1000000) (hV : ∀ p f, look l p = some f → ∃ a n c, V f = .slice a n c) :
    Calls Tryz.prog 184 #[.map (some b)] w fun e w' => (∃ a c, e = .returned (.slice a l.length c)) ∧ Ext w w' := by
  have hown := hm.map
  have hbl := hm.lt
  have HM : Hid (IsMG V w b l) := hm
  have HR : Hid (Rising l) := hr
  have HP : Hid (∀ p ∈ pathsL l, p.length ≤ 1000000) := hp
  have HA : Hid _ := leftG_all V (l := l)
  clear hr hp hm
  go_enter Tryz.func184, Tryz.ntmps184
  go_wp2_with (first
    | (at_range; refine wpList_range_own _ rfl _ 229 rfl 9 45 K_str Tryz.underlying229 _ b _ _ rfl hown ?_; intro w0 hrg0 hg0 hs0)
    | go_in)
  go_frame
  go_loopw [3] (fun sv wr => ∃ (left : Lit → Bool) (cnt : Nat) (C : List B8), wr.ranges Tryz.prog 9 elemV b w.heap.size l.length (datG V l) left cnt ∧ wr.ownsRow w.heap.size 9 1 sv C.length (C.map S8) ∧ (C ++ pathsL (leftF left l)).Perm (pathsL l) ∧ Ext w wr)
    (fun _ wr => wr.rangeLeft b w.heap.size)
  case atStart => exact ⟨_, _, [], hrg0, World.ownsRow_nil _ _ _ _, by rw [HA.out]; exact List.Perm.refl _, Below.grown (Below.refl _ _) hg0 (Nat.le_refl _) (fun j hj => by cases hj)⟩
  case round =>
    obtain ⟨left, cnt, C, hrg, hown, hpm, hx⟩ := hrel
    have HPM : Hid _ := hpm
    have hCl : C.length ≤ l.length := by
      have := hpm.length_eq
      simp only [List.length_append, pathsL, List.length_map] at this
      omega
    have HOW : Hid _ := hown
    clear hpm hown
    go_wp2_with (at_next; refine next_mg V rfl _ rfl b w.heap.size _ l _ _ rfl hrg ?_ ?_)
    · intro hc0 hl0
      have hpe : C.Perm (pathsL l) := by
        have := HPM.out
        rw [leftF_none hl0] at this
        simpa [pathsL] using this
      have hle : C.length = l.length := by have := hpe.length_eq; simpa [pathsL] using this
      have HPE : Hid (C.Perm (pathsL l)) := hpe
      have HLE : Hid (C.length = l.length) := hle
      have HXR : Hid (Ext w wr) := hx
      have HIS : Hid (IsStrs wr _ C) := Row.of_owns HOW.out (by omega)
      obtain ⟨ca, cc, he, -⟩ := HIS.out.get
      subst he
      clear hl0 hpe hle hx
      go_wp2_with fail
      go_at_call 192
      have hpl : C.length ≤ 1000000 := by have := HLE.out; omega
      refine (wsort_all C.length _ C wr (Nat.le_refl _) HIS.out hpl).mono ?_
      rintro e w2 ⟨⟨v2, rfl, hv2⟩, hx2⟩
      have HS2 : Hid (IsStrs w2 v2 (sortT C)) := by
        have h9 := Row.of_owns hv2 (by omega)
        unfold Hid IsStrs
        rw [sortT_len]
        exact h9
      obtain ⟨sa, sc, he2, s1, s2, s3, hsg⟩ := HS2.out.get
      have HSG : Hid _ := hsg
      rw [sortT_len, HLE.out] at he2 s1
      subst he2
      have HX2 : Hid (Ext w w2) := HXR.out.trans hx2
      have HM2 : Hid (IsMG V w2 b l) := HM.out.ext HX2.out
      clear hv2 hx2 hsg s2
      go_wp2_with fail
      go_loopw [5, 21] (fun sv i wq => ∃ (k : Nat) (xs : List Value), k ≤ l.length ∧ i = .int .i64 k ∧ Hid (wq.ownsRow w2.heap.size 45 1 sv k xs) ∧ Hid (Ext w2 wq)) (fun _ i _ => l.length - (intOf i).toNat)
      case atStart => exact ⟨0, [], Nat.zero_le _, rfl, World.ownsRow_nil _ _ _ _, Ext.refl _⟩
      case round =>
      obtain ⟨k, xs, hk, rfl, HOQ, HXQ⟩ := hrel
      by_cases hlt : k < l.length
      case neg =>
        have hkk : k = l.length := by omega
        subst hkk
        obtain ⟨ra, rc, he, -⟩ := Row.of_owns HOQ.out (by omega)
        subst he
        go_wp2
        go_ret
        exact ⟨⟨_, _, rfl⟩, HX2.out.trans HXQ.out⟩
      have hks : k < (sortT C).length := by rw [sortT_len, HLE.out]; exact hlt
      obtain ⟨q, hq⟩ : ∃ q, (sortT C)[k]? = some q := ⟨_, List.getElem?_eq_getElem hks⟩
      obtain ⟨bb, oo, rfl, hc⟩ := HSG.out k hks
      have y1 := HXQ.out.cell (hc k hks)
      rw [show (sortT C).getD k [] = q by rw [List.getD_eq_getElem?_getD, hq]; rfl] at y1
      have hqm : q ∈ pathsL l := HPE.out.mem_iff.1 ((sortT_perm C).mem_iff.1 (List.mem_of_getElem? hq))
      have hql := HP.out q hqm
      obtain ⟨f, hf⟩ : ∃ f, look l q = some f := Option.isSome_iff_exists.1 (by unfold look; rw [Option.isSome_map, List.find?_isSome]; obtain ⟨e, he, hee⟩ := List.mem_map.1 hqm; exact ⟨e, he, by simp [hee]⟩)
      obtain ⟨va, vn, vc, hvf⟩ := hV q f hf
      have hlk := ((HM2.out.ext HXQ.out).look_run 229 45 (.slice none 0 0) Tryz.underlying229 (by kernel_rfl) q hql).2
      rw [show lookG V (.slice none 0 0) l q = .slice va vn vc by unfold lookG; rw [hf]; exact hvf] at hlk
      have hown := HOQ.out
      have hsz := HXQ.out.size
      clear hc hq hqm hf hvf
      go_wp2_with (at_builtin; go_must (refine app_any 166 45 (.slice none 0 0) 1 24 Tryz.underlying166 (by kernel_rfl) rfl (by omega) rfl _ _ rfl w2.heap.size _ k xs rfl (hown.alloc _) ⟨wr.heap.size, 0, none⟩ 1 1 [.slice va vn vc] rfl rfl (news_of_block (alloc_at _ _)) (by simp [Value.oneCell']) (by omega) (by omega) (by simp; omega) ?_; intro v' w3 hown3 hg3 _))
      go_roundw
      case rel => exact ⟨k + 1, _, by omega, by go_num, hown3, owns_ext_app (HXQ.out.alloc _) (hown.alloc _) hg3⟩
      case measure => simp [intOf]; omega
    · intro q f w1 cnt1 hlk hlx hrg1 hlt hg1 hs1 hen
      have hst := strike_perm (f := f) hlx HR.out hlk
      have hpm1 : ((C ++ [q]) ++ pathsL (leftF (strike left q) l)).Perm (pathsL l) := by
        refine List.Perm.trans ?_ HPM.out
        rw [List.append_assoc]
        refine List.Perm.append_left C ?_
        exact (List.Perm.map Prod.fst hst).symm
      have HMM : Hid _ := hpm1
      have hne := row_ne_iter HOW.out hrg
      have hown1 := World.ownsRow.kept HOW.out hg1 (.inr hne.symm)
      have hx1 : Ext w w1 := Below.grown hx hg1 hx.size (fun j hj => by cases hj; exact Nat.le_refl _)
      have hxa : Ext w1 (w1.alloc (.cells #[S8 q] 9)) := (Ext.refl _).alloc _
      have hown2 := owns_ext hown1 hxa
      have hx2 := hx1.trans hxa
      have hsz : w.heap.size ≤ (w1.alloc (.cells #[S8 q] 9)).heap.size := hx2.size
      have hrg2 := hrg1.alloc (.cells #[S8 q] 9)
      have HNE2 : Hid _ := row_ne_iter hown2 hrg2
      have HLOW : Hid _ := row_ne_low hown2 hbl
      obtain ⟨fv, hfv⟩ : ∃ fv, V f = fv := ⟨_, rfl⟩
      rw [hfv] at hen
      clear hlk hst hpm1 hlx hne hown1 hx1 hxa hs1
      go_wp2_with (at_builtin; go_must (refine app_str rfl _ _ rfl w.heap.size _ C.length C rfl hown2 w1.heap.size 1 1 [q] rfl rfl (alloc_at _ _) (by omega) hsz ?_); intro v' w3 hown3 hgr3)
      go_roundw
      case rel => exact ⟨_, cnt1, C ++ [q], hrg2.kept hgr3 HLOW.out HNE2.out, by rw [List.length_append]; exact hown3, HMM.out, Below.grown hx2 hgr3 hx2.size (fun j hj => (hown2.lt j hj).1)⟩
      case measure => rw [(hrg2.kept hgr3 HLOW.out HNE2.out).left_eq, hrg.left_eq]; exact hlt

end Go.Proofs.YtfgdmlmfgnhpaaaGreatDoor

/-! table.Build's two orders: of two texts, of one object. Conditions: as each theorem states. -/
namespace Go.Proofs.YtfgdmlmfgnhpaaaGreatDoor
open Go Go.RowKit Go.Sort Go.Lib
set_option linter.unusedVariables false
set_option linter.unusedSimpArgs false

theorem two_alloc (w : World) (a b : Array Value) (s t : TypeId) : (w.alloc (.cells a s)).alloc (.cells b t) = grow w #[.cells a s, .cells b t] := by
  unfold grow World.alloc
  have h : ∀ (x : Array Obj) (p q : Obj), (x.push p).push q = x ++ #[p, q] := fun x p q => by rw [Array.push_eq_append, Array.push_eq_append, Array.append_assoc]; rfl
  rw [h]
def nmB (b : Bool) : B8 := if b then [97] else []
def encB (b : Bool) : Value := S8 (nmB b)
def lenB (x y : Bool) : Int := ((nmB y).length : Int) - ((nmB x).length : Int)
set_option maxRecDepth 100000 in
theorem build1_gen (x y : B8) (w : World) (hx : x.length ≤ 1000) (hy : y.length ≤ 1000) : Calls Tryz.prog 180 #[S8 x, S8 y] w fun e w' => e = .returned (.int .i64 ((y.length : Int) - (x.length : Int))) ∧ w' = w := by
  have hw : IntKind.i64.wrap ((y.length : Int) - (x.length : Int)) = (y.length : Int) - (x.length : Int) := IntWalk.i64_in _ (by omega)
  go_enter Tryz.func180, Tryz.ntmps180
  go_wp2
  go_ret
  exact ⟨rfl, rfl⟩
theorem build1_any (x y : Bool) (w : World) : Calls Tryz.prog 180 #[encB x, encB y] w fun e w' => e = .returned (.int .i64 (lenB x y)) ∧ w' = w :=
  build1_gen (nmB x) (nmB y) w (by cases x <;> decide) (by cases y <;> decide)
set_option maxRecDepth 100000 in
theorem build2_any (m : Value) (nm id : B8) (w : World) : Calls Tryz.prog 182 #[.agg #[m, S8 nm, S8 id], .agg #[m, S8 nm, S8 id]] w fun e w' => e = .returned (.int .i64 0) ∧ ∃ os, w' = grow w os := by
  have h0 : cmpI nm nm = 0 := by unfold cmpI; rw [ltB_irr]; rfl
  go_enter Tryz.func182, Tryz.ntmps182
  go_wp2_with (go_at_call 183; go_must (refine (compare_any nm nm _).mono ?_; rw [h0]; rintro e w' ⟨rfl, rfl⟩))
  go_ret
  refine ⟨rfl, #[.cells #[m, S8 nm, S8 id] 209, .cells #[m, S8 nm, S8 id] 209], ?_⟩
  exact two_alloc _ _ _ _ _
theorem lens_any : ∀ (n : Nat) (W : World), n ≤ 12 → Calls Tryz.prog 171 #[.int .u64 n] W fun e w' => (∃ l : Int, e = .returned (.int .i64 l)) ∧ w' = W := fun n W h => (Tryz.bits_Len n W (by omega) (by omega)).mono fun e w' ⟨he, hw⟩ => ⟨⟨_, he⟩, hw⟩

theorem sort2_any (blk cap : Nat) (d : Array Bool) (w : World) (hH : Holds encB w blk 0 d) (hd : d.size ≤ 12) :
    Calls Tryz.prog 179 #[.slice (some ⟨blk, 0, none⟩) d.size cap, .func (.func 180) #[] #[]] w fun e w' => e = .returned (.tuple #[]) ∧ ∃ n, w' = (putRow encB w blk 0 (Sort.insertionSort (ltOf lenB) d 0 d.size)).drewN n := by
  have eg : ∀ args w, (callFunc 180 args).run Tryz.prog w = .ok (.enter 180 args) w := enters_of Tryz.func180 (by kernel_rfl) rfl
  exact Tryz.slices_SortFunc_small encB (fun _ => rfl) lenB _ #[] blk 0 cap d w eg (fun m os dk _ x y => (build1_any x y _).mono fun e w' ⟨he, hw⟩ => ⟨he, 0, hw⟩) hH hd lens_any

theorem sort1_any (m : Value) (h1m : m.oneCell' = true) (nm id : B8) (blk cap : Nat) (w : World) (hc : ∀ j v, #[m, S8 nm, S8 id][j]? = some v → w.cell? ⟨blk, j, none⟩ = some v ∧ w.frozen? ⟨blk, j, none⟩ = false) :
    Calls Tryz.prog 181 #[.slice (some ⟨blk, 0, none⟩) 1 cap, .func (.func 182) #[] #[]] w fun e w' => e = .returned (.tuple #[]) ∧ Ext w w' := by
  have eg : ∀ args w, (callFunc 182 args).run Tryz.prog w = .ok (.enter 182 args) w := enters_of Tryz.func182 (by kernel_rfl) rfl
  have hH : HoldsK (fun _ : Unit => [m, S8 nm, S8 id]) 3 w blk 0 #[()] := by
    intro j hj
    have hj3 : j < 3 := by simpa using hj
    rw [Nat.zero_add]
    rw [show _root_.id (flatK (fun _ : Unit => [m, S8 nm, S8 id]) 3 #[()])[j]! = (flatK (fun _ : Unit => [m, S8 nm, S8 id]) 3 #[()])[j]! from rfl, get_flatK _ _ _ j (by simpa using hj3)]
    match j, hj3 with
    | 0, _ => exact hc 0 m rfl
    | 1, _ => exact hc 1 _ rfl
    | 2, _ => exact hc 2 _ rfl
  have hb : blk < w.heap.size := World.block_lt_of_cell? _ _ (hc 0 m rfl).1
  have h := AnyQ.slices_SortFunc_small Tryz.laysSortI 3 (fun w => Tryz.isAgg209 w) (fun w => Tryz.sizeOf209 w) (fun _ : Unit => [m, S8 nm, S8 id]) (fun _ => rfl) (by intro x v hv; simp at hv; rcases hv with rfl | rfl | rfl <;> first | exact h1m | rfl) (fun _ _ => 0) _ #[] blk 0 cap #[()] w eg
    (fun q os dk _ x y => (build2_any m nm id _).mono fun e w' ⟨he, os', hw⟩ => ⟨he, 0, os', hw⟩) hH hb (by decide) lens_any
  refine Calls.mono h fun e w' ⟨he, n, os, hw⟩ => ⟨he, ?_⟩
  rw [hw]
  have hs : Sort.insertionSort (ltOf fun _ _ : Unit => (0 : Int)) #[()] 0 #[()].size = #[()] := by decide +kernel
  rw [hs]
  unfold sortWorldK
  rw [putRowK_self _ _ _ _ _ _ (holdsK_ahead _ _ _ _ _ _ _ hH)]
  exact Ext.of_grow n os

theorem perm2 {C : List B8} (h : C.Perm [[], [97]]) : ∃ d : List Bool, (d = [false, true] ∨ d = [true, false]) ∧ C = d.map nmB := by
  have hl := h.length_eq
  have m0 : [] ∈ C := h.symm.mem_iff.1 (by simp)
  have m1 : [97] ∈ C := h.symm.mem_iff.1 (by simp)
  match C, hl with
  | [x, y], _ =>
    simp at m0 m1
    rcases m0 with rfl | rfl
    · rcases m1 with h1 | rfl
      · cases h1
      · exact ⟨[false, true], .inl rfl, rfl⟩
    · rcases m1 with rfl | h1
      · exact ⟨[true, false], .inr rfl, rfl⟩
      · cases h1
theorem holds_nm {w : World} {q : Nat} {d : List Bool} (h : Holds encStr w q 0 (d.map nmB).toArray) : Holds encB w q 0 d.toArray := by
  intro j hj
  have hj' : j < d.length := by simpa using hj
  have h1 := h j (by simpa using hj')
  have e : encStr (d.map nmB).toArray[j]! = encB d.toArray[j]! := by
    rw [getElem!_pos (d.map nmB).toArray j (by simpa using hj'), getElem!_pos d.toArray j (by simpa using hj')]
    simp
    rfl
  rw [e] at h1
  exact h1
theorem putRow_gr {α : Type} [Inhabited α] (enc : α → Value) (w : World) (g n : Nat) (d : Array α) : w.grownBy ((putRow enc w g 0 d).drewN n) (some g) := by
  refine ⟨rfl, rfl, rfl, by simp [World.drewN, putRow, mapBlock], fun k hk hne => ?_⟩
  have : g ≠ k := fun e => hne (by rw [e])
  simp [World.drewN, putRow, mapBlock, Array.getElem?_modify, this]
theorem order_any (q c : Nat) (C : List B8) (cur : Array Value) (w : World) (hp : C.Perm [[], [97]]) (hb : w.heap[q]? = some (.cells cur 9 (0, 0))) (ht : cur.toList.take (C.length * 1) = C.map S8) :
    Calls Tryz.prog 179 #[.slice (some ⟨q, 0, none⟩) 2 c, .func (.func 180) #[] #[]] w fun e w' => e = .returned (.tuple #[]) ∧ w.grownBy w' (some q) ∧ w'.cell? ⟨q, 0, none⟩ = some (S8 [97]) ∧ w'.cell? ⟨q, 1, none⟩ = some (S8 []) := by
  obtain ⟨d, hd, rfl⟩ := perm2 hp
  have hH : Holds encB w q 0 d.toArray := holds_nm (holds_of_block hb (by rw [Nat.mul_one] at ht; exact ht))
  have hs : d.toArray.size = 2 := by rcases hd with rfl | rfl <;> rfl
  have hi : Sort.insertionSort (ltOf lenB) d.toArray 0 d.toArray.size = #[true, false] := by rcases hd with rfl | rfl <;> decide +kernel
  have h := sort2_any q c d.toArray w hH (by omega)
  rw [hi, hs] at h
  refine h.mono fun e w' ⟨he, n, hw⟩ => ⟨he, by rw [hw]; exact putRow_gr _ _ _ _ _, ?_, ?_⟩
  · rw [hw]
    show (putRow encB w q 0 #[true, false]).cell? ⟨q, 0, none⟩ = _
    exact cell?_putRow encB w q 0 d.toArray #[true, false] hH (by rw [hs]; rfl) 0 (by decide)
  · rw [hw]
    show (putRow encB w q 0 #[true, false]).cell? ⟨q, 1, none⟩ = _
    exact cell?_putRow encB w q 0 d.toArray #[true, false] hH (by rw [hs]; rfl) 1 (by decide)

theorem cells3 {w : World} {q : Nat} {cur : Array Value} {e : TypeId} {xs : Array Value} (hb : w.heap[q]? = some (.cells cur e (0, 0))) (h4 : cur.toList.take (1 * 3) = xs.toList) : ∀ j v, xs[j]? = some v → w.cell? ⟨q, j, none⟩ = some v ∧ w.frozen? ⟨q, j, none⟩ = false := by
  intro j v hj
  refine ⟨?_, by simp [World.frozen?, hb]⟩
  have h1 : (cur.toList.take (1 * 3))[j]? = some v := by rw [h4, Array.getElem?_toList]; exact hj
  rw [List.getElem?_take] at h1
  split at h1
  · simp only [World.cell?, hb]
    simp only [Option.isSome_none, Bool.false_eq_true, if_false]
    rw [← Array.getElem?_toList, h1]
  · cases h1
theorem item_sorts {w : World} {base : Nat} {v m : Value} {nm id : B8} (h : w.ownsRow base 209 3 v 1 [m, S8 nm, S8 id]) (h1m : m.oneCell' = true := by rfl) : ∃ q c, v = .slice (some ⟨q, 0, none⟩) 1 c ∧
    Calls Tryz.prog 181 #[.slice (some ⟨q, 0, none⟩) 1 c, .func (.func 182) #[] #[]] w fun e w' => e = .returned (.tuple #[]) ∧ Ext w w' := by
  rcases h.2 with ⟨-, h0⟩ | ⟨q, c, cur, rfl, hb, hbk, j1, j2, j3, j4⟩
  · cases h0
  · exact ⟨q, c, rfl, sort1_any m h1m nm id q c w (cells3 hbk j4)⟩
end Go.Proofs.YtfgdmlmfgnhpaaaGreatDoor

/-! obj: may rows of a tree be; may an object be. Conditions: as each theorem states. -/
namespace Go.Proofs.YtfgdmlmfgnhpaaaGreatDoor
open Go Go.RowKit Go.Sort
set_option linter.unusedVariables false
set_option linter.unusedSimpArgs false
set_option linter.unusedSectionVars false

/-- What was read so far is fine: rows whose names rise. -/
def itT (l : List Itm) (k : Nat) : Bool := (l.take k).all itemOk && risesB ((l.take k).map (·.name))
theorem itT_bad {l : List Itm} {k : Nat} (h : itT l k = false) : itemsOk l = false := by
  unfold itT at h
  unfold itemsOk
  rw [Bool.and_eq_false_iff] at h ⊢
  rcases h with h | h
  · left
    rw [List.all_eq_false] at h ⊢
    obtain ⟨x, hx, hv⟩ := h
    exact ⟨x, List.mem_of_mem_take hx, hv⟩
  · right
    rw [Bool.and_eq_false_iff]
    left
    cases hq : risesB (l.map (·.name)) with
    | false => rfl
    | true =>
      have h9 := rises_cut (l.map (·.name)) k hq
      rw [← List.map_take, h] at h9
      cases h9
def itm0 : Itm := ⟨0, [], []⟩
theorem itT_step {l : List Itm} {k : Nat} {x : Itm} (hx : l[k]? = some x) : itT l (k + 1) = (itT l k && (itemOk x && (decide (k = 0) || ltB (l.getD (k - 1) itm0).name x.name))) := by
  unfold itT
  have h1 : l.take (k + 1) = l.take k ++ [x] := by rw [List.take_add_one, hx]; rfl
  cases k with
  | zero =>
    rw [h1]
    simp [risesB]
  | succ j =>
    have hj : j < l.length := by have := (List.getElem?_eq_some_iff.1 hx).1; omega
    have hy : l[j]? = some (l.getD j itm0) := by rw [List.getD_eq_getElem?_getD, List.getElem?_eq_getElem hj]; rfl
    have ha : (l.map (·.name))[j]? = some (l.getD j itm0).name := by rw [List.getElem?_map, hy]; rfl
    have hb : (l.map (·.name))[j + 1]? = some x.name := by rw [List.getElem?_map, hx]; rfl
    have h2 := rises_take ha hb
    rw [← List.map_take, ← List.map_take] at h2
    rw [h2, h1, List.all_append]
    simp only [List.all_cons, List.all_nil, Bool.and_true, Nat.add_one_sub_one, Nat.add_eq_zero_iff, Nat.one_ne_zero, and_false, decide_false, Bool.false_or]
    cases (l.take (j + 1)).all itemOk <;> cases itemOk x <;> cases risesB ((l.take (j + 1)).map (·.name)) <;> cases ltB (l.getD j itm0).name x.name <;> rfl
theorem it_no {t r : Bool} {x : Itm} {b : Bool} (h : t = !r) (hs : t = (itemOk x && b)) (hx : itemOk x = false) : r = true := by
  rw [hx, Bool.false_and] at hs
  rw [hs] at h
  cases r
  · cases h
  · rfl
theorem it_no2 {t r : Bool} {x : Itm} {b : Bool} (h : t = !r) (hs : t = (itemOk x && b)) (hx : b = false) : r = true := by
  rw [hx, Bool.and_false] at hs
  rw [hs] at h
  cases r
  · cases h
  · rfl
theorem it_yes {t r : Bool} {x : Itm} {b : Bool} (h : t = !r) (hs : t = (itemOk x && b)) (hx : itemOk x = true) (hb : b = true) : r = false := by
  rw [hx, hb] at hs
  rw [hs] at h
  cases r
  · rfl
  · cases h
/-- Rows whose texts are short. -/
def ItSmall (l : List Itm) : Prop := ∀ x ∈ l, x.name.length ≤ 10000000 ∧ x.id.length ≤ 10000000

set_option maxRecDepth 100000 in
set_option maxHeartbeats 8000000 in
theorem mayItems_any (v : Value) (l : List Itm) (w : World) (hv : IsItms w v l) (hs : ItSmall l) :
    Calls Tryz.prog 249 #[v] w fun e w' => e = .returned (.bool (itemsOk l)) ∧ Ext w w' := by
  obtain ⟨a, c, rfl, l1, l2, l3, hg⟩ := hv.get
  have HG : Hid _ := hg
  have HS : Hid _ := hs
  clear hv hg hs
  go_enter Tryz.func249, Tryz.ntmps249
  go_wp2
  go_loopw [7] (fun i wr => ∃ k : Nat, k ≤ l.length ∧ i = .int .i64 k ∧ Hid (itT l k = true) ∧ Hid (Ext w wr)) (fun i _ => l.length - (intOf i).toNat)
  case atStart => exact ⟨0, Nat.zero_le _, rfl, rfl, Ext.refl _⟩
  case round =>
    obtain ⟨k, hk, rfl, HT, HX⟩ := hrel
    by_cases hlt : k < l.length
    · obtain ⟨x, hx⟩ : ∃ x, l[k]? = some x := ⟨_, List.getElem?_eq_getElem hlt⟩
      obtain ⟨bb, oo, rfl, hc0, hc1, hc2⟩ := HG.out k x hx
      obtain ⟨hxn, hxi⟩ := HS.out x (List.mem_of_getElem? hx)
      have hst := itT_step hx
      rw [HT.out, Bool.true_and] at hst
      have HST : Hid _ := hst
      have HPREV : Hid (∀ j, k = j + 1 → wr.cell? ⟨bb, oo + j * 3 + 1, none⟩ = some (S8 (l.getD j itm0).name)) := fun j hj => by
        subst hj
        have hjl : j < l.length := by omega
        obtain ⟨b2, o2, he, -, h9, -⟩ := HG.out j (l.getD j itm0) (by rw [List.getD_eq_getElem?_getD, List.getElem?_eq_getElem hjl]; rfl)
        cases he
        exact HX.out.cell h9
      have y0 := HX.out.cell hc0
      have y1 := HX.out.cell hc1
      have y2 := HX.out.cell hc2
      obtain ⟨mode, name, id⟩ := x
      dsimp only at y0 y1 y2 hxn hxi
      clear hst hx hc0 hc1 hc2
      go_upto_region 4 with fail
      obtain ⟨w4, hw4⟩ : ∃ w4, w4 = wr.alloc (.cells #[.int .i64 mode, S8 name, S8 id] 209) := ⟨_, rfl⟩
      have hx4 : Ext wr w4 := by rw [hw4]; exact (Ext.refl _).alloc _
      have hb4 : w4.heap[wr.heap.size]? = some (.cells #[.int .i64 mode, S8 name, S8 id] 209 (0, 0)) := by rw [hw4]; exact alloc_at _ _
      rw [← hw4]
      obtain ⟨gi, hgi⟩ : ∃ gi, wr.heap.size = gi := ⟨_, rfl⟩
      rw [hgi] at hb4 ⊢
      obtain ⟨z0, z1, z2⟩ := cellsAt3 hb4
      have HX4 : Hid (Ext w w4) := HX.out.trans hx4
      have HP4 : Hid (∀ j, k = j + 1 → w4.cell? ⟨bb, oo + j * 3 + 1, none⟩ = some (S8 (l.getD j itm0).name)) := fun j hj => hx4.cell (HPREV.out j hj)
      have v0 := fun d os => cell_regrown z0 d os
      have v1 := fun d os => cell_regrown z1 d os
      have v2 := fun d os => cell_regrown z2 d os
      obtain ⟨nb, hnb⟩ : ∃ nb, nameB name = nb := ⟨_, rfl⟩
      obtain ⟨vb, hvb⟩ : ∃ vb, validB id = vb := ⟨_, rfl⟩
      have HNB : Hid _ := hnb
      have HVB : Hid _ := hvb
      have HNA : Hid (∀ d os, Calls Tryz.prog 172 #[S8 name] (grow (redrawn w4 d) os) fun e w' => e = .returned (.bool nb) ∧ ∃ q : Regrown, w' = grow (redrawn w4 q.d) q.os) := fun d os =>
        (name_any name _ (by omega)).mono (fun _ _ ⟨he, hw⟩ => ⟨by rw [he, hnb], ⟨d, os⟩, hw⟩)
      have HVA : Hid (∀ d os, Calls Tryz.prog 31 #[S8 id] (grow (redrawn w4 d) os) fun e w' => e = .returned (.bool vb) ∧ ∃ q : Regrown, w' = grow (redrawn w4 q.d) q.os) := fun d os => Calls.regrown_of (by
        have h9 := valid_any id (grow (redrawn w4 d) os) (by omega)
        rwa [hvb] at h9)
      obtain ⟨okk, hokk⟩ : ∃ c, itT l (k + 1) = !c := ⟨!itT l (k + 1), by simp⟩
      have HOK : Hid _ := hokk
      clear hw4 hx4 hb4 hgi z0 z1 z2 y0 y1 y2 hnb hvb hokk HPREV HX
      go_cut [46] (fun c wx => c = .bool okk ∧ Ext w4 wx)
      case first =>
        by_cases h1 : mode < 1
        · have HR : Hid (okk = true) := it_no HOK.out HST.out (by unfold itemOk; rw [decide_eq_false (by omega : ¬ 1 ≤ mode)]; rfl)
          refine qw_below (by kernel_rfl) (by kernel_rfl) ?_
          repeat (refine qw_step (fun K hK => ?_); go_simp; first | (refine hK _ ?_; clear hK K) | (apply Exists.intro; refine ⟨fun _ => ?_, hK _ ?_⟩; (first | exact HNA.out _ _ | exact HVA.out _ _); clear hK K))
          refine qw_nil ?_
          intro _ hw'
          obtain ⟨⟨dq, osq⟩, hw''⟩ := hw'
          subst hw''
          go_wp2_with fail
          go_meet
          case rel => exact ⟨by rw [HR.out], Ext.regrown _ _ _⟩
        by_cases h2 : 4 < mode
        · have HR : Hid (okk = true) := it_no HOK.out HST.out (by unfold itemOk; rw [decide_eq_false (by omega : ¬ mode ≤ 4)]; simp)
          refine qw_below (by kernel_rfl) (by kernel_rfl) ?_
          repeat (refine qw_step (fun K hK => ?_); go_simp; first | (refine hK _ ?_; clear hK K) | (apply Exists.intro; refine ⟨fun _ => ?_, hK _ ?_⟩; (first | exact HNA.out _ _ | exact HVA.out _ _); clear hK K))
          refine qw_nil ?_
          intro _ hw'
          obtain ⟨⟨dq, osq⟩, hw''⟩ := hw'
          subst hw''
          go_wp2_with fail
          go_meet
          case rel => exact ⟨by rw [HR.out], Ext.regrown _ _ _⟩
        cases nb with
        | false =>
          have HR : Hid (okk = true) := it_no HOK.out HST.out (by unfold itemOk; rw [HNB.out]; simp)
          refine qw_below (by kernel_rfl) (by kernel_rfl) ?_
          repeat (refine qw_step (fun K hK => ?_); go_simp; first | (refine hK _ ?_; clear hK K) | (apply Exists.intro; refine ⟨fun _ => ?_, hK _ ?_⟩; (first | exact HNA.out _ _ | exact HVA.out _ _); clear hK K))
          refine qw_nil ?_
          intro _ hw'
          obtain ⟨⟨dq, osq⟩, hw''⟩ := hw'
          subst hw''
          go_wp2_with fail
          go_meet
          case rel => exact ⟨by rw [HR.out], Ext.regrown _ _ _⟩
        | true =>
        cases vb with
        | false =>
          have HR : Hid (okk = true) := it_no HOK.out HST.out (by unfold itemOk; rw [HVB.out]; simp)
          refine qw_below (by kernel_rfl) (by kernel_rfl) ?_
          repeat (refine qw_step (fun K hK => ?_); go_simp; first | (refine hK _ ?_; clear hK K) | (apply Exists.intro; refine ⟨fun _ => ?_, hK _ ?_⟩; (first | exact HNA.out _ _ | exact HVA.out _ _); clear hK K))
          refine qw_nil ?_
          intro _ hw'
          obtain ⟨⟨dq, osq⟩, hw''⟩ := hw'
          subst hw''
          go_wp2_with fail
          go_meet
          case rel => exact ⟨by rw [HR.out], Ext.regrown _ _ _⟩
        | true =>
        have HIO : Hid (itemOk ⟨mode, name, id⟩ = true) := by unfold Hid itemOk; rw [decide_eq_true (by omega : 1 ≤ mode), decide_eq_true (by omega : mode ≤ 4), HNB.out, HVB.out]; rfl
        by_cases hk0 : k = 0
        · have HR : Hid (okk = false) := it_yes HOK.out HST.out HIO.out (by rw [hk0]; rfl)
          subst hk0
          refine qw_below (by kernel_rfl) (by kernel_rfl) ?_
          repeat (refine qw_step (fun K hK => ?_); go_simp; first | (refine hK _ ?_; clear hK K) | (apply Exists.intro; refine ⟨fun _ => ?_, hK _ ?_⟩; (first | exact HNA.out _ _ | exact HVA.out _ _); clear hK K))
          refine qw_nil ?_
          intro _ hw'
          obtain ⟨⟨dq, osq⟩, hw''⟩ := hw'
          subst hw''
          go_wp2_with fail
          go_meet
          case rel => exact ⟨by rw [HR.out], Ext.regrown _ _ _⟩
        · obtain ⟨j, rfl⟩ : ∃ j, k = j + 1 := ⟨k - 1, by omega⟩
          have hwj : IntKind.i64.wrap (((j + 1 : Nat) : Int) - 1) = (j : Int) := by rw [IntWalk.i64_in _ (by omega)]; omega
          have y3 := HP4.out j rfl
          obtain ⟨z, hz⟩ : ∃ z, (l.getD j itm0).name = z := ⟨_, rfl⟩
          rw [hz] at y3
          have v3 := fun d os => cell_regrown y3 d os
          have hk1 : (0 : Int) < ((j + 1 : Nat) : Int) := by omega
          have hwj2 : IntKind.i64.wrap (j : Int) = (j : Int) := IntWalk.i64_in _ (by omega)
          have hk2 : (0 : Int) < (j : Int) + 1 := by omega
          have hjl : j < l.length := by omega
          have HZ : Hid _ := hz
          clear hz y3
          rcases leT_cases name z with ⟨hlt9, hb, he⟩ | ⟨hlt9, hb⟩ | ⟨hlt9, hb, he⟩
          · have HR : Hid (okk = false) := it_yes HOK.out HST.out HIO.out (by rw [show j + 1 - 1 = j from rfl, HZ.out, hlt9]; simp)
            clear hlt9
            refine qw_below (by kernel_rfl) (by kernel_rfl) ?_
            repeat (refine qw_step (fun K hK => ?_); go_simp; first | (refine hK _ ?_; clear hK K) | (apply Exists.intro; refine ⟨fun _ => ?_, hK _ ?_⟩; (first | exact HNA.out _ _ | exact HVA.out _ _); clear hK K))
            refine qw_nil ?_
            intro _ hw'
            obtain ⟨⟨dq, osq⟩, hw''⟩ := hw'
            subst hw''
            go_wp2_with fail
            go_meet
            case rel => exact ⟨by rw [HR.out], Ext.regrown _ _ _⟩
          · have HR : Hid (okk = true) := it_no2 HOK.out HST.out (by rw [show j + 1 - 1 = j from rfl, HZ.out, hlt9]; simp)
            clear hlt9
            refine qw_below (by kernel_rfl) (by kernel_rfl) ?_
            repeat (refine qw_step (fun K hK => ?_); go_simp; first | (refine hK _ ?_; clear hK K) | (apply Exists.intro; refine ⟨fun _ => ?_, hK _ ?_⟩; (first | exact HNA.out _ _ | exact HVA.out _ _); clear hK K))
            refine qw_nil ?_
            intro _ hw'
            obtain ⟨⟨dq, osq⟩, hw''⟩ := hw'
            subst hw''
            go_wp2_with fail
            go_meet
            case rel => exact ⟨by rw [HR.out], Ext.regrown _ _ _⟩
          · have HR : Hid (okk = true) := it_no2 HOK.out HST.out (by rw [show j + 1 - 1 = j from rfl, HZ.out, hlt9]; simp)
            clear hlt9
            refine qw_below (by kernel_rfl) (by kernel_rfl) ?_
            repeat (refine qw_step (fun K hK => ?_); go_simp; first | (refine hK _ ?_; clear hK K) | (apply Exists.intro; refine ⟨fun _ => ?_, hK _ ?_⟩; (first | exact HNA.out _ _ | exact HVA.out _ _); clear hK K))
            refine qw_nil ?_
            intro _ hw'
            obtain ⟨⟨dq, osq⟩, hw''⟩ := hw'
            subst hw''
            go_wp2_with fail
            go_meet
            case rel => exact ⟨by rw [HR.out], Ext.regrown _ _ _⟩
      case rest =>
        obtain ⟨rfl, hxc⟩ := hcut
        have HXC : Hid (Ext w wc) := HX4.out.trans hxc
        clear hxc
        cases okk with
        | true =>
          have HF : Hid (itemsOk l = false) := itT_bad (k := k + 1) (by rw [HOK.out]; rfl)
          go_wp2
          go_ret
          exact ⟨ret_b HF.out.symm, HXC.out⟩
        | false =>
          have HP : Hid (itT l (k + 1) = true) := by unfold Hid; rw [HOK.out]; rfl
          go_wp2
          go_roundw
          case rel => exact ⟨k + 1, by omega, by go_num, HP, HXC⟩
          case measure => simp [intOf]; omega
    · have hkl : k = l.length := by omega
      have HF : Hid (itemsOk l = decide (l.length ≤ 256)) := by
        have h9 := HT.out
        unfold itT at h9
        rw [hkl, List.take_length, Bool.and_eq_true] at h9
        unfold Hid itemsOk
        rw [h9.1, h9.2, Bool.true_and, Bool.true_and]
      clear hk
      go_wp2
      go_ret
      refine ⟨ret_b ?_, HX.out⟩
      rw [HF.out]
      exact decide_eq_decide.2 (by omega)

end Go.Proofs.YtfgdmlmfgnhpaaaGreatDoor
