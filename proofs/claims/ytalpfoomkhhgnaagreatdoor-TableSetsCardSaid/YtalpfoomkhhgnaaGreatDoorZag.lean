/- Maps by texts, their elements given by a function: looked up, set. Conditions: keys of at most 1000000 signs. -/
import Derived.Test.YtalpfoomkhhgnaaGreatDoorZad
import Derived.Test.YtalpfoomkhhgnaaGreatDoorZae
import Derived.Lib.EndianBits
import Derived.Deep.DeepCutAuto
import Derived.Test.YtalpfoomkhhgnaaGreatDoorZaf
import Derived.Lib.AppendStr
import Derived.Test.YtalpfoomkhhgnaaGreatDoorZab

set_option linter.unusedVariables false
set_option linter.unusedSimpArgs false
set_option linter.unusedSectionVars false

/-! wire: put, Put. Conditions: as each theorem states. -/
namespace Go.Proofs.YtalpfoomkhhgnaaGreatDoor
open Go Go.RowKit
set_option linter.unusedVariables false
set_option linter.unusedSimpArgs false
set_option linter.unusedSectionVars false

theorem or128_all : ∀ r : Fin 256, bits BinOp.or IntKind.u8 (r.val : Int) 128 = (((UInt8.ofNat (r.val % 128 + 128)).toNat : Nat) : Int) := by decide +kernel
theorem or128 (m : Nat) : bits BinOp.or IntKind.u8 ((m : Int) % 256) 128 = (((UInt8.ofNat (m % 128 + 128)).toNat : Nat) : Int) := by
  have h := or128_all ⟨m % 256, by omega⟩
  rw [show (((⟨m % 256, by omega⟩ : Fin 256).val : Nat) : Int) = (m : Int) % 256 by simp] at h
  rw [h]
  show (((UInt8.ofNat (m % 256 % 128 + 128)).toNat : Nat) : Int) = _
  rw [show m % 256 % 128 = m % 128 by omega]
theorem low8 {m : Nat} (h : m ≤ 127) : (m : Int) = (((UInt8.ofNat m).toNat : Nat) : Int) := by
  rw [UInt8.toNat_ofNat']
  omega
set_option maxRecDepth 100000 in
set_option maxHeartbeats 1000000 in
theorem wput_any (n : Nat) (w : World) (hn : n ≤ maxW) :
    Calls Tryz.prog 171 #[.int .i64 n] w fun e w' => (∃ v, e = .returned v ∧ w'.ownsRow w.heap.size 5 1 v (putN n).length ((putN n).map fun x => .int .u8 x.toNat)) ∧ Ext w w' := by
  unfold maxW at hn
  go_enter Tryz.func171, Tryz.ntmps171
  go_wp2
  go_loopw [0, 3] (fun nv v wr => ∃ (m : Nat) (l : B8), nv = .int .i64 m ∧ m ≤ n ∧ Hid (putN n = l ++ putN m) ∧ Hid (wr.ownsRow w.heap.size 5 1 v l.length (l.map fun x => .int .u8 x.toNat)) ∧ Hid (Ext w wr)) (fun nv _ _ => (intOf nv).toNat)
  case atStart => exact ⟨n, [], rfl, Nat.le_refl _, rfl, World.ownsRow_nil _ _ _ _, Ext.refl _⟩
  case round =>
    obtain ⟨m, l, rfl, hm, HP, HO, HX⟩ := hrel
    by_cases hlt : 127 < m
    · have hor := or128 m
      obtain ⟨c, hc⟩ : ∃ c, UInt8.ofNat (m % 128 + 128) = c := ⟨_, rfl⟩
      rw [hc] at hor
      have HC : Hid _ := hc
      have hlen : l.length ≤ 9 := by
        have h1 := putN_len9 (n := n) (by unfold maxW; omega)
        rw [HP.out, List.length_append] at h1
        omega
      clear hc
      go_wp2_with (at_builtin; go_must (refine app_u8 rfl _ _ rfl w.heap.size _ l.length _ rfl (owns_ext HO.out ((Ext.refl _).alloc _)) wr.heap.size 1 1 [c] rfl rfl (alloc_at _ _) (by omega) (by have := HX.out.size; simp; omega) ?_; intro v' w3 hown3 hg3))
      go_roundw
      case rel =>
        refine ⟨m / 128, l ++ [c], ?_, by omega, ?_, ?_, ?_⟩
        · go_num
        · unfold Hid
          rw [HP.out, putN_big hlt, HC.out, List.append_assoc]
          rfl
        · unfold Hid
          simpa using hown3
        · exact owns_ext_app (HX.out.alloc _) (owns_ext HO.out ((Ext.refl _).alloc _)) hg3
      case measure => simp [intOf]; omega
    · have hm7 : m ≤ 127 := by omega
      have hga : (wr.alloc (.cells #[.int .u8 m] 5)).heap[wr.heap.size]? = some (.cells (List.map (fun x : UInt8 => Value.int .u8 x.toNat) [UInt8.ofNat m]).toArray 5 (0, 0)) := by
        rw [alloc_at, List.map_cons, List.map_nil, ← low8 hm7]
      have hlen : l.length ≤ 9 := by
        have h1 := putN_len9 (n := n) (by unfold maxW; omega)
        rw [HP.out, List.length_append] at h1
        omega
      go_wp2_with (at_builtin; go_must (refine app_u8 rfl _ _ rfl w.heap.size _ l.length _ rfl (owns_ext HO.out ((Ext.refl _).alloc _)) wr.heap.size 1 1 [UInt8.ofNat m] rfl rfl hga (by omega) (by have := HX.out.size; simp; omega) ?_; intro v' w3 hown3 hg3))
      go_ret
      have hpe : putN n = l ++ [UInt8.ofNat m] := by rw [HP.out, putN_small hm7]
      rw [hpe]
      exact ⟨⟨_, rfl, by simpa using hown3⟩, owns_ext_app (HX.out.alloc _) (owns_ext HO.out ((Ext.refl _).alloc _)) hg3⟩

set_option maxRecDepth 100000 in
set_option maxHeartbeats 1000000 in
theorem wPut_any (n : Int) (w : World) :
    Calls Tryz.prog 132 #[.int .i64 n] w fun e w' => (∃ v, e = .returned (.tuple #[v, .int .i64 (putW n).2]) ∧ w'.ownsRow w.heap.size 5 1 v (putW n).1.length ((putW n).1.map fun x => .int .u8 x.toNat)) ∧ Ext w w' := by
  obtain ⟨r, hr⟩ : ∃ r, putW n = r := ⟨_, rfl⟩
  rw [hr]
  by_cases h0 : n < 0
  · have hb : r = ([], 1) := by rw [← hr]; unfold putW; rw [if_pos (.inl h0)]
    subst hb
    clear hr
    go_enter Tryz.func132, Tryz.ntmps132
    go_wp2
    go_ret2
    exact ⟨⟨_, rfl, World.ownsRow_nil _ _ _ _⟩, Ext.refl _⟩
  · by_cases h1 : (72057594037927936 : Int) < n
    · have hb : r = ([], 1) := by rw [← hr]; unfold putW; rw [if_pos (.inr h1)]
      subst hb
      clear hr
      go_enter Tryz.func132, Tryz.ntmps132
      go_wp2
      go_ret2
      exact ⟨⟨_, rfl, World.ownsRow_nil _ _ _ _⟩, Ext.refl _⟩
    · obtain ⟨k, rfl⟩ : ∃ k : Nat, n = k := ⟨n.toNat, by omega⟩
      have hb : r = (putN k, 0) := by rw [← hr]; unfold putW; rw [if_neg (by unfold maxW; omega)]; rfl
      subst hb
      clear hr
      go_enter Tryz.func132, Tryz.ntmps132
      go_wp2_with fail
      go_at_call 171
      refine (wput_any k w (by unfold maxW; omega)).mono ?_
      rintro e w1 ⟨⟨v, rfl, hv⟩, hx⟩
      have HV : Hid _ := hv
      have HX : Hid (Ext w w1) := hx
      clear hv hx
      go_wp2
      go_ret2
      exact ⟨⟨_, rfl, HV.out⟩, HX.out⟩

end Go.Proofs.YtalpfoomkhhgnaaGreatDoor

/-! wire: Get; slices.Equal of bytes. Conditions: as each theorem states. -/
namespace Go.Proofs.YtalpfoomkhhgnaaGreatDoor
open Go Go.RowKit
set_option linter.unusedVariables false
set_option linter.unusedSimpArgs false
set_option linter.unusedSectionVars false

theorem IsBytes.take {w : World} {a : Option Addr} {c : Nat} {b : B8} (h : IsBytes w (.slice a b.length c) b) {j : Nat} (hj : j ≤ b.length) : IsBytes w (.slice a j c) (b.take j) := by
  obtain ⟨a2, c2, he, h1, h2, h3, h4⟩ := h
  cases he
  have hl : (b.take j).length = j := by rw [List.length_take]; omega
  unfold IsBytes
  rw [hl]
  refine ⟨a, c, rfl, by omega, h2, by omega, fun hne => ?_⟩
  obtain ⟨bb, o, rfl, hc⟩ := h4 (by
    intro e
    rw [List.map_eq_nil_iff] at e
    subst e
    simp at hne)
  refine ⟨bb, o, rfl, fun i u hu => ?_⟩
  have hi := (List.getElem?_eq_some_iff.1 hu).1
  rw [List.length_map, hl] at hi
  refine hc i u ?_
  rw [List.getElem?_map] at hu ⊢
  rwa [List.getElem?_take_of_lt hi] at hu
end Go.Proofs.YtalpfoomkhhgnaaGreatDoor

/-! obj: what may be. Conditions: as each theorem states. -/
namespace Go.Proofs.YtalpfoomkhhgnaaGreatDoor
open Go Go.RowKit Go.Sort
set_option linter.unusedVariables false
set_option linter.unusedSimpArgs false
set_option linter.unusedSectionVars false

def okC (c : UInt8) : Bool := decide (32 ≤ c.toNat) && decide (c.toNat ≤ 126)
theorem msg_bad {s : ByteArray} {k : Nat} (h : k < s.size) (hb : okC s[k] = false) : msgOk s.data.toList = false := by
  unfold msgOk
  rw [Bool.and_eq_false_iff]
  refine .inl (List.all_eq_false.2 ⟨s[k], ?_, by show ¬ okC _ = true; rw [hb]; simp⟩)
  have : s.data.toList[k]? = some s[k] := by
    rw [List.getElem?_eq_getElem (by simpa using h)]; rfl
  exact List.mem_of_getElem? this
set_option maxHeartbeats 400000 in
theorem mayMsg_s (s : ByteArray) (w : World) (hs : s.size < 4294967281) :
    Calls Tryz.prog 131 #[.string s] w fun e w' => e = .returned (.bool (msgOk s.data.toList)) ∧ w' = w := by
  go_enter Tryz.func131, Tryz.ntmps131
  go_wp2
  go_loop [6] (fun i => ∃ k : Nat, k ≤ s.size ∧ i = .int .i64 k ∧ (s.data.toList.take k).all okC = true) (fun i => s.size - (intOf i).toNat)
  case atStart => exact ⟨0, Nat.zero_le _, rfl, rfl⟩
  case round =>
    obtain ⟨k, hk, rfl, hn⟩ := hrel
    have HN : Hid _ := hn
    clear hn
    by_cases hlt : k < s.size
    · by_cases h1 : (s[k].toNat : Int) < 32
      · go_wp2
        go_ret
        exact ⟨ret_b (msg_bad hlt (by unfold okC; rw [decide_eq_false (by omega)]; rfl)).symm, rfl⟩
      · by_cases h2 : (126 : Int) < s[k].toNat
        · go_wp2
          go_ret
          exact ⟨ret_b (msg_bad hlt (by unfold okC; rw [decide_eq_false (by omega : ¬ s[k].toNat ≤ 126)]; simp)).symm, rfl⟩
        · go_wp2
          go_round
          case rel =>
            exact ⟨k + 1, by omega, by go_num, by rw [take_snoc s k hlt, List.all_append, HN.out]; simp [okC]; omega⟩
          case measure => simp [intOf]; omega
    · have hkk : k = s.size := by omega
      have hall : s.data.toList.all okC = true := by
        have := HN.out
        rwa [hkk, List.take_of_length_le (by simp)] at this
      have HA : Hid _ := hall
      clear hall HN hkk
      go_wp2
      go_ret
      refine ⟨ret_b ?_, rfl⟩
      show _ = (s.data.toList.all okC && decide (s.data.toList.length ≤ 200))
      rw [HA.out]
      have hsz : s.data.toList.length = s.size := by simp
      rw [hsz, Bool.true_and]
      exact decide_eq_decide.2 (by omega)
theorem mayMsg_any (l : B8) (w : World) (hs : l.length < 4294967281) :
    Calls Tryz.prog 131 #[S8 l] w fun e w' => e = .returned (.bool (msgOk l)) ∧ w' = w := mayMsg_s ⟨l.toArray⟩ w hs

/-! ### Parents -/
theorem rises_snoc : ∀ (l : List B8) (a b : B8), risesB (l ++ [a, b]) = (risesB (l ++ [a]) && ltB a b)
  | [], a, b => by simp [risesB]
  | [x], a, b => by simp [risesB]
  | x :: y :: l, a, b => by
    have h := rises_snoc (y :: l) a b
    show (ltB x y && risesB (y :: l ++ [a, b])) = (ltB x y && risesB (y :: l ++ [a]) && ltB a b)
    rw [h, Bool.and_assoc]
theorem rises_take {l : List B8} {k : Nat} {a b : B8} (ha : l[k]? = some a) (hb : l[k + 1]? = some b) : risesB (l.take (k + 2)) = (risesB (l.take (k + 1)) && ltB a b) := by
  have h1 : l.take (k + 1) = l.take k ++ [a] := by rw [List.take_add_one, ha]; rfl
  have h2 : l.take (k + 2) = l.take k ++ [a, b] := by rw [List.take_add_one, hb, h1, List.append_assoc]; rfl
  rw [h1, h2, rises_snoc]
theorem rises_cut : ∀ (l : List B8) (k : Nat), risesB l = true → risesB (l.take k) = true
  | [], k, _ => by rw [List.take_nil]; rfl
  | [x], k, _ => by cases k <;> simp [risesB]
  | x :: y :: l, 0, _ => rfl
  | x :: y :: l, 1, _ => rfl
  | x :: y :: l, k + 2, h => by
    have h : (ltB x y && risesB (y :: l)) = true := h
    rw [Bool.and_eq_true] at h
    have ih := rises_cut (y :: l) (k + 1) h.2
    show (ltB x y && risesB (y :: (l.take k))) = true
    rw [h.1]
    exact ih
/-- What was read so far is fine: hashes that rise. -/
def parT (l : List B8) (k : Nat) : Bool := (l.take k).all validB && risesB (l.take k)
theorem parT_bad {l : List B8} {k : Nat} (h : parT l k = false) : parsOk l = false := by
  unfold parT at h
  unfold parsOk
  rw [Bool.and_eq_false_iff] at h ⊢
  rcases h with h | h
  · left
    rw [List.all_eq_false] at h ⊢
    obtain ⟨x, hx, hv⟩ := h
    exact ⟨x, List.mem_of_mem_take hx, hv⟩
  · right
    rw [Bool.and_eq_false_iff]
    left
    cases hq : risesB l with
    | false => rfl
    | true => rw [rises_cut l k hq] at h; cases h
theorem parT_step {l : List B8} {k : Nat} {x : B8} (hx : l[k]? = some x) : parT l (k + 1) = (parT l k && (validB x && (decide (k = 0) || ltB (l.getD (k - 1) []) x))) := by
  unfold parT
  have h1 : l.take (k + 1) = l.take k ++ [x] := by rw [List.take_add_one, hx]; rfl
  rw [h1, List.all_append]
  simp only [List.all_cons, List.all_nil, Bool.and_true]
  cases k with
  | zero => simp [risesB]
  | succ j =>
    have hj : j < l.length := by have := (List.getElem?_eq_some_iff.1 hx).1; omega
    have hy : l[j]? = some (l.getD j []) := by rw [List.getD_eq_getElem?_getD, List.getElem?_eq_getElem hj]; rfl
    have h2 := rises_take hy hx
    rw [h1] at h2
    rw [h2]
    simp only [Nat.add_one_sub_one, Nat.add_eq_zero_iff, Nat.one_ne_zero, and_false, decide_false, Bool.false_or]
    cases (l.take (j + 1)).all validB <;> cases validB x <;> cases risesB (l.take (j + 1)) <;> cases ltB (l.getD j []) x <;> rfl

theorem leT_cases (x y : B8) : (ltB y x = true ∧ Op.bytesLess x y = false ∧ (x == y) = false) ∨ (ltB y x = false ∧ Op.bytesLess x y = true) ∨ (ltB y x = false ∧ Op.bytesLess x y = false ∧ (x == y) = true) := by
  rw [less_ltB]
  cases h1 : ltB y x with
  | true =>
    refine .inl ⟨rfl, ltB_asymm h1, ?_⟩
    rw [beq_eq_false_iff_ne]
    exact fun e => (ltB_ne h1) e.symm
  | false =>
    by_cases he : x = y
    · subst he
      exact .inr (.inr ⟨rfl, by rw [h1], by simp⟩)
    · exact .inr (.inl ⟨rfl, ltB_total h1 (fun e => he e.symm)⟩)
set_option maxRecDepth 100000 in
set_option maxHeartbeats 2000000 in
theorem mayParents_any (v : Value) (l : List B8) (w : World) (hv : IsStrs w v l) (hs : ∀ s ∈ l, s.length ≤ 140737488355328) :
    Calls Tryz.prog 130 #[v] w fun e w' => e = .returned (.bool (parsOk l)) ∧ Ext w w' := by
  obtain ⟨a, c, rfl, l1, l2, l3, hg⟩ := hv.get
  have HG : Hid _ := hg
  have HS : Hid _ := hs
  clear hv hg hs
  go_enter Tryz.func130, Tryz.ntmps130
  go_wp2
  go_loopw [7] (fun i wr => ∃ k : Nat, k ≤ l.length ∧ i = .int .i64 k ∧ Hid (parT l k = true) ∧ Hid (Ext w wr)) (fun i _ => l.length - (intOf i).toNat)
  case atStart => exact ⟨0, Nat.zero_le _, rfl, rfl, Ext.refl _⟩
  case round =>
    obtain ⟨k, hk, rfl, HT, HX⟩ := hrel
    by_cases hlt : k < l.length
    · obtain ⟨x, hx⟩ : ∃ x, l[k]? = some x := ⟨_, List.getElem?_eq_getElem hlt⟩
      obtain ⟨bb, oo, rfl, hc⟩ := HG.out k hlt
      have hxl := HS.out x (List.mem_of_getElem? hx)
      have y1 := HX.out.cell (hc k hlt)
      rw [show l.getD k [] = x by rw [List.getD_eq_getElem?_getD, hx]; rfl] at y1
      have hst := parT_step hx
      rw [HT.out, Bool.true_and] at hst
      obtain ⟨vx, hvx⟩ : ∃ vx, validB x = vx := ⟨_, rfl⟩
      rw [hvx] at hst
      have HVX : Hid _ := hvx
      have HST : Hid _ := hst
      have HC : Hid _ := hc
      clear hst hvx hx hc
      go_wp2_with fail
      go_at_call 18
      refine (valid_any x wr (by omega)).mono ?_
      rw [HVX.out]
      rintro e w1 ⟨rfl, hx1⟩
      have HX1 : Hid (Ext w w1) := HX.out.trans hx1
      have y2 := hx1.cell y1
      clear hx1 y1
      cases vx with
      | false =>
        have HF : Hid (parsOk l = false) := parT_bad (k := k + 1) (by rw [HST.out]; rfl)
        go_wp2
        go_ret
        exact ⟨ret_b HF.out.symm, HX1.out⟩
      | true =>
        by_cases hk0 : k = 0
        · subst hk0
          have HP : Hid (parT l 1 = true) := by unfold Hid; rw [HST.out]; rfl
          go_wp2
          go_roundw
          case rel => exact ⟨1, by omega, by go_num, HP, HX1⟩
          case measure => simp [intOf]; omega
        · obtain ⟨j, rfl⟩ : ∃ j, k = j + 1 := ⟨k - 1, by omega⟩
          have hwj : IntKind.i64.wrap (((j + 1 : Nat) : Int) - 1) = (j : Int) := by rw [IntWalk.i64_in _ (by omega)]; omega
          have y3 := HX1.out.cell (HC.out j (by omega))
          obtain ⟨z, hz⟩ : ∃ z, l.getD j [] = z := ⟨_, rfl⟩
          rw [hz] at y3
          have hst := HST.out
          rw [show j + 1 - 1 = j from rfl, hz] at hst
          have HST2 : Hid _ := hst
          have hk1 : (0 : Int) < ((j + 1 : Nat) : Int) := by omega
          clear hz hst
          rcases leT_cases x z with ⟨hlt, hb, he⟩ | ⟨hlt, hb⟩ | ⟨hlt, hb, he⟩
          · have HP : Hid (parT l (j + 1 + 1) = true) := by unfold Hid; rw [HST2.out, hlt]; simp
            clear hlt
            go_wp2
            go_roundw
            case rel => exact ⟨j + 1 + 1, by omega, by go_num, HP, HX1⟩
            case measure => simp [intOf]; omega
          · have HF : Hid (parsOk l = false) := parT_bad (k := j + 1 + 1) (by rw [HST2.out, hlt]; simp)
            clear hlt
            go_wp2
            go_ret
            exact ⟨ret_b HF.out.symm, HX1.out⟩
          · have HF : Hid (parsOk l = false) := parT_bad (k := j + 1 + 1) (by rw [HST2.out, hlt]; simp)
            clear hlt
            go_wp2
            go_ret
            exact ⟨ret_b HF.out.symm, HX1.out⟩
    · have hkl : k = l.length := by omega
      have HF : Hid (parsOk l = decide (l.length ≤ 2)) := by
        have h9 := HT.out
        unfold parT at h9
        rw [hkl, List.take_length, Bool.and_eq_true] at h9
        unfold Hid parsOk
        rw [h9.1, h9.2, Bool.true_and, Bool.true_and]
      clear hk
      go_wp2
      go_ret
      refine ⟨ret_b ?_, HX.out⟩
      rw [HF.out]
      exact decide_eq_decide.2 (by omega)

/-! ### An object as a value -/
def itC (x : Itm) : List Value := [.int .i64 x.mode, S8 x.name, S8 x.id]
/-- The slice holds these rows. -/
def IsItms (w : World) (v : Value) (l : List Itm) : Prop := Row w v l.length (l.flatMap itC)
abbrev obV (o : Ob) (vd vi vp : Value) : Value := .agg #[.int .i64 o.kind, vd, vi, S8 o.tree, vp, .int .i64 o.stamp, .int .i64 o.author, S8 o.msg]
def IsOb (w : World) (v : Value) (o : Ob) : Prop := ∃ vd vi vp, v = obV o vd vi vp ∧ IsBytes w vd o.data ∧ IsItms w vi o.items ∧ IsStrs w vp o.parents
theorem IsItms.ext {w w' : World} {v : Value} {l : List Itm} (h : IsItms w v l) (hx : Ext w w') : IsItms w' v l := Row.ext h hx
theorem IsOb.ext {w w' : World} {v : Value} {o : Ob} (h : IsOb w v o) (hx : Ext w w') : IsOb w' v o := by
  obtain ⟨vd, vi, vp, rfl, h1, h2, h3⟩ := h
  exact ⟨vd, vi, vp, rfl, h1.ext hx, h2.ext hx, h3.ext hx⟩
theorem flat_it : ∀ (l : List Itm) (k : Nat) (x : Itm), l[k]? = some x → (l.flatMap itC)[3 * k]? = some (.int .i64 x.mode) ∧ (l.flatMap itC)[3 * k + 1]? = some (S8 x.name) ∧ (l.flatMap itC)[3 * k + 2]? = some (S8 x.id)
  | [], k, x, h => by simp at h
  | y :: l, 0, x, h => by
    simp only [List.getElem?_cons_zero, Option.some.injEq] at h
    subst h
    exact ⟨rfl, rfl, rfl⟩
  | y :: l, k + 1, x, h => by
    simp only [List.getElem?_cons_succ] at h
    have ih := flat_it l k x h
    rw [List.flatMap_cons]
    have e : itC y = [.int .i64 y.mode, S8 y.name, S8 y.id] := rfl
    rw [e, show 3 * (k + 1) = 3 * k + 1 + 1 + 1 by omega]
    exact ih
theorem IsItms.get {w : World} {v : Value} {l : List Itm} (h : IsItms w v l) : ∃ a c, v = .slice a l.length c ∧ l.length ≤ c ∧ l.length ≤ 140737488355328 ∧ c ≤ 9223372036854775807 ∧
    ∀ k x, l[k]? = some x → ∃ b o, a = some ⟨b, o, none⟩ ∧ w.cell? ⟨b, o + k * 3, none⟩ = some (.int .i64 x.mode) ∧ w.cell? ⟨b, o + k * 3 + 1, none⟩ = some (S8 x.name) ∧ w.cell? ⟨b, o + k * 3 + 2, none⟩ = some (S8 x.id) := by
  obtain ⟨a, c, rfl, h1, h2, h3, h4⟩ := h
  refine ⟨a, c, rfl, h1, h3, h2, fun k x hk => ?_⟩
  obtain ⟨f0, f1, f2⟩ := flat_it l k x hk
  obtain ⟨b, o, rfl, hc⟩ := h4 (by intro e; rw [e] at f0; simp at f0)
  refine ⟨b, o, rfl, ?_, ?_, ?_⟩
  · have := hc _ _ f0; rwa [Nat.mul_comm] at this
  · have := hc _ _ f1; rwa [Nat.mul_comm, ← Nat.add_assoc] at this
  · have := hc _ _ f2; rwa [Nat.mul_comm, ← Nat.add_assoc] at this

set_option maxRecDepth 100000 in
set_option maxHeartbeats 2000000 in
theorem noCommit_any (o : Ob) (vd vi vp : Value) (w : World) (hp : IsStrs w vp o.parents) :
    Calls Tryz.prog 128 #[obV o vd vi vp] w fun e w' => e = .returned (.bool (noCom o)) ∧ Ext w w' := by
  obtain ⟨kind, data, items, tree, parents, stamp, author, msg⟩ := o
  obtain ⟨pa, pc, rfl, p1, p2, p3, -⟩ := hp.get
  obtain ⟨r, hr⟩ : ∃ r, noCom ⟨kind, data, items, tree, parents, stamp, author, msg⟩ = r := ⟨_, rfl⟩
  rw [hr]
  have hr2 : ((tree == []) && ((parents.length == 0) && ((stamp == 0) && ((author == 0) && (msg == []))))) = r := hr
  have HR : Hid _ := hr2
  clear hr hr2 hp
  unfold obV
  dsimp only
  go_enter Tryz.func128, Tryz.ntmps128
  by_cases h1 : tree = []
  · have b1 : (tree == ([] : B8)) = true := by simpa using h1
    by_cases h2 : parents.length = 0
    · have b2 : ((parents.length : Int) == 0) = true := by rw [beq_iff_eq]; omega
      by_cases h3 : stamp = 0
      · have b3 : (stamp == 0) = true := by simpa using h3
        by_cases h4 : author = 0
        · have b4 : (author == 0) = true := by simpa using h4
          by_cases h5 : msg = []
          · have b5 : (msg == ([] : B8)) = true := by simpa using h5
            have HF : Hid (r = true) := by unfold Hid; rw [← HR.out, h1, h2, h3, h4, h5]; rfl
            clear h1 h2 h3 h4 h5
            go_wp2
            go_ret
            exact ⟨ret_b HF.out.symm, (Ext.refl w).alloc _⟩
          · have b5 : (msg == ([] : B8)) = false := by simpa using h5
            have HF : Hid (r = false) := by unfold Hid; rw [← HR.out, b5]; simp
            clear h1 h2 h3 h4 h5
            go_wp2
            go_ret
            exact ⟨ret_b HF.out.symm, (Ext.refl w).alloc _⟩
        · have b4 : (author == 0) = false := by simpa using h4
          have HF : Hid (r = false) := by unfold Hid; rw [← HR.out, b4]; simp
          clear h1 h2 h3 h4
          go_wp2
          go_ret
          exact ⟨ret_b HF.out.symm, (Ext.refl w).alloc _⟩
      · have b3 : (stamp == 0) = false := by simpa using h3
        have HF : Hid (r = false) := by unfold Hid; rw [← HR.out, b3]; simp
        clear h1 h2 h3
        go_wp2
        go_ret
        exact ⟨ret_b HF.out.symm, (Ext.refl w).alloc _⟩
    · have b2 : ((parents.length : Int) == 0) = false := by rw [beq_eq_false_iff_ne]; omega
      have HF : Hid (r = false) := by unfold Hid; rw [← HR.out, show (parents.length == 0) = false by simpa using h2]; simp
      clear h1 h2
      go_wp2
      go_ret
      exact ⟨ret_b HF.out.symm, (Ext.refl w).alloc _⟩
  · have b1 : (tree == ([] : B8)) = false := by simpa using h1
    have HF : Hid (r = false) := by unfold Hid; rw [← HR.out, b1]; simp
    clear h1
    go_wp2
    go_ret
    exact ⟨ret_b HF.out.symm, (Ext.refl w).alloc _⟩

end Go.Proofs.YtalpfoomkhhgnaaGreatDoor

/-! obj: may rows of a tree be; may an object be. Conditions: as each theorem states. -/
namespace Go.Proofs.YtalpfoomkhhgnaaGreatDoor
open Go Go.RowKit Go.Sort
set_option linter.unusedVariables false
set_option linter.unusedSimpArgs false
set_option linter.unusedSectionVars false

/-- What was read so far is fine: rows whose names rise. -/
def itT (l : List Itm) (k : Nat) : Bool := (l.take k).all itemOk && risesB ((l.take k).map (·.name))
theorem itT_bad {l : List Itm} {k : Nat} (h : itT l k = false) : itemsOk l = false := by
  unfold itT at h
  unfold itemsOk
  rw [Bool.and_eq_false_iff] at h ⊢
  rcases h with h | h
  · left
    rw [List.all_eq_false] at h ⊢
    obtain ⟨x, hx, hv⟩ := h
    exact ⟨x, List.mem_of_mem_take hx, hv⟩
  · right
    rw [Bool.and_eq_false_iff]
    left
    cases hq : risesB (l.map (·.name)) with
    | false => rfl
    | true =>
      have h9 := rises_cut (l.map (·.name)) k hq
      rw [← List.map_take, h] at h9
      cases h9
def itm0 : Itm := ⟨0, [], []⟩
theorem itT_step {l : List Itm} {k : Nat} {x : Itm} (hx : l[k]? = some x) : itT l (k + 1) = (itT l k && (itemOk x && (decide (k = 0) || ltB (l.getD (k - 1) itm0).name x.name))) := by
  unfold itT
  have h1 : l.take (k + 1) = l.take k ++ [x] := by rw [List.take_add_one, hx]; rfl
  cases k with
  | zero =>
    rw [h1]
    simp [risesB]
  | succ j =>
    have hj : j < l.length := by have := (List.getElem?_eq_some_iff.1 hx).1; omega
    have hy : l[j]? = some (l.getD j itm0) := by rw [List.getD_eq_getElem?_getD, List.getElem?_eq_getElem hj]; rfl
    have ha : (l.map (·.name))[j]? = some (l.getD j itm0).name := by rw [List.getElem?_map, hy]; rfl
    have hb : (l.map (·.name))[j + 1]? = some x.name := by rw [List.getElem?_map, hx]; rfl
    have h2 := rises_take ha hb
    rw [← List.map_take, ← List.map_take] at h2
    rw [h2, h1, List.all_append]
    simp only [List.all_cons, List.all_nil, Bool.and_true, Nat.add_one_sub_one, Nat.add_eq_zero_iff, Nat.one_ne_zero, and_false, decide_false, Bool.false_or]
    cases (l.take (j + 1)).all itemOk <;> cases itemOk x <;> cases risesB ((l.take (j + 1)).map (·.name)) <;> cases ltB (l.getD j itm0).name x.name <;> rfl
theorem it_no {t r : Bool} {x : Itm} {b : Bool} (h : t = !r) (hs : t = (itemOk x && b)) (hx : itemOk x = false) : r = true := by
  rw [hx, Bool.false_and] at hs
  rw [hs] at h
  cases r
  · cases h
  · rfl
theorem it_no2 {t r : Bool} {x : Itm} {b : Bool} (h : t = !r) (hs : t = (itemOk x && b)) (hx : b = false) : r = true := by
  rw [hx, Bool.and_false] at hs
  rw [hs] at h
  cases r
  · cases h
  · rfl
theorem it_yes {t r : Bool} {x : Itm} {b : Bool} (h : t = !r) (hs : t = (itemOk x && b)) (hx : itemOk x = true) (hb : b = true) : r = false := by
  rw [hx, hb] at hs
  rw [hs] at h
  cases r
  · rfl
  · cases h
/-- Rows whose texts are short. -/
def ItSmall (l : List Itm) : Prop := ∀ x ∈ l, x.name.length ≤ 140737488355328 ∧ x.id.length ≤ 140737488355328

set_option maxRecDepth 100000 in
set_option maxHeartbeats 8000000 in
theorem mayItems_any (v : Value) (l : List Itm) (w : World) (hv : IsItms w v l) (hs : ItSmall l) :
    Calls Tryz.prog 129 #[v] w fun e w' => e = .returned (.bool (itemsOk l)) ∧ Ext w w' := by
  obtain ⟨a, c, rfl, l1, l2, l3, hg⟩ := hv.get
  have HG : Hid _ := hg
  have HS : Hid _ := hs
  clear hv hg hs
  go_enter Tryz.func129, Tryz.ntmps129
  go_wp2
  go_loopw [7] (fun i wr => ∃ k : Nat, k ≤ l.length ∧ i = .int .i64 k ∧ Hid (itT l k = true) ∧ Hid (Ext w wr)) (fun i _ => l.length - (intOf i).toNat)
  case atStart => exact ⟨0, Nat.zero_le _, rfl, rfl, Ext.refl _⟩
  case round =>
    obtain ⟨k, hk, rfl, HT, HX⟩ := hrel
    by_cases hlt : k < l.length
    · obtain ⟨x, hx⟩ : ∃ x, l[k]? = some x := ⟨_, List.getElem?_eq_getElem hlt⟩
      obtain ⟨bb, oo, rfl, hc0, hc1, hc2⟩ := HG.out k x hx
      obtain ⟨hxn, hxi⟩ := HS.out x (List.mem_of_getElem? hx)
      have hst := itT_step hx
      rw [HT.out, Bool.true_and] at hst
      have HST : Hid _ := hst
      have HPREV : Hid (∀ j, k = j + 1 → wr.cell? ⟨bb, oo + j * 3 + 1, none⟩ = some (S8 (l.getD j itm0).name)) := fun j hj => by
        subst hj
        have hjl : j < l.length := by omega
        obtain ⟨b2, o2, he, -, h9, -⟩ := HG.out j (l.getD j itm0) (by rw [List.getD_eq_getElem?_getD, List.getElem?_eq_getElem hjl]; rfl)
        cases he
        exact HX.out.cell h9
      have y0 := HX.out.cell hc0
      have y1 := HX.out.cell hc1
      have y2 := HX.out.cell hc2
      obtain ⟨mode, name, id⟩ := x
      dsimp only at y0 y1 y2 hxn hxi
      clear hst hx hc0 hc1 hc2
      go_upto_region 4 with fail
      obtain ⟨w4, hw4⟩ : ∃ w4, w4 = wr.alloc (.cells #[.int .i64 mode, S8 name, S8 id] 81) := ⟨_, rfl⟩
      have hx4 : Ext wr w4 := by rw [hw4]; exact (Ext.refl _).alloc _
      have hb4 : w4.heap[wr.heap.size]? = some (.cells #[.int .i64 mode, S8 name, S8 id] 81 (0, 0)) := by rw [hw4]; exact alloc_at _ _
      rw [← hw4]
      obtain ⟨gi, hgi⟩ : ∃ gi, wr.heap.size = gi := ⟨_, rfl⟩
      rw [hgi] at hb4 ⊢
      obtain ⟨z0, z1, z2⟩ := cellsAt3 hb4
      have HX4 : Hid (Ext w w4) := HX.out.trans hx4
      have HP4 : Hid (∀ j, k = j + 1 → w4.cell? ⟨bb, oo + j * 3 + 1, none⟩ = some (S8 (l.getD j itm0).name)) := fun j hj => hx4.cell (HPREV.out j hj)
      have v0 := fun d os => cell_regrown z0 d os
      have v1 := fun d os => cell_regrown z1 d os
      have v2 := fun d os => cell_regrown z2 d os
      obtain ⟨nb, hnb⟩ : ∃ nb, nameB name = nb := ⟨_, rfl⟩
      obtain ⟨vb, hvb⟩ : ∃ vb, validB id = vb := ⟨_, rfl⟩
      have HNB : Hid _ := hnb
      have HVB : Hid _ := hvb
      have HNA : Hid (∀ d os, Calls Tryz.prog 51 #[S8 name] (grow (redrawn w4 d) os) fun e w' => e = .returned (.bool nb) ∧ ∃ q : Regrown, w' = grow (redrawn w4 q.d) q.os) := fun d os =>
        (name_any name _ (by omega)).mono (fun _ _ ⟨he, hw⟩ => ⟨by rw [he, hnb], ⟨d, os⟩, hw⟩)
      have HVA : Hid (∀ d os, Calls Tryz.prog 18 #[S8 id] (grow (redrawn w4 d) os) fun e w' => e = .returned (.bool vb) ∧ ∃ q : Regrown, w' = grow (redrawn w4 q.d) q.os) := fun d os => Calls.regrown_of (by
        have h9 := valid_any id (grow (redrawn w4 d) os) (by omega)
        rwa [hvb] at h9)
      obtain ⟨okk, hokk⟩ : ∃ c, itT l (k + 1) = !c := ⟨!itT l (k + 1), by simp⟩
      have HOK : Hid _ := hokk
      clear hw4 hx4 hb4 hgi z0 z1 z2 y0 y1 y2 hnb hvb hokk HPREV HX
      go_cut [46] (fun c wx => c = .bool okk ∧ Ext w4 wx)
      case first =>
        by_cases h1 : mode < 1
        · have HR : Hid (okk = true) := it_no HOK.out HST.out (by unfold itemOk; rw [decide_eq_false (by omega : ¬ 1 ≤ mode)]; rfl)
          refine qw_below (by kernel_rfl) (by kernel_rfl) ?_
          repeat (refine qw_step (fun K hK => ?_); go_simp; first | (refine hK _ ?_; clear hK K) | (apply Exists.intro; refine ⟨fun _ => ?_, hK _ ?_⟩; (first | exact HNA.out _ _ | exact HVA.out _ _); clear hK K))
          refine qw_nil ?_
          intro _ hw'
          obtain ⟨⟨dq, osq⟩, hw''⟩ := hw'
          subst hw''
          go_wp2_with fail
          go_meet
          case rel => exact ⟨by rw [HR.out], Ext.regrown _ _ _⟩
        by_cases h2 : 4 < mode
        · have HR : Hid (okk = true) := it_no HOK.out HST.out (by unfold itemOk; rw [decide_eq_false (by omega : ¬ mode ≤ 4)]; simp)
          refine qw_below (by kernel_rfl) (by kernel_rfl) ?_
          repeat (refine qw_step (fun K hK => ?_); go_simp; first | (refine hK _ ?_; clear hK K) | (apply Exists.intro; refine ⟨fun _ => ?_, hK _ ?_⟩; (first | exact HNA.out _ _ | exact HVA.out _ _); clear hK K))
          refine qw_nil ?_
          intro _ hw'
          obtain ⟨⟨dq, osq⟩, hw''⟩ := hw'
          subst hw''
          go_wp2_with fail
          go_meet
          case rel => exact ⟨by rw [HR.out], Ext.regrown _ _ _⟩
        cases nb with
        | false =>
          have HR : Hid (okk = true) := it_no HOK.out HST.out (by unfold itemOk; rw [HNB.out]; simp)
          refine qw_below (by kernel_rfl) (by kernel_rfl) ?_
          repeat (refine qw_step (fun K hK => ?_); go_simp; first | (refine hK _ ?_; clear hK K) | (apply Exists.intro; refine ⟨fun _ => ?_, hK _ ?_⟩; (first | exact HNA.out _ _ | exact HVA.out _ _); clear hK K))
          refine qw_nil ?_
          intro _ hw'
          obtain ⟨⟨dq, osq⟩, hw''⟩ := hw'
          subst hw''
          go_wp2_with fail
          go_meet
          case rel => exact ⟨by rw [HR.out], Ext.regrown _ _ _⟩
        | true =>
        cases vb with
        | false =>
          have HR : Hid (okk = true) := it_no HOK.out HST.out (by unfold itemOk; rw [HVB.out]; simp)
          refine qw_below (by kernel_rfl) (by kernel_rfl) ?_
          repeat (refine qw_step (fun K hK => ?_); go_simp; first | (refine hK _ ?_; clear hK K) | (apply Exists.intro; refine ⟨fun _ => ?_, hK _ ?_⟩; (first | exact HNA.out _ _ | exact HVA.out _ _); clear hK K))
          refine qw_nil ?_
          intro _ hw'
          obtain ⟨⟨dq, osq⟩, hw''⟩ := hw'
          subst hw''
          go_wp2_with fail
          go_meet
          case rel => exact ⟨by rw [HR.out], Ext.regrown _ _ _⟩
        | true =>
        have HIO : Hid (itemOk ⟨mode, name, id⟩ = true) := by unfold Hid itemOk; rw [decide_eq_true (by omega : 1 ≤ mode), decide_eq_true (by omega : mode ≤ 4), HNB.out, HVB.out]; rfl
        by_cases hk0 : k = 0
        · have HR : Hid (okk = false) := it_yes HOK.out HST.out HIO.out (by rw [hk0]; rfl)
          subst hk0
          refine qw_below (by kernel_rfl) (by kernel_rfl) ?_
          repeat (refine qw_step (fun K hK => ?_); go_simp; first | (refine hK _ ?_; clear hK K) | (apply Exists.intro; refine ⟨fun _ => ?_, hK _ ?_⟩; (first | exact HNA.out _ _ | exact HVA.out _ _); clear hK K))
          refine qw_nil ?_
          intro _ hw'
          obtain ⟨⟨dq, osq⟩, hw''⟩ := hw'
          subst hw''
          go_wp2_with fail
          go_meet
          case rel => exact ⟨by rw [HR.out], Ext.regrown _ _ _⟩
        · obtain ⟨j, rfl⟩ : ∃ j, k = j + 1 := ⟨k - 1, by omega⟩
          have hwj : IntKind.i64.wrap (((j + 1 : Nat) : Int) - 1) = (j : Int) := by rw [IntWalk.i64_in _ (by omega)]; omega
          have y3 := HP4.out j rfl
          obtain ⟨z, hz⟩ : ∃ z, (l.getD j itm0).name = z := ⟨_, rfl⟩
          rw [hz] at y3
          have v3 := fun d os => cell_regrown y3 d os
          have hk1 : (0 : Int) < ((j + 1 : Nat) : Int) := by omega
          have hwj2 : IntKind.i64.wrap (j : Int) = (j : Int) := IntWalk.i64_in _ (by omega)
          have hk2 : (0 : Int) < (j : Int) + 1 := by omega
          have hjl : j < l.length := by omega
          have HZ : Hid _ := hz
          clear hz y3
          rcases leT_cases name z with ⟨hlt9, hb, he⟩ | ⟨hlt9, hb⟩ | ⟨hlt9, hb, he⟩
          · have HR : Hid (okk = false) := it_yes HOK.out HST.out HIO.out (by rw [show j + 1 - 1 = j from rfl, HZ.out, hlt9]; simp)
            clear hlt9
            refine qw_below (by kernel_rfl) (by kernel_rfl) ?_
            repeat (refine qw_step (fun K hK => ?_); go_simp; first | (refine hK _ ?_; clear hK K) | (apply Exists.intro; refine ⟨fun _ => ?_, hK _ ?_⟩; (first | exact HNA.out _ _ | exact HVA.out _ _); clear hK K))
            refine qw_nil ?_
            intro _ hw'
            obtain ⟨⟨dq, osq⟩, hw''⟩ := hw'
            subst hw''
            go_wp2_with fail
            go_meet
            case rel => exact ⟨by rw [HR.out], Ext.regrown _ _ _⟩
          · have HR : Hid (okk = true) := it_no2 HOK.out HST.out (by rw [show j + 1 - 1 = j from rfl, HZ.out, hlt9]; simp)
            clear hlt9
            refine qw_below (by kernel_rfl) (by kernel_rfl) ?_
            repeat (refine qw_step (fun K hK => ?_); go_simp; first | (refine hK _ ?_; clear hK K) | (apply Exists.intro; refine ⟨fun _ => ?_, hK _ ?_⟩; (first | exact HNA.out _ _ | exact HVA.out _ _); clear hK K))
            refine qw_nil ?_
            intro _ hw'
            obtain ⟨⟨dq, osq⟩, hw''⟩ := hw'
            subst hw''
            go_wp2_with fail
            go_meet
            case rel => exact ⟨by rw [HR.out], Ext.regrown _ _ _⟩
          · have HR : Hid (okk = true) := it_no2 HOK.out HST.out (by rw [show j + 1 - 1 = j from rfl, HZ.out, hlt9]; simp)
            clear hlt9
            refine qw_below (by kernel_rfl) (by kernel_rfl) ?_
            repeat (refine qw_step (fun K hK => ?_); go_simp; first | (refine hK _ ?_; clear hK K) | (apply Exists.intro; refine ⟨fun _ => ?_, hK _ ?_⟩; (first | exact HNA.out _ _ | exact HVA.out _ _); clear hK K))
            refine qw_nil ?_
            intro _ hw'
            obtain ⟨⟨dq, osq⟩, hw''⟩ := hw'
            subst hw''
            go_wp2_with fail
            go_meet
            case rel => exact ⟨by rw [HR.out], Ext.regrown _ _ _⟩
      case rest =>
        obtain ⟨rfl, hxc⟩ := hcut
        have HXC : Hid (Ext w wc) := HX4.out.trans hxc
        clear hxc
        cases okk with
        | true =>
          have HF : Hid (itemsOk l = false) := itT_bad (k := k + 1) (by rw [HOK.out]; rfl)
          go_wp2
          go_ret
          exact ⟨ret_b HF.out.symm, HXC.out⟩
        | false =>
          have HP : Hid (itT l (k + 1) = true) := by unfold Hid; rw [HOK.out]; rfl
          go_wp2
          go_roundw
          case rel => exact ⟨k + 1, by omega, by go_num, HP, HXC⟩
          case measure => simp [intOf]; omega
    · have hkl : k = l.length := by omega
      have HF : Hid (itemsOk l = decide (l.length ≤ 256)) := by
        have h9 := HT.out
        unfold itT at h9
        rw [hkl, List.take_length, Bool.and_eq_true] at h9
        unfold Hid itemsOk
        rw [h9.1, h9.2, Bool.true_and, Bool.true_and]
      clear hk
      go_wp2
      go_ret
      refine ⟨ret_b ?_, HX.out⟩
      rw [HF.out]
      exact decide_eq_decide.2 (by omega)

end Go.Proofs.YtalpfoomkhhgnaaGreatDoor

/-! obj: may an object be. Conditions: as each theorem states. -/
namespace Go.Proofs.YtalpfoomkhhgnaaGreatDoor
open Go Go.RowKit
set_option linter.unusedVariables false
set_option linter.unusedSimpArgs false
set_option linter.unusedSectionVars false

/-- An object whose texts are short. -/
structure ObSmall (o : Ob) : Prop where
  items : ItSmall o.items
  pars : ∀ s ∈ o.parents, s.length ≤ 140737488355328
  tree : o.tree.length ≤ 10000000
  msg : o.msg.length ≤ 10000000
theorem cellsAt8 {w : World} {g : Nat} {v0 v1 v2 v3 v4 v5 v6 v7 : Value} {t : TypeId} {fr : Nat × Nat} (h : w.heap[g]? = some (.cells #[v0, v1, v2, v3, v4, v5, v6, v7] t fr)) :
    w.cell? ⟨g, 0, none⟩ = some v0 ∧ w.cell? ⟨g, 1, none⟩ = some v1 ∧ w.cell? ⟨g, 2, none⟩ = some v2 ∧ w.cell? ⟨g, 3, none⟩ = some v3 ∧ w.cell? ⟨g, 4, none⟩ = some v4 ∧ w.cell? ⟨g, 5, none⟩ = some v5 ∧ w.cell? ⟨g, 6, none⟩ = some v6 ∧ w.cell? ⟨g, 7, none⟩ = some v7 := by
  simp [World.cell?, h]

set_option maxRecDepth 100000 in
set_option maxHeartbeats 8000000 in
theorem oMay_any (v : Value) (o : Ob) (w : World) (hv : IsOb w v o) (hs : ObSmall o) :
    Calls Tryz.prog 76 #[v] w fun e w' => e = .returned (.bool (mayO o)) ∧ Ext w w' := by
  obtain ⟨vd, vi, vp, rfl, hd, hi, hp⟩ := hv
  obtain ⟨wa, hwa⟩ : ∃ wa, wa = w.alloc (.cells #[.int .i64 o.kind, vd, vi, S8 o.tree, vp, .int .i64 o.stamp, .int .i64 o.author, S8 o.msg] 88) := ⟨_, rfl⟩
  have hxa : Ext w wa := by rw [hwa]; exact (Ext.refl _).alloc _
  have hba : wa.heap[w.heap.size]? = some (.cells #[.int .i64 o.kind, vd, vi, S8 o.tree, vp, .int .i64 o.stamp, .int .i64 o.author, S8 o.msg] 88 (0, 0)) := by rw [hwa]; exact alloc_at _ _
  obtain ⟨gb, hgb⟩ : ∃ gb, w.heap.size = gb := ⟨_, rfl⟩
  have HNC : Hid (∀ w', Ext w w' → Calls Tryz.prog 128 #[obV o vd vi vp] w' fun e w'' => e = .returned (.bool (noCom o)) ∧ Ext w' w'') := fun w' hx => noCommit_any o vd vi vp w' (hp.ext hx)
  have HIT : Hid (∀ w', Ext w w' → Calls Tryz.prog 129 #[vi] w' fun e w'' => e = .returned (.bool (itemsOk o.items)) ∧ Ext w' w'') := fun w' hx => mayItems_any vi o.items w' (hi.ext hx) hs.items
  have HPA : Hid (∀ w', Ext w w' → Calls Tryz.prog 130 #[vp] w' fun e w'' => e = .returned (.bool (parsOk o.parents)) ∧ Ext w' w'') := fun w' hx => mayParents_any vp o.parents w' (hp.ext hx) hs.pars
  obtain ⟨da, dc, rfl, -, -, -, -⟩ := hd.get
  obtain ⟨ia, ic, rfl, -, -, -, -⟩ := hi.get
  obtain ⟨htr, hms⟩ : o.tree.length ≤ 10000000 ∧ o.msg.length ≤ 10000000 := ⟨hs.tree, hs.msg⟩
  obtain ⟨kind, data, items, tree, parents, stamp, author, msg⟩ := o
  obtain ⟨r, hr⟩ : ∃ r, mayO ⟨kind, data, items, tree, parents, stamp, author, msg⟩ = r := ⟨_, rfl⟩
  rw [hr]
  have HR : Hid _ := hr
  obtain ⟨nc, hnc⟩ : ∃ c, noCom ⟨kind, data, items, tree, parents, stamp, author, msg⟩ = c := ⟨_, rfl⟩
  rw [hnc] at HNC
  have HNB : Hid _ := hnc
  unfold obV at HNC ⊢
  dsimp only at HNC HIT HPA hba hwa htr hms ⊢
  obtain ⟨io, hio⟩ : ∃ c, itemsOk items = c := ⟨_, rfl⟩
  rw [hio] at HIT
  have HIO : Hid _ := hio
  obtain ⟨po, hpo⟩ : ∃ c, parsOk parents = c := ⟨_, rfl⟩
  rw [hpo] at HPA
  have HPO : Hid _ := hpo
  rw [hgb] at hba
  obtain ⟨c0, c1, c2, c3, c4, c5, c6, c7⟩ := cellsAt8 hba
  have HXA : Hid (Ext w wa) := hxa
  have HWA : Hid _ := hwa
  have HBA : Hid _ := hba
  clear hd hi hp hs hr hnc hio hpo hxa hwa hba
  go_enter Tryz.func76, Tryz.ntmps76
  go_upto_region 1 with fail
  rw [← HWA.out]
  by_cases k1 : kind = 1
  · have b1 : (kind == 1) = true := by simpa using k1
    have HRE : Hid (r = (decide (data.length ≤ 20000) && ((items.length == 0) && nc))) := by rw [← HR.out, ← HNB.out]; unfold Hid mayO; rw [if_pos k1]
    clear k1
    by_cases h2 : (data.length : Int) ≤ 20000
    · by_cases h3 : items.length = 0
      · have b3 : ((items.length : Int) == 0) = true := by rw [beq_iff_eq]; omega
        have HF : Hid (r = nc) := by unfold Hid; rw [HRE.out, h3, decide_eq_true (by omega : data.length ≤ 20000)]; rfl
        clear h3
        go_wp2_with fail
        go_at_call 128
        refine (HNC.out wa HXA.out).mono ?_
        rintro e w1 ⟨rfl, hx1⟩
        have HX1 : Hid (Ext w w1) := HXA.out.trans hx1
        clear hx1
        go_wp2
        go_ret
        exact ⟨ret_b HF.out.symm, HX1.out⟩
      · have b3 : ((items.length : Int) == 0) = false := by rw [beq_eq_false_iff_ne]; omega
        have HF : Hid (r = false) := by unfold Hid; rw [HRE.out, show (items.length == 0) = false by simpa using h3]; simp
        clear h3
        go_wp2
        go_ret
        exact ⟨ret_b HF.out.symm, HXA.out⟩
    · have HF : Hid (r = false) := by unfold Hid; rw [HRE.out, decide_eq_false (by omega : ¬ data.length ≤ 20000)]; rfl
      go_wp2
      go_ret
      exact ⟨ret_b HF.out.symm, HXA.out⟩
  have b1 : (kind == 1) = false := by simpa using k1
  by_cases k2 : kind = 2
  · have b2 : (kind == 2) = true := by simpa using k2
    have HRE : Hid (r = ((data.length == 0) && (io && nc))) := by rw [← HR.out, ← HNB.out, ← HIO.out]; unfold Hid mayO; rw [if_neg k1, if_pos k2]
    clear k1 k2
    by_cases h2 : data.length = 0
    · have b3 : ((data.length : Int) == 0) = true := by rw [beq_iff_eq]; omega
      have HRE2 : Hid (r = (io && nc)) := by unfold Hid; rw [HRE.out, h2]; rfl
      clear h2
      go_wp2_with fail
      go_at_call 129
      refine (HIT.out wa HXA.out).mono ?_
      rintro e w1 ⟨rfl, hx1⟩
      have HX1 : Hid (Ext w w1) := HXA.out.trans hx1
      have HB1 : Hid _ := Ext.row hx1 HBA.out
      obtain ⟨d0, d1, d2, d3, d4, d5, d6, d7⟩ := cellsAt8 HB1.out
      clear hx1
      cases io with
      | true =>
        have HF : Hid (r = nc) := by unfold Hid; rw [HRE2.out]; rfl
        go_wp2_with fail
        go_at_call 128
        refine (HNC.out w1 HX1.out).mono ?_
        rintro e w2 ⟨rfl, hx2⟩
        have HX2 : Hid (Ext w w2) := HX1.out.trans hx2
        clear hx2
        go_wp2
        go_ret
        exact ⟨ret_b HF.out.symm, HX2.out⟩
      | false =>
        have HF : Hid (r = false) := by unfold Hid; rw [HRE2.out]; rfl
        go_wp2
        go_ret
        exact ⟨ret_b HF.out.symm, HX1.out⟩
    · have b3 : ((data.length : Int) == 0) = false := by rw [beq_eq_false_iff_ne]; omega
      have HF : Hid (r = false) := by unfold Hid; rw [HRE.out, show (data.length == 0) = false by simpa using h2]; rfl
      clear h2
      go_wp2
      go_ret
      exact ⟨ret_b HF.out.symm, HXA.out⟩
  have b2 : (kind == 2) = false := by simpa using k2
  by_cases k3 : kind = 3
  · have b3 : (kind == 3) = true := by simpa using k3
    have HRE : Hid (r = ((data.length == 0) && ((items.length == 0) && (validB tree && (po && ((decide (0 ≤ stamp) && decide (stamp ≤ 1099511627776)) && ((decide (0 ≤ author) && decide (author ≤ 255)) && msgOk msg))))))) := by rw [← HR.out, ← HPO.out]; unfold Hid mayO; rw [if_neg k1, if_neg k2, if_pos k3]
    clear k1 k2 k3
    by_cases h2 : data.length = 0
    case neg =>
      have b4 : ((data.length : Int) == 0) = false := by rw [beq_eq_false_iff_ne]; omega
      have HF : Hid (r = false) := by unfold Hid; rw [HRE.out, show (data.length == 0) = false by simpa using h2]; rfl
      clear h2
      go_wp2
      go_ret
      exact ⟨ret_b HF.out.symm, HXA.out⟩
    have b4 : ((data.length : Int) == 0) = true := by rw [beq_iff_eq]; omega
    by_cases h3 : items.length = 0
    case neg =>
      have b5 : ((items.length : Int) == 0) = false := by rw [beq_eq_false_iff_ne]; omega
      have HF : Hid (r = false) := by unfold Hid; rw [HRE.out, show (items.length == 0) = false by simpa using h3]; simp
      clear h2 h3
      go_wp2
      go_ret
      exact ⟨ret_b HF.out.symm, HXA.out⟩
    have b5 : ((items.length : Int) == 0) = true := by rw [beq_iff_eq]; omega
    obtain ⟨vt, hvt⟩ : ∃ vt, validB tree = vt := ⟨_, rfl⟩
    have HVT : Hid _ := hvt
    have HRE2 : Hid (r = (vt && (po && ((decide (0 ≤ stamp) && decide (stamp ≤ 1099511627776)) && ((decide (0 ≤ author) && decide (author ≤ 255)) && msgOk msg))))) := by unfold Hid; rw [HRE.out, h2, h3, hvt]; rfl
    clear h2 h3 hvt
    go_wp2_with fail
    go_at_call 18
    refine (valid_any tree wa (by omega)).mono ?_
    rw [HVT.out]
    rintro e w1 ⟨rfl, hx1⟩
    have HX1 : Hid (Ext w w1) := HXA.out.trans hx1
    have HB1 : Hid _ := Ext.row hx1 HBA.out
    obtain ⟨d0, d1, d2, d3, d4, d5, d6, d7⟩ := cellsAt8 HB1.out
    clear hx1
    cases vt with
    | false =>
      have HF : Hid (r = false) := by unfold Hid; rw [HRE2.out]; rfl
      go_wp2
      go_ret
      exact ⟨ret_b HF.out.symm, HX1.out⟩
    | true =>
    go_wp2_with fail
    go_at_call 130
    refine (HPA.out w1 HX1.out).mono ?_
    rintro e w2 ⟨rfl, hx2⟩
    have HX2 : Hid (Ext w w2) := HX1.out.trans hx2
    obtain ⟨e0, e1, e2, e3, e4, e5, e6, e7⟩ := cellsAt8 (Ext.row hx2 HB1.out)
    clear hx2
    cases po with
    | false =>
      have HF : Hid (r = false) := by unfold Hid; rw [HRE2.out]; rfl
      go_wp2
      go_ret
      exact ⟨ret_b HF.out.symm, HX2.out⟩
    | true =>
    by_cases h6 : (0 : Int) ≤ stamp
    case neg =>
      have HF : Hid (r = false) := by unfold Hid; rw [HRE2.out, decide_eq_false h6]; rfl
      go_wp2
      go_ret
      exact ⟨ret_b HF.out.symm, HX2.out⟩
    by_cases h7 : stamp ≤ 1099511627776
    case neg =>
      have HF : Hid (r = false) := by unfold Hid; rw [HRE2.out, decide_eq_false h7]; simp
      go_wp2
      go_ret
      exact ⟨ret_b HF.out.symm, HX2.out⟩
    by_cases h8 : (0 : Int) ≤ author
    case neg =>
      have HF : Hid (r = false) := by unfold Hid; rw [HRE2.out, decide_eq_false h8]; simp
      go_wp2
      go_ret
      exact ⟨ret_b HF.out.symm, HX2.out⟩
    by_cases h9 : author ≤ 255
    case neg =>
      have HF : Hid (r = false) := by unfold Hid; rw [HRE2.out, decide_eq_false h9]; simp
      go_wp2
      go_ret
      exact ⟨ret_b HF.out.symm, HX2.out⟩
    have HF : Hid (r = msgOk msg) := by unfold Hid; rw [HRE2.out, decide_eq_true h6, decide_eq_true h7, decide_eq_true h8, decide_eq_true h9]; rfl
    go_wp2_with fail
    go_at_call 131
    refine (mayMsg_any msg w2 (by omega)).mono ?_
    rintro e w3 ⟨rfl, rfl⟩
    go_wp2
    go_ret
    exact ⟨ret_b HF.out.symm, HX2.out⟩
  · have b3 : (kind == 3) = false := by simpa using k3
    have HF : Hid (r = false) := by rw [← HR.out]; unfold Hid mayO; rw [if_neg k1, if_neg k2, if_neg k3]
    clear k1 k2 k3
    go_wp2
    go_ret
    exact ⟨ret_b HF.out.symm, HXA.out⟩

end Go.Proofs.YtalpfoomkhhgnaaGreatDoor

/-! obj: a number, a hash behind bytes. Conditions: as each theorem states. -/
namespace Go.Proofs.YtalpfoomkhhgnaaGreatDoor
open Go Go.RowKit
set_option linter.unusedVariables false
set_option linter.unusedSimpArgs false
set_option linter.unusedSectionVars false

abbrev U8s (l : B8) : List Value := l.map fun x => .int .u8 x.toNat
theorem u8s_app (l r : B8) : U8s (l ++ r) = U8s l ++ U8s r := List.map_append
theorem grown_far {w w1 w2 : World} {g : Option Nat} (h : Ext w w1) (k : w1.grownBy w2 g) : w.grownBy w2 g := (h.grown.but g).trans k
/-- Where a slice that grew lies: where it lay, or in a new block. -/
def Near (w : World) (v v' : Value) : Prop := ∀ k, v'.ownBlock = some k → v.ownBlock = some k ∨ w.heap.size ≤ k
theorem Near.of {w : World} {v v' : Value} (h : v'.ownBlock = v.ownBlock ∨ v'.ownBlock = some w.heap.size) : Near w v v' := fun k hk => by
  rcases h with h | h
  · exact .inl (h.symm.trans hk)
  · rw [h] at hk; cases hk; exact .inr (Nat.le_refl _)
abbrev Ow (base : Nat) (w : World) (v : Value) (l : B8) : Prop := w.ownsRow base 5 1 v l.length (U8s l)
theorem appB_run {w : World} (base : Nat) (ty : TypeId) (v : Value) (l : B8) (hown : Ow base w v l) (xv : Value) (r : B8) (hrow : IsBytes w xv r) (hl : l.length + r.length ≤ 1000000000) (hbase : base ≤ w.heap.size) :
    ∃ v' w', (Builtin.append_ #[45, 45] 45 #[v, xv]).run Tryz.prog w = .ok v' w' ∧ Ow base w' v' (l ++ r) ∧ w.grownBy w' v.ownBlock ∧ Near w v v' := by
  obtain ⟨v', w', hr, h2, h3, h4⟩ := appS_run 45 5 (.int .u8 0) 1 1 Tryz.underlying45 info_u8 rfl (by omega) base v l.length _ hown xv r.length (U8s r) hrow (by simp) (fun u hu => by obtain ⟨_, _, rfl⟩ := List.mem_map.1 hu; rfl) (by omega) (by omega) hbase
  exact ⟨v', w', hr, by unfold Ow; rw [List.length_append, u8s_app]; exact h2, h3, Near.of h4⟩
theorem appT_run {w : World} (base : Nat) (v : Value) (l : B8) (hown : Ow base w v l) (r : B8) (hl : l.length + r.length ≤ 1000000000) (hbase : base ≤ w.heap.size) :
    ∃ v' w', (Builtin.append_ #[45, 9] 45 #[v, S8 r]).run Tryz.prog w = .ok v' w' ∧ Ow base w' v' (l ++ r) ∧ w.grownBy w' v.ownBlock ∧ Near w v v' := by
  obtain ⟨i0, hi, hz0, hz1, hz2⟩ := info_parts info_u8
  have hsz : (⟨r.toArray⟩ : ByteArray).size = r.length := by simp [ByteArray.size]
  have key : ∀ b, w.ownsRow b 5 1 v l.length (U8s l) → b ≤ w.heap.size → ∃ v' w', (Builtin.append_ #[45, 9] 45 #[v, S8 r]).run Tryz.prog w = .ok v' w' ∧ w'.ownsRow b 5 1 v' (l ++ r).length (U8s (l ++ r)) ∧ w.grownBy w' v.ownBlock := fun b hb hbs => by
    obtain ⟨v', w', hr, h1, h2, -⟩ := Lib.run_append_own_string (P := Tryz.prog) w b 45 9 45 5 i0 Tryz.underlying45 Tryz.underlying9 hi hz0 hz1 hz2 v l.length _ hb ⟨r.toArray⟩ (by rw [hsz]; unfold maxLen; omega) (by rw [hsz]; omega) hbs
    rw [hsz] at h1
    exact ⟨v', w', hr, by rw [List.length_append, u8s_app]; exact h1, h2⟩
  obtain ⟨v', w', hr, h1, h2⟩ := key base hown hbase
  refine ⟨v', w', hr, h1, h2, ?_⟩
  have h0 := hown
  rcases hown.2 with ⟨rfl, hn⟩ | ⟨g, cap, cur, rfl, hbg, hg, hnc, hcm, hcs, htake⟩
  · have hle : l.length = 0 := hn
    have hl0 : l = [] := List.eq_nil_of_length_eq_zero hle
    subst hl0
    obtain ⟨v2, w2, hr2, h3, -⟩ := key w.heap.size (World.ownsRow_nil _ _ _ _) (Nat.le_refl _)
    rw [hr] at hr2
    cases hr2
    exact fun k hk => .inr (h3.lt k hk).1
  · by_cases hroom : l.length + r.length ≤ cap
    · have hcs' : cur.size = cap := by simpa using hcs
      have hr2 := Lib.run_append_room_string (P := Tryz.prog) w 45 9 45 5 i0 Tryz.underlying45 Tryz.underlying9 hi hz1 g l.length cap cur hg ⟨r.toArray⟩ (by rw [hsz]; exact hroom) (by omega)
      rw [hr] at hr2
      cases hr2
      exact fun k hk => .inl hk
    · have holds : ∀ j u, (U8s l)[j]? = some u → w.cell? ((⟨g, 0, none⟩ : Addr).add j) = some u := h0.cells (g := g) rfl
      have hr2 := Lib.run_append_grow_string (P := Tryz.prog) w 45 9 45 5 i0 (.int .u8 0) Tryz.underlying45 Tryz.underlying9 hi hz0 ⟨g, 0, none⟩ l.length cap (U8s l) (by rw [hz1]; simp) holds ⟨r.toArray⟩ (by rw [hsz]; unfold maxLen at hcm; omega) (by rw [hsz]; omega) (by rw [hz2, hsz]; exact growslice_fits (by omega) (by omega))
      rw [hr] at hr2
      cases hr2
      exact fun k hk => by cases hk; exact .inr (Nat.le_refl _)
section
variable {ops : Array Oper} {rest : List Oper} {o : Oper} {a : Act} {Q : Exit → Act → World → Prop} {w : World}
/-- append of bytes, of whatever slice. -/
theorem app_bs (hgd : o.guard = none) (s x : Operand) (ho : o.op = .call { callee := .builtin .append, args := #[s, x], argTypes := #[45, 45] }) (hty : o.type = 45)
    (base : Nat) (v : Value) (l : B8) (hs : a.eval s = v) (hown : Ow base w v l)
    (xv : Value) (r : B8) (hx : a.eval x = xv) (hrow : IsBytes w xv r) (hl : l.length + r.length ≤ 1000000000) (hbase : base ≤ w.heap.size)
    (h : ∀ v' w', Ow base w' v' (l ++ r) → w.grownBy w' v.ownBlock → Near w v v' → wpList Tryz.prog ops Q rest (a.put o.dst v') w') : wpList Tryz.prog ops Q (o :: rest) a w := by
  refine wpList_plain hgd fun K hK => ?_
  obtain ⟨v', w', hr, h2, h3, h4⟩ := appB_run base 45 v l hown xv r hrow hl hbase
  unfold Oper.wp execOp
  simp only [ho, hty, resolve, invoke, builtin, Sem.run_bind, Sem.run_pure, Result.andThen_ok, List.map_toArray, List.map_cons, List.map_nil, hs, hx, hr]
  exact hK _ _ (h v' w' h2 h3 h4)
/-- append of a text. -/
theorem app_tx (hgd : o.guard = none) (s x : Operand) (ho : o.op = .call { callee := .builtin .append, args := #[s, x], argTypes := #[45, 9] }) (hty : o.type = 45)
    (base : Nat) (v : Value) (l : B8) (hs : a.eval s = v) (hown : Ow base w v l)
    (r : B8) (hx : a.eval x = S8 r) (hl : l.length + r.length ≤ 1000000000) (hbase : base ≤ w.heap.size)
    (h : ∀ v' w', Ow base w' v' (l ++ r) → w.grownBy w' v.ownBlock → Near w v v' → wpList Tryz.prog ops Q rest (a.put o.dst v') w') : wpList Tryz.prog ops Q (o :: rest) a w := by
  refine wpList_plain hgd fun K hK => ?_
  obtain ⟨v', w', hr, h2, h3, h4⟩ := appT_run base v l hown r hl hbase
  unfold Oper.wp execOp
  simp only [ho, hty, resolve, invoke, builtin, Sem.run_bind, Sem.run_pure, Result.andThen_ok, List.map_toArray, List.map_cons, List.map_nil, hs, hx, hr]
  exact hK _ _ (h v' w' h2 h3 h4)
end
theorem Near.far {w w1 : World} {v v' : Value} (h : Near w1 v v') (hx : w.heap.size ≤ w1.heap.size) : Near w v v' := fun k hk => by
  rcases h k hk with h | h
  · exact .inl h
  · exact .inr (Nat.le_trans hx h)

set_option maxRecDepth 100000 in
set_option maxHeartbeats 1000000 in
theorem number_any (v : Value) (l : B8) (n : Int) (base : Nat) (w : World) (hown : Ow base w v l) (hb : base ≤ w.heap.size) (hl : l.length ≤ 100000000) :
    Calls Tryz.prog 77 #[v, .int .i64 n] w fun e w' => ∃ v', e = .returned v' ∧ Ow base w' v' (l ++ (putW n).1) ∧ w.grownBy w' v.ownBlock ∧ Near w v v' := by
  have HO : Hid _ := hown
  have hpl : (putW n).1.length ≤ 9 := by
    unfold putW
    split
    · simp
    · exact putN_len9 (by omega)
  have hva : v = .slice none 0 0 ∨ ∃ g c, v = .slice (some ⟨g, 0, none⟩) l.length c := by
    rcases hown.2 with ⟨h, -⟩ | ⟨g, c, cur, h, -⟩
    · exact .inl h
    · exact .inr ⟨g, c, h⟩
  clear hown
  obtain ⟨vb, vn, vc, rfl⟩ : ∃ b n c, v = .slice b n c := by
    rcases hva with h | ⟨g, c, h⟩
    · exact ⟨_, _, _, h⟩
    · exact ⟨_, _, _, h⟩
  clear hva
  have HC : Hid _ := wPut_any n w
  obtain ⟨⟨p, e⟩, hq⟩ : ∃ q, putW n = q := ⟨_, rfl⟩
  rw [hq] at hpl HC ⊢
  clear hq
  go_enter Tryz.func77, Tryz.ntmps77
  go_wp2_with fail
  go_at_call 132
  refine Calls.mono HC.out ?_
  rintro e9 w1 ⟨⟨x, rfl, hx⟩, hx1⟩
  have HXB : Hid (IsBytes w1 x p) := by unfold Hid IsBytes; exact Row.of_owns hx (by omega)
  have HX1 : Hid (Ext w w1) := hx1
  have hsz1 := hx1.size
  clear hx hx1 HC
  try dsimp only at hpl ⊢
  go_wp2_with (at_builtin; go_must (refine app_bs rfl _ _ rfl rfl base _ l rfl (owns_ext HO.out HX1.out) _ p rfl HXB.out (by omega) (by omega) ?_; intro v' w2 hown2 hg2 hn2))
  go_ret
  exact ⟨_, rfl, hown2, grown_far HX1.out hg2, hn2.far hsz1⟩

set_option maxRecDepth 100000 in
set_option maxHeartbeats 1000000 in
theorem hashO_any (v : Value) (l id : B8) (base : Nat) (w : World) (hown : Ow base w v l) (hb : base ≤ w.heap.size) (hl : l.length ≤ 100000000) (hv : validB id = true) :
    Calls Tryz.prog 78 #[v, S8 id] w fun e w' => ∃ v', e = .returned v' ∧ Ow base w' v' (l ++ rawH id) ∧ w.grownBy w' v.ownBlock ∧ Near w v v' := by
  have HO : Hid _ := hown
  obtain ⟨h32, -⟩ := raw_of hv
  obtain ⟨vb, vn, vc, rfl⟩ : ∃ b n c, v = .slice b n c := by
    rcases hown.2 with ⟨h, -⟩ | ⟨g, c, cur, h, -⟩
    · exact ⟨_, _, _, h⟩
    · exact ⟨_, _, _, h⟩
  clear hown
  have hil : id.length ≤ 30000000 := by
    unfold validB at hv
    cases hu : unhexM id with
    | none => rw [hu] at hv; cases hv
    | some b =>
      rw [hu] at hv
      have h9 := (unhex_len id hu).1
      have : b.length = 32 := by simpa using hv
      omega
  have hun : unhexM id = some (rawH id) := by
    unfold validB at hv
    unfold rawH
    cases hu : unhexM id with
    | none => rw [hu] at hv; cases hv
    | some b => rfl
  have hc := unhex_any id w (Nat.le_trans hil (by decide))
  unfold UnhexPost at hc
  rw [hun] at hc
  dsimp only at hc
  have HC : Hid _ := hc
  obtain ⟨p, hp⟩ : ∃ p, rawH id = p := ⟨_, rfl⟩
  rw [hp] at h32 HC ⊢
  clear hc hp hun hv
  go_enter Tryz.func78, Tryz.ntmps78
  go_wp2_with fail
  go_at_call 49
  refine Calls.mono HC.out ?_
  rintro e9 w1 ⟨⟨x, rfl, hx⟩, hx1⟩
  have HXB : Hid (IsBytes w1 x p) := hx
  have HX1 : Hid (Ext w w1) := hx1
  have hsz1 := hx1.size
  clear hx hx1 HC
  go_wp2_with (at_builtin; go_must (refine app_bs rfl _ _ rfl rfl base _ l rfl (owns_ext HO.out HX1.out) _ p rfl HXB.out (by omega) (by omega) ?_; intro v' w2 hown2 hg2 hn2))
  go_ret
  exact ⟨_, rfl, hown2, grown_far HX1.out hg2, hn2.far hsz1⟩

end Go.Proofs.YtalpfoomkhhgnaaGreatDoor

/-! A slice of bytes of the call's own that grows step by step inside a region that draws its order. Conditions: as each theorem states. -/
namespace Go.Proofs.YtalpfoomkhhgnaaGreatDoor
open Go Go.RowKit
set_option linter.unusedVariables false
set_option linter.unusedSimpArgs false
set_option linter.unusedSectionVars false

/-- What the steps za, zb, zc have made of v0, and the literal zl. -/
structure ChJ (w0 : World) (base : Nat) (v0 : Value) (c : UInt8) (l0 l1 l2 l3 : B8) (zl za zb zc : Option Value) (w : World) : Prop where
  ext : w0.grownBy w v0.ownBlock
  cur : ∃ cv cl, ((za = none ∧ zb = none ∧ zc = none ∧ cv = v0 ∧ cl = l0) ∨ (za = some cv ∧ zb = none ∧ zc = none ∧ cl = l1) ∨ (za ≠ none ∧ zb = some cv ∧ zc = none ∧ cl = l2) ∨ (za ≠ none ∧ zb ≠ none ∧ zc = some cv ∧ cl = l3)) ∧
    Ow base w cv cl ∧ Near w0 v0 cv ∧ ∀ u, zl = some u → ∃ g, u = .slice (some ⟨g, 0, none⟩) 1 1 ∧ w.heap[g]? = some (.cells #[.int .u8 c.toNat] 5 (0, 0)) ∧ cv.ownBlock ≠ some g
section
variable {w0 w w' : World} {base : Nat} {v0 v' : Value} {c : UInt8} {l0 l1 l2 l3 : B8} {zl za zb zc : Option Value}
theorem ChJ.start (h : Ow base w0 v0 l0) (hx : Ext w0 w) : ChJ w0 base v0 c l0 l1 l2 l3 none none none none w :=
  ⟨hx.grown.but _, v0, l0, .inl ⟨rfl, rfl, rfl, rfl, rfl⟩, owns_ext h hx, fun k hk => .inl hk, fun u hu => by cases hu⟩
theorem ChJ.cell {a : Addr} {x : Value} (h : ChJ w0 base v0 c l0 l1 l2 l3 zl za zb zc w) (hne : v0.ownBlock ≠ some a.block) (hc : w0.cell? a = some x) : w.cell? a = some x := by
  rw [World.cell?_of_block (h.ext.block _ (World.block_lt_of_cell? _ _ hc) (fun e => hne e.symm))]
  exact hc
/-- One step on. -/
theorem chJ_step {cv : Value} {g : Nat} (hx : w0.grownBy w v0.ownBlock) (hn0 : Near w0 v0 cv) (hg : w.grownBy w' cv.ownBlock) (hn : Near w cv v') : w0.grownBy w' v0.ownBlock ∧ Near w0 v0 v' ∧ (∀ g o, w.heap[g]? = some o → cv.ownBlock ≠ some g → w'.heap[g]? = some o ∧ v'.ownBlock ≠ some g) := by
  refine ⟨hx.andThen hg (fun j hj => ?_), fun k hk => ?_, fun g o ho hne => ?_⟩
  · rcases hn0 j hj with h | h
    · exact .inr h
    · exact .inl h
  · rcases hn k hk with h | h
    · exact hn0 k h
    · exact .inr (Nat.le_trans hx.size h)
  · have hlt := (Array.getElem?_eq_some_iff.1 ho).1
    refine ⟨(hg.block g hlt (fun e => hne e.symm)).trans ho, fun e => ?_⟩
    rcases hn g e with h | h
    · exact hne h
    · omega
theorem ChJ.ownZ (h : ChJ w0 base v0 c l0 l1 l2 l3 zl none zb zc w) : Ow base w v0 l0 := by
  obtain ⟨cv, cl, hs, ho, -⟩ := h.cur
  rcases hs with ⟨-, -, -, rfl, rfl⟩ | ⟨h, -⟩ | ⟨h, -⟩ | ⟨h, -⟩
  · exact ho
  · cases h
  · exact absurd rfl h
  · exact absurd rfl h
theorem ChJ.setA (h : ChJ w0 base v0 c l0 l1 l2 l3 zl none zb zc w) (ho : Ow base w' v' l1) (hg : w.grownBy w' v0.ownBlock) (hn : Near w v0 v') : ChJ w0 base v0 c l0 l1 l2 l3 zl (some v') zb zc w' := by
  obtain ⟨cv, cl, hs, -, hn0, hl⟩ := h.cur
  rcases hs with ⟨-, h2, h3, rfl, rfl⟩ | ⟨h, -⟩ | ⟨h, -⟩ | ⟨h, -⟩
  · obtain ⟨s1, s2, s3⟩ := chJ_step (g := 0) h.ext hn0 hg hn
    refine ⟨s1, v', l1, .inr (.inl ⟨rfl, h2, h3, rfl⟩), ho, s2, fun u hu => ?_⟩
    obtain ⟨g, e, hr, hne⟩ := hl u hu
    exact ⟨g, e, (s3 g _ hr hne).1, (s3 g _ hr hne).2⟩
  · cases h
  · exact absurd rfl h
  · exact absurd rfl h
theorem ChJ.ownA {u : Value} (h : ChJ w0 base v0 c l0 l1 l2 l3 zl za none zc w) (hk : za = some u) : Ow base w u l1 := by
  obtain ⟨cv, cl, hs, ho, -⟩ := h.cur
  rcases hs with ⟨h1, -⟩ | ⟨h1, -, -, rfl⟩ | ⟨-, h1, -⟩ | ⟨-, h1, -⟩
  · rw [hk] at h1; cases h1
  · rw [hk] at h1; cases h1; exact ho
  · cases h1
  · exact absurd rfl h1
theorem ChJ.setB {u : Value} (h : ChJ w0 base v0 c l0 l1 l2 l3 zl za none zc w) (hk : za = some u) (ho : Ow base w' v' l2) (hg : w.grownBy w' u.ownBlock) (hn : Near w u v') : ChJ w0 base v0 c l0 l1 l2 l3 zl za (some v') zc w' := by
  obtain ⟨cv, cl, hs, -, hn0, hl⟩ := h.cur
  rcases hs with ⟨h1, -⟩ | ⟨h1, -, h3, rfl⟩ | ⟨-, h1, -⟩ | ⟨-, h1, -⟩
  · rw [hk] at h1; cases h1
  · rw [hk] at h1
    cases h1
    obtain ⟨s1, s2, s3⟩ := chJ_step (g := 0) h.ext hn0 hg hn
    refine ⟨s1, v', l2, .inr (.inr (.inl ⟨by rw [hk]; simp, rfl, h3, rfl⟩)), ho, s2, fun u hu => ?_⟩
    obtain ⟨g, e, hr, hne⟩ := hl u hu
    exact ⟨g, e, (s3 g _ hr hne).1, (s3 g _ hr hne).2⟩
  · cases h1
  · exact absurd rfl h1
theorem ChJ.ownB {u : Value} (h : ChJ w0 base v0 c l0 l1 l2 l3 zl za zb none w) (hk : zb = some u) : Ow base w u l2 := by
  obtain ⟨cv, cl, hs, ho, -⟩ := h.cur
  rcases hs with ⟨-, h1, -⟩ | ⟨-, h1, -⟩ | ⟨-, h1, -, rfl⟩ | ⟨-, -, h1, -⟩
  · rw [hk] at h1; cases h1
  · rw [hk] at h1; cases h1
  · rw [hk] at h1; cases h1; exact ho
  · cases h1
theorem ChJ.nearB {u : Value} (h : ChJ w0 base v0 c l0 l1 l2 l3 zl za zb none w) (hk : zb = some u) : Near w0 v0 u := by
  obtain ⟨cv, cl, hs, -, hn, -⟩ := h.cur
  rcases hs with ⟨-, h1, -⟩ | ⟨-, h1, -⟩ | ⟨-, h1, -, rfl⟩ | ⟨-, -, h1, -⟩
  · rw [hk] at h1; cases h1
  · rw [hk] at h1; cases h1
  · rw [hk] at h1; cases h1; exact hn
  · cases h1
theorem ChJ.setC {u : Value} (h : ChJ w0 base v0 c l0 l1 l2 l3 zl za zb none w) (hk : zb = some u) (ho : Ow base w' v' l3) (hg : w.grownBy w' u.ownBlock) (hn : Near w u v') : ChJ w0 base v0 c l0 l1 l2 l3 zl za zb (some v') w' := by
  obtain ⟨cv, cl, hs, -, hn0, hl⟩ := h.cur
  rcases hs with ⟨-, h1, -⟩ | ⟨-, h1, -⟩ | ⟨h0, h1, -, rfl⟩ | ⟨-, -, h1, -⟩
  · rw [hk] at h1; cases h1
  · rw [hk] at h1; cases h1
  · rw [hk] at h1
    cases h1
    obtain ⟨s1, s2, s3⟩ := chJ_step (g := 0) h.ext hn0 hg hn
    refine ⟨s1, v', l3, .inr (.inr (.inr ⟨h0, by rw [hk]; simp, rfl, rfl⟩)), ho, s2, fun u hu => ?_⟩
    obtain ⟨g, e, hr, hne⟩ := hl u hu
    exact ⟨g, e, (s3 g _ hr hne).1, (s3 g _ hr hne).2⟩
  · cases h1
theorem ChJ.ownC {u : Value} (h : ChJ w0 base v0 c l0 l1 l2 l3 zl za zb zc w) (hk : zc = some u) : Ow base w u l3 := by
  obtain ⟨cv, cl, hs, ho, -⟩ := h.cur
  rcases hs with ⟨-, -, h1, -⟩ | ⟨-, -, h1, -⟩ | ⟨-, -, h1, -⟩ | ⟨-, -, h1, rfl⟩
  · rw [hk] at h1; cases h1
  · rw [hk] at h1; cases h1
  · rw [hk] at h1; cases h1
  · rw [hk] at h1; cases h1; exact ho
theorem ChJ.setL (h : ChJ w0 base v0 c l0 l1 l2 l3 none za zb zc w) : ChJ w0 base v0 c l0 l1 l2 l3 (some (.slice (some ⟨w.heap.size, 0, none⟩) 1 1)) za zb zc (w.alloc (.cells #[.int .u8 c.toNat] 5)) := by
  obtain ⟨cv, cl, hs, ho, hn0, hl⟩ := h.cur
  have hx : Ext w (w.alloc (.cells #[.int .u8 c.toNat] 5)) := (Ext.refl w).alloc _
  refine ⟨h.ext.trans (hx.grown.but _), cv, cl, hs, owns_ext ho hx, hn0, fun u hu => ?_⟩
  cases hu
  exact ⟨_, rfl, alloc_at _ _, fun e => by have := (ho.lt _ e).2; omega⟩
theorem ChJ.lit {u : Value} (h : ChJ w0 base v0 c l0 l1 l2 l3 zl za zb zc w) (hk : zl = some u) : IsBytes w u [c] := by
  obtain ⟨cv, cl, -, -, -, hl⟩ := h.cur
  obtain ⟨g, rfl, hr, -⟩ := hl u hk
  exact Row.new hr (by decide) _ rfl
theorem ChJ.size (h : ChJ w0 base v0 c l0 l1 l2 l3 zl za zb zc w) : w0.heap.size ≤ w.heap.size := h.ext.size
theorem ChJ.appA {u : Value} (h : ChJ w0 base v0 c l0 (l0 ++ [c]) l2 l3 zl none zb zc w) (hk : zl = some u) (hb : base ≤ w0.heap.size) (hl : l0.length ≤ 100000000) :
    ∃ v' w', (Builtin.append_ #[45, 45] 45 #[v0, u]).run Tryz.prog w = .ok v' w' ∧ ChJ w0 base v0 c l0 (l0 ++ [c]) l2 l3 zl (some v') zb zc w' := by
  obtain ⟨v', w', hr, h1, h2, h3⟩ := appB_run base 45 v0 l0 h.ownZ u [c] (h.lit hk) (by simp; omega) (Nat.le_trans hb h.size)
  exact ⟨v', w', hr, h.setA h1 h2 h3⟩
theorem ChJ.appB {u x : Value} (h : ChJ w0 base v0 c l0 l1 (l1 ++ [c]) l3 zl za none zc w) (hk : zl = some x) (ha : za = some u) (hb : base ≤ w0.heap.size) (hl : l1.length ≤ 100000000) :
    ∃ v' w', (Builtin.append_ #[45, 45] 45 #[u, x]).run Tryz.prog w = .ok v' w' ∧ ChJ w0 base v0 c l0 l1 (l1 ++ [c]) l3 zl za (some v') zc w' := by
  obtain ⟨v', w', hr, h1, h2, h3⟩ := appB_run base 45 u l1 (h.ownA ha) x [c] (h.lit hk) (by simp; omega) (Nat.le_trans hb h.size)
  exact ⟨v', w', hr, h.setB ha h1 h2 h3⟩
theorem ChJ.appT (h : ChJ w0 base v0 c l0 (l0 ++ l1) l2 l3 zl none zb zc w) (hb : base ≤ w0.heap.size) (hl : l0.length ≤ 100000000) (hl1 : l1.length ≤ 100000000) :
    ∃ v' w', (Builtin.append_ #[45, 9] 45 #[v0, S8 l1]).run Tryz.prog w = .ok v' w' ∧ ChJ w0 base v0 c l0 (l0 ++ l1) l2 l3 zl (some v') zb zc w' := by
  obtain ⟨v', w', hr, h1, h2, h3⟩ := appT_run base v0 l0 h.ownZ l1 (by omega) (Nat.le_trans hb h.size)
  exact ⟨v', w', hr, h.setA h1 h2 h3⟩
end
theorem rel_append2 {c : Prop} [Decidable c] {ev : Operand → Value} {R : Value → World → Prop} {o : Oper} {w : World} (s x : Operand) (t u : TypeId) {v xv v' : Value} {w' : World} (hw : c) (ho : o.op = .call { callee := .builtin .append, args := #[s, x], argTypes := #[t, u] })
    (hs : ev s = v) (hx : ev x = xv) (hr : (Builtin.append_ #[t, u] o.type #[v, xv]).run Tryz.prog w = .ok v' w') (h : R v' w') :
    if c then relUpon Tryz.prog R ((execOp ev o).run Tryz.prog w) else R undef w := by
  rw [if_pos hw]
  unfold execOp
  simp only [ho, resolve, invoke, builtin, Sem.run_bind, Sem.run_pure, Result.andThen_ok, List.map_toArray, List.map_cons, List.map_nil, hs, hx, hr]
  exact h

end Go.Proofs.YtalpfoomkhhgnaaGreatDoor

/-! obj.Encode. Conditions: as each theorem states. -/
namespace Go.Proofs.YtalpfoomkhhgnaaGreatDoor
open Go Go.RowKit
set_option linter.unusedVariables false
set_option linter.unusedSimpArgs false
set_option linter.unusedSectionVars false

theorem enc_len {x : Itm} (h : itemOk x = true) : (encItem x).length ≤ 200 := by
  unfold itemOk at h
  simp only [Bool.and_eq_true, decide_eq_true_eq] at h
  have h1 := name_len h.2.2.1
  have h2 := (raw_of h.2.2.2).1
  have h3 := putN_len9 (n := x.name.length) (by unfold maxW; omega)
  unfold encItem
  simp only [List.length_cons, List.length_append]
  omega
theorem encs_len : ∀ (l : List Itm) (k : Nat), (∀ x ∈ l, itemOk x = true) → ((l.take k).flatMap encItem).length ≤ 200 * k
  | l, 0, _ => by simp
  | [], k + 1, _ => by simp
  | x :: l, k + 1, h => by
    have h1 := enc_len (h x (by simp))
    have h2 := encs_len l k (fun y hy => h y (by simp [hy]))
    rw [List.take_succ_cons, List.flatMap_cons, List.length_append]
    omega
theorem mode_u8 {m : Int} (h1 : 1 ≤ m) (h2 : m ≤ 4) : IntKind.u8.wrap m = (((UInt8.ofNat m.toNat).toNat : Nat) : Int) := by
  rw [IntKind.wrap_u8, UInt8.toNat_ofNat']
  omega
theorem put_int (n : Int) (h0 : 0 ≤ n) (h : n ≤ maxW) : (putW n).1 = putN n.toNat := by
  unfold putW
  rw [if_neg (by omega)]
theorem raws_len : ∀ (l : List B8) (k : Nat), l.all validB = true → ((l.take k).flatMap rawH).length ≤ 32 * k
  | l, 0, _ => by simp
  | [], k + 1, _ => by simp
  | x :: l, k + 1, h => by
    simp only [List.all_cons, Bool.and_eq_true] at h
    have h1 := (raw_of h.1).1
    have h2 := raws_len l k h.2
    rw [List.take_succ_cons, List.flatMap_cons, List.length_append]
    omega
theorem put_nat (n : Nat) (h : n ≤ maxW) : (putW (n : Int)).1 = putN n := by
  unfold putW
  rw [if_neg (by omega)]
  rfl

set_option maxRecDepth 100000 in
set_option maxHeartbeats 16000000 in
theorem oEnc_any (v : Value) (o : Ob) (w : World) (hv : IsOb w v o) (hs : ObSmall o) :
    Calls Tryz.prog 48 #[v] w fun e w' => (∃ u, e = .returned (.tuple #[u, .int .i64 (encodeM o).2]) ∧ Ow w.heap.size w' u (encodeM o).1) ∧ Ext w w' := by
  have hv0 := hv
  obtain ⟨vd, vi, vp, rfl, hd, hi, hp⟩ := hv
  obtain ⟨wa, hwa⟩ : ∃ wa, wa = w.alloc (.cells #[.int .i64 o.kind, vd, vi, S8 o.tree, vp, .int .i64 o.stamp, .int .i64 o.author, S8 o.msg] 88) := ⟨_, rfl⟩
  have hxa : Ext w wa := by rw [hwa]; exact (Ext.refl _).alloc _
  have hba : wa.heap[w.heap.size]? = some (.cells #[.int .i64 o.kind, vd, vi, S8 o.tree, vp, .int .i64 o.stamp, .int .i64 o.author, S8 o.msg] 88 (0, 0)) := by rw [hwa]; exact alloc_at _ _
  obtain ⟨gb, hgb⟩ : ∃ gb, w.heap.size = gb := ⟨_, rfl⟩
  have HMY : Hid (Calls Tryz.prog 76 #[obV o vd vi vp] wa fun e w' => e = .returned (.bool (mayO o)) ∧ Ext wa w') := oMay_any _ o wa (hv0.ext hxa) hs
  have HD : Hid (IsBytes w vd o.data) := hd
  have HI : Hid (IsItms w vi o.items) := hi
  have HP : Hid (IsStrs w vp o.parents) := hp
  obtain ⟨da, dc, rfl, -, -, -, -⟩ := hd.get
  obtain ⟨ia, ic, rfl, i1, i2, i3, hig⟩ := hi.get
  have HIG : Hid _ := hig
  obtain ⟨pa, pc, rfl, p1, p2, p3, hpg⟩ := hp.get
  have HPG : Hid _ := hpg
  obtain ⟨m0, hm0⟩ : ∃ m, mayO o = m := ⟨_, rfl⟩
  rw [hm0] at HMY
  have HM0 : Hid _ := hm0
  unfold obV at HMY
  rw [hgb] at hba
  have HBA : Hid _ := hba
  have HXA : Hid (Ext w wa) := hxa
  have HWA : Hid _ := hwa
  obtain ⟨c0, c1, c2, c3, c4, c5, c6, c7⟩ := cellsAt8 hba
  obtain ⟨⟨qb, qe⟩, hq⟩ : ∃ q, encodeM o = q := ⟨_, rfl⟩
  rw [hq]
  have HQ : Hid _ := hq
  clear hv0 hd hi hp hig hpg hs hm0 hba hxa hwa hq
  go_enter Tryz.func48, Tryz.ntmps48
  go_upto_region 1 with fail
  rw [← HWA.out]
  go_wp2_with fail
  go_at_call 76
  refine Calls.mono HMY.out ?_
  rintro e9 w1 ⟨rfl, hx1⟩
  have HX1 : Hid (Ext w w1) := HXA.out.trans hx1
  have HB1 : Hid _ := Ext.row hx1 HBA.out
  have hgb1 : gb < w1.heap.size := (Array.getElem?_eq_some_iff.1 HB1.out).1
  obtain ⟨d0, d1, d2, d3, d4, d5, d6, d7⟩ := cellsAt8 HB1.out
  clear hx1 HMY
  cases m0 with
  | false =>
    obtain ⟨rfl, rfl⟩ : qb = [] ∧ qe = 1 := by
      have h9 := HQ.out
      unfold encodeM at h9
      rw [HM0.out] at h9
      exact ⟨(Prod.mk.inj h9).1.symm, (Prod.mk.inj h9).2.symm⟩
    go_wp2
    go_ret2
    exact ⟨⟨_, rfl, World.ownsRow_nil _ _ _ _⟩, HX1.out⟩
  | true =>
    obtain ⟨hqb, rfl⟩ : qb = encO o ∧ qe = 0 := by
      have h9 := HQ.out
      unfold encodeM at h9
      rw [HM0.out, if_pos rfl] at h9
      exact ⟨(Prod.mk.inj h9).1.symm, (Prod.mk.inj h9).2.symm⟩
    have HQB : Hid _ := hqb
    clear hqb HQ
    clear c0 c1 c2 c3 c4 c5 c6 c7
    obtain ⟨kind, data, items, tree, parents, stamp, author, msg⟩ := o
    have hk := may_kind HM0.out
    have HQB2 : Hid (qb = encO ⟨kind, data, items, tree, parents, stamp, author, msg⟩) := HQB.out
    clear HQB
    dsimp only at hk d0 d1 d2 d3 d4 d5 d6 d7 i1 i2 p1 p2 HIG HPG HD HI HP HB1
    rcases hk with rfl | rfl | rfl
    · have hdl : data.length ≤ 20000 := by
        have h9 := HM0.out
        unfold mayO at h9
        rw [if_pos rfl] at h9
        simp only [Bool.and_eq_true, decide_eq_true_eq] at h9
        exact h9.1
      have HEO : Hid (qb = [1] ++ data) := HQB2.out
      have HOW : Hid (Ow w1.heap.size (w1.alloc (.cells #[.int .u8 1] 5)) (.slice (some ⟨w1.heap.size, 0, none⟩) 1 1) [1]) := World.ownsRow_lit w1 _ 1 (Nat.le_refl _) (by decide) rfl
      go_wp2_with (at_builtin; go_must (refine app_bs rfl _ _ rfl rfl w1.heap.size _ [1] rfl HOW.out _ data rfl (IsBytes.ext HD.out (HX1.out.alloc _)) (by simp; omega) (by simp) ?_; intro v' w2 hown2 hg2 hn2))
      go_ret2
      exact ⟨⟨_, rfl, by rw [HEO.out]; exact hown2.mono HX1.out.size⟩, HX1.out.trans (owns_ext_app ((Ext.refl w1).alloc _) HOW.out hg2)⟩
    · have hmi : items.length ≤ 256 ∧ ∀ x ∈ items, itemOk x = true := by
        have h9 := HM0.out
        unfold mayO at h9
        rw [if_neg (show ¬ (2 : Int) = 1 by decide), if_pos rfl] at h9
        simp only [Bool.and_eq_true, itemsOk, List.all_eq_true, decide_eq_true_eq] at h9
        exact ⟨h9.2.1.2.2, h9.2.1.1⟩
      obtain ⟨hil, hio⟩ := hmi
      have HIO : Hid _ := hio
      have HEO : Hid (qb = [2] ++ putN items.length ++ items.flatMap encItem) := by
        unfold Hid
        rw [HQB2.out]
        show UInt8.ofNat 2 :: (putN items.length ++ items.flatMap encItem) = _
        simp
      have hpl := putN_len9 (n := items.length) (by unfold maxW; omega)
      have HOW : Hid (Ow w1.heap.size (w1.alloc (.cells #[.int .u8 2] 5)) (.slice (some ⟨w1.heap.size, 0, none⟩) 1 1) [2]) := World.ownsRow_lit w1 _ 1 (Nat.le_refl _) (by decide) rfl
      clear hio HQB2
      go_wp2_with fail
      go_at_call 77
      refine (number_any _ [2] items.length w1.heap.size _ HOW.out (by simp) (by simp)).mono ?_
      rintro e9 w2 ⟨v2, rfl, hown2, hg2, hn2⟩
      rw [put_nat _ (by unfold maxW; omega)] at hown2
      have HOW2 : Hid (Ow w1.heap.size w2 v2 ([2] ++ putN items.length)) := hown2
      have HX2 : Hid (Ext w1 w2) := owns_ext_app ((Ext.refl w1).alloc _) HOW.out hg2
      have e2 := HX2.out.cell d2
      clear hown2 hg2 hn2 HOW
      go_wp2_with fail
      go_loopw [4, 34] (fun v i wr => ∃ k : Nat, k ≤ items.length ∧ i = .int .i64 k ∧ Hid (Ow w1.heap.size wr v ([2] ++ putN items.length ++ (items.take k).flatMap encItem)) ∧ Hid (Ext w1 wr)) (fun _ i _ => items.length - (intOf i).toNat)
      case atStart => exact ⟨0, Nat.zero_le _, rfl, by unfold Hid; simpa using HOW2.out, HX2⟩
      case round =>
      obtain ⟨k, hk, rfl, HO, HX⟩ := hrel
      by_cases hlt : k < items.length
      · obtain ⟨x, hx⟩ : ∃ x, items[k]? = some x := ⟨_, List.getElem?_eq_getElem hlt⟩
        have hxo := HIO.out x (List.mem_of_getElem? hx)
        have hell := encs_len items k HIO.out
        have HTK : Hid ((items.take (k + 1)).flatMap encItem = (items.take k).flatMap encItem ++ encItem x) := by
          unfold Hid
          rw [List.take_add_one, hx]
          simp
        obtain ⟨bb, oo, hia, hc0, hc1, hc2⟩ := HIG.out k x hx
        subst hia
        have y0 := HX.out.cell (HX1.out.cell hc0)
        have y1 := HX.out.cell (HX1.out.cell hc1)
        have y2 := HX.out.cell (HX1.out.cell hc2)
        obtain ⟨L0, hL0⟩ : ∃ l, [2] ++ putN items.length ++ (items.take k).flatMap encItem = l := ⟨_, rfl⟩
        have hL0l : L0.length ≤ 60000 := by rw [← hL0]; simp only [List.length_append, List.length_cons, List.length_nil]; omega
        have HL0 : Hid _ := hL0
        rw [hL0] at HO
        clear hL0 hell
        obtain ⟨mode, name, id⟩ := x
        have hxo2 := hxo
        unfold itemOk at hxo2
        simp only [Bool.and_eq_true, decide_eq_true_eq] at hxo2
        obtain ⟨hm1, hm2, hnb, hvb⟩ := hxo2
        have hnl := name_len hnb
        have hmod := mode_u8 hm1 hm2
        obtain ⟨cm, hcm⟩ : ∃ c, UInt8.ofNat mode.toNat = c := ⟨_, rfl⟩
        rw [hcm] at hmod
        have HVB : Hid _ := hvb
        have HEI : Hid (encItem ⟨mode, name, id⟩ = [cm] ++ putN name.length ++ (name ++ rawH id)) := by
          unfold Hid encItem
          rw [hcm]
          simp
        dsimp only at y0 y1 y2
        clear hxo hx hc0 hc1 hc2 hm1 hm2 hnb hvb hcm
        go_upto_region 12 with fail
        obtain ⟨w4, hw4⟩ : ∃ w4, w4 = wr.alloc (.cells #[.int .i64 mode, S8 name, S8 id] 81) := ⟨_, rfl⟩
        have hx4 : Ext wr w4 := by rw [hw4]; exact (Ext.refl _).alloc _
        have hb4 : w4.heap[wr.heap.size]? = some (.cells #[.int .i64 mode, S8 name, S8 id] 81 (0, 0)) := by rw [hw4]; exact alloc_at _ _
        rw [← hw4]
        obtain ⟨gi, hgi⟩ : ∃ gi, wr.heap.size = gi := ⟨_, rfl⟩
        have HO4 : Hid (Ow w1.heap.size w4 u4 L0) := owns_ext HO.out hx4
        have HGI : Hid (u4.ownBlock ≠ some gi) := fun e => by have := (HO.out.lt _ e).2; omega
        have HGL : Hid (gi < w4.heap.size) := by
          have := (Array.getElem?_eq_some_iff.1 hb4).1
          unfold Hid
          omega
        rw [hgi] at hb4 ⊢
        obtain ⟨z0, z1, z2⟩ := cellsAt3 hb4
        have HX4 : Hid (Ext w1 w4) := HX.out.trans hx4
        have hs4 := HX4.out.size
        clear hw4 hx4 hb4 hgi y0 y1 y2 HO HX
        apply wp_region_inv 10 (fun z w' => ChJ w4 w1.heap.size u4 cm L0 (L0 ++ [cm]) (L0 ++ [cm] ++ putN name.length) [] (z 4) (z 5) (z 9) none w') [false, false, false, false, true, true, false, false, false, true] [_, _, _, .int .u8 cm.toNat, undef, undef, _, _, _, undef] [none, none, none, none, none, none, none, none, none, none] [[], [], [1], [2], [3], [0, 4], [], [6], [7], [5, 8]] (by kernel_rfl) (by kernel_rfl) rfl
        · exact ChJ.start HO4.out ⟨rfl, rfl, rfl, Nat.le_refl _, fun _ _ => rfl⟩
        · simp (maxSteps := 1000000) only [oblI, stepI, knowsI, getP, mixP, List.getD_cons_zero, List.getD_cons_succ, Bool.false_eq_true, if_false, if_true, and_true, true_and, forall_const, Nat.zero_add, Nat.reduceAdd, List.take_succ_cons, List.take_zero, fillFrom, Act.put, List.setIfInBounds_toArray, List.set_cons_zero, List.set_cons_succ]
          refine ⟨?_, ?_, ?_, ?_, ?_, ?_, ?_, ?_, ?_, ?_⟩
          · intro xs z wq hj R hR
            have f0 := hj.cell HGI.out z0; have f1 := hj.cell HGI.out z1
            go_simp
            exact hR _ _ hj rfl
          · intro xs z wq hj R hR
            have f0 := hj.cell HGI.out z0; have f1 := hj.cell HGI.out z1
            go_simp
            exact hR _ _ hj rfl
          · intro xs z wq hj hk R hR
            have f0 := hj.cell HGI.out z0; have f1 := hj.cell HGI.out z1
            go_simp
            exact hR _ _ hj rfl
          · intro xs z wq hj hk R hR
            have f0 := hj.cell HGI.out z0; have f1 := hj.cell HGI.out z1
            go_simp
            exact hR _ _ hj rfl
          · intro xs z wq hj hz hk R hR
            rw [hz] at hj
            go_simp
            exact hR _ _ hj.setL
          · intro xs z wq hj hz hk R hR
            obtain ⟨hk0, hk1⟩ := hk
            rw [hz] at hj
            obtain ⟨v', w', hr, hj'⟩ := hj.appA hk1 hs4 (by omega)
            apply rel_append (.tmp 38) (.tmp 42) 45 (v := xs 0) (xv := xs 4) (v' := v') (w' := w')
            · rfl
            · rfl
            · rfl
            · rfl
            · rw [hk0]; exact hr
            · exact hR _ _ hj'
          · intro xs z wq hj R hR
            have f0 := hj.cell HGI.out z0; have f1 := hj.cell HGI.out z1
            go_simp
            exact hR _ _ hj rfl
          · intro xs z wq hj hk R hR
            have f0 := hj.cell HGI.out z0; have f1 := hj.cell HGI.out z1
            go_simp
            exact hR _ _ hj rfl
          · intro xs z wq hj hk R hR
            have f0 := hj.cell HGI.out z0; have f1 := hj.cell HGI.out z1
            go_simp
            exact hR _ _ hj rfl
          · intro xs z wq hj hz hk R hR
            obtain ⟨hk0, hk1⟩ := hk
            rw [hz] at hj
            go_simp
            exact (number_any (xs 5) (L0 ++ [cm]) name.length w1.heap.size wq (hj.ownA hk0) (Nat.le_trans hs4 hj.size) (by simp; omega)).mono (by rintro e' w' ⟨v', rfl, h1, h2, h3⟩; rw [put_nat _ (by unfold maxW; omega)] at h1; exact ⟨_, rfl, hR _ _ (hj.setB hk0 h1 h2 h3)⟩)
        intro xs w5 hj5 hk
        simp only [zAll, List.getD_cons_zero, List.getD_cons_succ, Bool.false_eq_true, if_false, if_true] at hj5
        simp only [heldI, Nat.zero_add, Nat.reduceAdd, and_true] at hk
        obtain ⟨q0, q1, q2, q3, q6, q7, q8⟩ := hk
        simp (maxSteps := 1000000) only [List.drop_succ_cons, List.drop_zero, Nat.zero_add, Nat.reduceAdd, List.take_succ_cons, List.take_zero, fillFrom, Act.put, List.setIfInBounds_toArray, List.set_cons_zero, List.set_cons_succ, q0, q1, q2, q3, q6, q7, q8]
        clear q0 q1 q2 q3 q6 q7 q8
        generalize xs 4 = x4 at *
        generalize xs 5 = x5 at *
        generalize xs 9 = x9 at *
        have HO5 : Hid (Ow w1.heap.size w5 x9 (L0 ++ [cm] ++ putN name.length)) := hj5.ownB rfl
        have HGI5 : Hid (x9.ownBlock ≠ some gi) := fun e => by
          rcases hj5.nearB rfl gi e with h | h
          · exact HGI.out h
          · have := HGL.out; omega
        have t1 := hj5.cell HGI.out z1
        have t2 := hj5.cell HGI.out z2
        have HX5 : Hid (Ext w1 w5) := Below.grown HX4.out hj5.ext hs4 (fun k hk => (HO4.out.lt k hk).1)
        have hs5 := HX5.out.size
        obtain ⟨L1, hL1⟩ : ∃ l, L0 ++ [cm] ++ putN name.length = l := ⟨_, rfl⟩
        have hL1l : L1.length ≤ 70000 := by
          have h9 := putN_len9 (n := name.length) (by unfold maxW; omega)
          rw [← hL1]
          simp only [List.length_append, List.length_cons, List.length_nil]
          omega
        have HL1 : Hid _ := hL1
        rw [hL1] at HO5
        clear hL1 hj5 z0 z1 z2 HO4 HX4 HGI HGL hs4
        go_upto_region 13 with fail
        apply wp_region_inv 7 (fun z w' => ChJ w5 w1.heap.size x9 0 L1 (L1 ++ name) (L1 ++ name ++ rawH id) [] none (z 3) (z 6) none w') [false, false, false, true, false, false, true] [_, _, _, undef, _, _, undef] [none, none, none, none, none, none, none] [[], [], [1], [0, 2], [], [4], [3, 5]] (by kernel_rfl) (by kernel_rfl) rfl
        · exact ChJ.start HO5.out ⟨rfl, rfl, rfl, Nat.le_refl _, fun _ _ => rfl⟩
        · simp (maxSteps := 1000000) only [oblI, stepI, knowsI, getP, mixP, List.getD_cons_zero, List.getD_cons_succ, Bool.false_eq_true, if_false, if_true, and_true, true_and, forall_const, Nat.zero_add, Nat.reduceAdd, List.take_succ_cons, List.take_zero, fillFrom, Act.put, List.setIfInBounds_toArray, List.set_cons_zero, List.set_cons_succ]
          refine ⟨?_, ?_, ?_, ?_, ?_, ?_, ?_⟩
          · intro xs z wq hj R hR
            have f1 := hj.cell HGI5.out t1; have f2 := hj.cell HGI5.out t2
            go_simp
            exact hR _ _ hj rfl
          · intro xs z wq hj R hR
            have f1 := hj.cell HGI5.out t1; have f2 := hj.cell HGI5.out t2
            go_simp
            exact hR _ _ hj rfl
          · intro xs z wq hj hk R hR
            have f1 := hj.cell HGI5.out t1; have f2 := hj.cell HGI5.out t2
            go_simp
            exact hR _ _ hj rfl
          · intro xs z wq hj hz hk R hR
            obtain ⟨hk0, hk1⟩ := hk
            rw [hz] at hj
            obtain ⟨v', w', hr, hj'⟩ := hj.appT hs5 (by omega) (by omega)
            apply rel_append2 (.tmp 48) (.tmp 50) 45 9 (v := xs 0) (xv := xs 2) (v' := v') (w' := w')
            · rfl
            · rfl
            · rfl
            · rfl
            · rw [hk0, hk1]; exact hr
            · exact hR _ _ hj'
          · intro xs z wq hj R hR
            have f1 := hj.cell HGI5.out t1; have f2 := hj.cell HGI5.out t2
            go_simp
            exact hR _ _ hj rfl
          · intro xs z wq hj hk R hR
            have f1 := hj.cell HGI5.out t1; have f2 := hj.cell HGI5.out t2
            go_simp
            exact hR _ _ hj rfl
          · intro xs z wq hj hz hk R hR
            obtain ⟨hk0, hk1⟩ := hk
            rw [hz] at hj
            go_simp
            exact (hashO_any (xs 3) (L1 ++ name) id w1.heap.size wq (hj.ownA hk0) (Nat.le_trans hs5 hj.size) (by simp; omega) HVB.out).mono (by rintro e' w' ⟨v', rfl, h1, h2, h3⟩; exact ⟨_, rfl, hR _ _ (hj.setB hk0 h1 h2 h3)⟩)
        intro xs w6 hj6 hk
        simp only [zAll, List.getD_cons_zero, List.getD_cons_succ, Bool.false_eq_true, if_false, if_true] at hj6
        simp only [heldI, Nat.zero_add, Nat.reduceAdd, and_true] at hk
        obtain ⟨q0, q1, q2, q4, q5⟩ := hk
        simp (maxSteps := 1000000) only [List.drop_succ_cons, List.drop_zero, Nat.zero_add, Nat.reduceAdd, List.take_succ_cons, List.take_zero, fillFrom, Act.put, List.setIfInBounds_toArray, List.set_cons_zero, List.set_cons_succ, q0, q1, q2, q4, q5]
        clear q0 q1 q2 q4 q5
        generalize xs 3 = x3 at *
        generalize xs 6 = x6 at *
        have HX6 : Hid (Ext w1 w6) := Below.grown HX5.out hj6.ext hs5 (fun k hk => (HO5.out.lt k hk).1)
        have HO6 : Hid (Ow w1.heap.size w6 x6 ([2] ++ putN items.length ++ (items.take (k + 1)).flatMap encItem)) := by
          have h9 := hj6.ownB rfl
          unfold Hid
          rw [HTK.out, HEI.out]
          have e : [2] ++ putN items.length ++ ((items.take k).flatMap encItem ++ ([cm] ++ putN name.length ++ (name ++ rawH id))) = L1 ++ name ++ rawH id := by
            rw [← HL1.out, ← HL0.out]
            simp
          rw [e]
          exact h9
        clear hj6
        go_wp2_with fail
        go_roundw
        case rel => exact ⟨k + 1, by omega, by go_num, HO6, HX6⟩
        case measure => simp [intOf]; omega
      · have hkl : k = items.length := by omega
        have HOF : Hid (Ow w1.heap.size wr u4 qb) := by
          have h9 := HO.out
          rw [hkl, List.take_length] at h9
          unfold Hid
          rw [HEO.out]
          exact h9
        clear hk
        go_wp2
        go_ret2
        exact ⟨⟨_, rfl, HOF.out.mono HX1.out.size⟩, HX1.out.trans HX.out⟩
    · have hmi : validB tree = true ∧ ((parents.all validB = true ∧ parents.length ≤ 2) ∧ ((0 ≤ stamp ∧ stamp ≤ 1099511627776) ∧ ((0 ≤ author ∧ author ≤ 255) ∧ msg.length ≤ 200))) := by
        have h9 := HM0.out
        unfold mayO at h9
        rw [if_neg (show ¬ (3 : Int) = 1 by decide), if_neg (show ¬ (3 : Int) = 2 by decide), if_pos rfl] at h9
        simp only [Bool.and_eq_true, parsOk, msgOk, decide_eq_true_eq] at h9
        exact ⟨h9.2.2.1, ⟨h9.2.2.2.1.1, h9.2.2.2.1.2.2⟩, h9.2.2.2.2.1, h9.2.2.2.2.2.1, h9.2.2.2.2.2.2.2⟩
      obtain ⟨hvt, ⟨hpv, hpl⟩, ⟨hs0, hs1⟩, ⟨ha0, ha1⟩, hml⟩ := hmi
      have HVT : Hid _ := hvt
      have HPV : Hid _ := hpv
      obtain ⟨cp, hcp⟩ : ∃ c, UInt8.ofNat parents.length = c := ⟨_, rfl⟩
      have hcw : IntKind.u8.wrap (parents.length : Int) = (cp.toNat : Int) := by
        rw [← hcp, IntKind.wrap_u8, UInt8.toNat_ofNat']
        omega
      have HEO : Hid (qb = [3] ++ rawH tree ++ [cp] ++ parents.flatMap rawH ++ putN stamp.toNat ++ putN author.toNat ++ putN msg.length ++ msg) := by
        unfold Hid
        rw [HQB2.out, ← hcp]
        show UInt8.ofNat 3 :: (rawH tree ++ (UInt8.ofNat parents.length :: (parents.flatMap rawH ++ (putN stamp.toNat ++ (putN author.toNat ++ (putN msg.length ++ msg)))))) = _
        simp
      have ht32 := (raw_of hvt).1
      clear hvt hpv hcp HQB2
      obtain ⟨wL, hwL⟩ : ∃ wL, wL = w1.alloc (.cells #[.int .u8 3] 5) := ⟨_, rfl⟩
      have hxL : Ext w1 wL := by rw [hwL]; exact (Ext.refl _).alloc _
      have HOW : Hid (Ow w1.heap.size wL (.slice (some ⟨w1.heap.size, 0, none⟩) 1 1) [3]) := by rw [hwL]; exact World.ownsRow_lit w1 _ 1 (Nat.le_refl _) (by decide) rfl
      have HXL : Hid (Ext w1 wL) := hxL
      have l3 := hxL.cell d3
      have l4 := hxL.cell d4
      have hsL := hxL.size
      have HGN : Hid ((Value.slice (some ⟨w1.heap.size, 0, none⟩) 1 1).ownBlock ≠ some gb) := fun e => by
        simp only [Value.ownBlock, Option.some.injEq] at e
        omega
      have HWL : Hid _ := hwL
      clear hxL hwL
      go_upto_region 16 with fail
      rw [← HWL.out]
      apply wp_region_inv 10 (fun z w' => ChJ wL w1.heap.size (.slice (some ⟨w1.heap.size, 0, none⟩) 1 1) cp [3] ([3] ++ rawH tree) ([3] ++ rawH tree ++ [cp]) [] (z 8) (z 3) (z 9) none w') [false, false, false, true, false, false, false, false, true, true] [_, _, _, undef, _, _, _, .int .u8 cp.toNat, undef, undef] [none, none, none, none, none, none, none, none, none, none] [[], [], [1], [0, 2], [], [4], [5], [6], [7], [3, 8]] (by kernel_rfl) (by kernel_rfl) rfl
      · exact ChJ.start HOW.out ⟨rfl, rfl, rfl, Nat.le_refl _, fun _ _ => rfl⟩
      · simp (maxSteps := 1000000) only [oblI, stepI, knowsI, getP, mixP, List.getD_cons_zero, List.getD_cons_succ, Bool.false_eq_true, if_false, if_true, and_true, true_and, forall_const, Nat.zero_add, Nat.reduceAdd, List.take_succ_cons, List.take_zero, fillFrom, Act.put, List.setIfInBounds_toArray, List.set_cons_zero, List.set_cons_succ]
        refine ⟨?_, ?_, ?_, ?_, ?_, ?_, ?_, ?_, ?_, ?_⟩
        · intro xs z wq hj R hR
          have f3 := hj.cell HGN.out l3; have f4 := hj.cell HGN.out l4
          go_simp
          exact hR _ _ hj rfl
        · intro xs z wq hj R hR
          have f3 := hj.cell HGN.out l3; have f4 := hj.cell HGN.out l4
          go_simp
          exact hR _ _ hj rfl
        · intro xs z wq hj hk R hR
          have f3 := hj.cell HGN.out l3; have f4 := hj.cell HGN.out l4
          go_simp
          exact hR _ _ hj rfl
        · intro xs z wq hj hz hk R hR
          obtain ⟨hk0, hk1⟩ := hk
          rw [hz] at hj
          go_simp
          exact (hashO_any _ [3] tree w1.heap.size wq hj.ownZ (Nat.le_trans hsL hj.size) (by simp) HVT.out).mono (by rintro e' w' ⟨v', rfl, h1, h2, h3⟩; exact ⟨_, rfl, hR _ _ (hj.setA h1 h2 h3)⟩)
        · intro xs z wq hj R hR
          have f3 := hj.cell HGN.out l3; have f4 := hj.cell HGN.out l4
          go_simp
          exact hR _ _ hj rfl
        · intro xs z wq hj hk R hR
          have f3 := hj.cell HGN.out l3; have f4 := hj.cell HGN.out l4
          go_simp
          exact hR _ _ hj rfl
        · intro xs z wq hj hk R hR
          have f3 := hj.cell HGN.out l3; have f4 := hj.cell HGN.out l4
          go_simp
          exact hR _ _ hj rfl
        · intro xs z wq hj hk R hR
          have f3 := hj.cell HGN.out l3; have f4 := hj.cell HGN.out l4
          go_simp
          exact hR _ _ hj rfl
        · intro xs z wq hj hz hk R hR
          rw [hz] at hj
          go_simp
          exact hR _ _ hj.setL
        · intro xs z wq hj hz hk R hR
          obtain ⟨hk0, hk1⟩ := hk
          rw [hz] at hj
          obtain ⟨v', w', hr, hj'⟩ := hj.appB hk1 hk0 hsL (by simp; omega)
          apply rel_append (.tmp 60) (.tmp 65) 45 (v := xs 3) (xv := xs 8) (v' := v') (w' := w')
          · rfl
          · rfl
          · rfl
          · rfl
          · exact hr
          · exact hR _ _ hj'
      intro xs w2 hj2 hk
      simp only [zAll, List.getD_cons_zero, List.getD_cons_succ, Bool.false_eq_true, if_false, if_true] at hj2
      simp only [heldI, Nat.zero_add, Nat.reduceAdd, and_true] at hk
      obtain ⟨q0, q1, q2, q4, q5, q6, q7⟩ := hk
      simp (maxSteps := 1000000) only [List.drop_succ_cons, List.drop_zero, Nat.zero_add, Nat.reduceAdd, List.take_succ_cons, List.take_zero, fillFrom, Act.put, List.setIfInBounds_toArray, List.set_cons_zero, List.set_cons_succ, q0, q1, q2, q4, q5, q6, q7]
      clear q0 q1 q2 q4 q5 q6 q7
      generalize xs 3 = x3 at *
      generalize xs 8 = x8 at *
      generalize xs 9 = x9 at *
      have HX2 : Hid (Ext w1 w2) := Below.grown HXL.out hj2.ext hsL (fun k hk => (HOW.out.lt k hk).1)
      have HO2 : Hid (Ow w1.heap.size w2 x9 ([3] ++ rawH tree ++ [cp])) := hj2.ownB rfl
      have m4 := HX2.out.cell d4
      clear hj2 l3 l4
      go_wp2_with fail
      go_loopw [4, 70] (fun v i wr => ∃ k : Nat, k ≤ parents.length ∧ i = .int .i64 k ∧ Hid (Ow w1.heap.size wr v ([3] ++ rawH tree ++ [cp] ++ (parents.take k).flatMap rawH)) ∧ Hid (Ext w1 wr)) (fun _ i _ => parents.length - (intOf i).toNat)
      case atStart => exact ⟨0, Nat.zero_le _, rfl, by unfold Hid; simpa using HO2.out, HX2⟩
      case round =>
      obtain ⟨k, hk, rfl, HO, HX⟩ := hrel
      have HLN : Hid (([3] ++ rawH tree ++ [cp] ++ (parents.take k).flatMap rawH).length ≤ 1000) := by
        unfold Hid
        have h9 := raws_len parents k HPV.out
        simp only [List.length_append, List.length_cons, List.length_nil]
        omega
      by_cases hlt : k < parents.length
      · obtain ⟨x, hx⟩ : ∃ x, parents[k]? = some x := ⟨_, List.getElem?_eq_getElem hlt⟩
        obtain ⟨bb, oo, hpa, hc⟩ := HPG.out k hlt
        subst hpa
        have y1 := HX.out.cell (HX1.out.cell (hc k hlt))
        rw [show parents.getD k [] = x by rw [List.getD_eq_getElem?_getD, hx]; rfl] at y1
        have HXV : Hid (validB x = true) := List.all_eq_true.1 HPV.out x (List.mem_of_getElem? hx)
        have HTK : Hid ((parents.take (k + 1)).flatMap rawH = (parents.take k).flatMap rawH ++ rawH x) := by
          unfold Hid
          rw [List.take_add_one, hx]
          simp
        have hss := HX.out.size
        clear hx hc
        go_wp2_with fail
        go_at_call 78
        refine (hashO_any _ _ x w1.heap.size wr HO.out hss (by have := HLN.out; omega) HXV.out).mono ?_
        rintro e9 w3 ⟨v3, rfl, hown3, hg3, hn3⟩
        have HX3 : Hid (Ext w1 w3) := owns_ext_app HX.out HO.out hg3
        have HO3 : Hid (Ow w1.heap.size w3 v3 ([3] ++ rawH tree ++ [cp] ++ (parents.take (k + 1)).flatMap rawH)) := by
          unfold Hid
          rw [HTK.out, ← List.append_assoc]
          exact hown3
        clear hown3 hg3 hn3
        go_wp2_with fail
        go_roundw
        case rel => exact ⟨k + 1, by omega, by go_num, HO3, HX3⟩
        case measure => simp [intOf]; omega
      · have hkl : k = parents.length := by omega
        subst hkl
        rw [List.take_length] at HO HLN
        have n5 := HX.out.cell d5
        have n6 := HX.out.cell d6
        have n7 := HX.out.cell d7
        obtain ⟨L0, hL0⟩ : ∃ l, [3] ++ rawH tree ++ [cp] ++ parents.flatMap rawH = l := ⟨_, rfl⟩
        rw [hL0] at HO HLN
        have HL0 : Hid _ := hL0
        have hL0l := HLN.out
        have HGU : Hid (u4.ownBlock ≠ some gb) := fun e => by have := (HO.out.lt _ e).1; omega
        have hss := HX.out.size
        have hp1 := putN_len9 (n := stamp.toNat) (by unfold maxW; omega)
        have hp2 := putN_len9 (n := author.toNat) (by unfold maxW; omega)
        have hp3 := putN_len9 (n := msg.length) (by unfold maxW; omega)
        clear hL0 hk
        go_upto_region 22 with fail
        apply wp_region_inv 11 (fun z w' => ChJ wr w1.heap.size u4 0 L0 (L0 ++ putN stamp.toNat) (L0 ++ putN stamp.toNat ++ putN author.toNat) (L0 ++ putN stamp.toNat ++ putN author.toNat ++ putN msg.length) none (z 3) (z 6) (z 10) w') [false, false, false, true, false, false, true, false, false, false, true] [_, _, _, undef, _, _, undef, _, _, _, undef] [none, none, none, none, none, none, none, none, none, none, none] [[], [], [1], [0, 2], [], [4], [3, 5], [], [7], [8], [6, 9]] (by kernel_rfl) (by kernel_rfl) rfl
        · exact ChJ.start HO.out ⟨rfl, rfl, rfl, Nat.le_refl _, fun _ _ => rfl⟩
        · simp (maxSteps := 1000000) only [oblI, stepI, knowsI, getP, mixP, List.getD_cons_zero, List.getD_cons_succ, Bool.false_eq_true, if_false, if_true, and_true, true_and, forall_const, Nat.zero_add, Nat.reduceAdd, List.take_succ_cons, List.take_zero, fillFrom, Act.put, List.setIfInBounds_toArray, List.set_cons_zero, List.set_cons_succ]
          refine ⟨?_, ?_, ?_, ?_, ?_, ?_, ?_, ?_, ?_, ?_, ?_⟩
          · intro xs z wq hj R hR
            have f5 := hj.cell HGU.out n5; have f6 := hj.cell HGU.out n6; have f7 := hj.cell HGU.out n7
            go_simp
            exact hR _ _ hj rfl
          · intro xs z wq hj R hR
            have f5 := hj.cell HGU.out n5; have f6 := hj.cell HGU.out n6; have f7 := hj.cell HGU.out n7
            go_simp
            exact hR _ _ hj rfl
          · intro xs z wq hj hk R hR
            have f5 := hj.cell HGU.out n5; have f6 := hj.cell HGU.out n6; have f7 := hj.cell HGU.out n7
            go_simp
            exact hR _ _ hj rfl
          · intro xs z wq hj hz hk R hR
            obtain ⟨hk0, hk1⟩ := hk
            rw [hz] at hj
            go_simp
            exact (number_any _ L0 stamp w1.heap.size wq hj.ownZ (Nat.le_trans hss hj.size) (by omega)).mono (by rintro e' w' ⟨v', rfl, h1, h2, h3⟩; rw [put_int _ (by omega) (by unfold maxW; omega)] at h1; exact ⟨_, rfl, hR _ _ (hj.setA h1 h2 h3)⟩)
          · intro xs z wq hj R hR
            have f5 := hj.cell HGU.out n5; have f6 := hj.cell HGU.out n6; have f7 := hj.cell HGU.out n7
            go_simp
            exact hR _ _ hj rfl
          · intro xs z wq hj hk R hR
            have f5 := hj.cell HGU.out n5; have f6 := hj.cell HGU.out n6; have f7 := hj.cell HGU.out n7
            go_simp
            exact hR _ _ hj rfl
          · intro xs z wq hj hz hk R hR
            obtain ⟨hk0, hk1⟩ := hk
            rw [hz] at hj
            go_simp
            exact (number_any _ (L0 ++ putN stamp.toNat) author w1.heap.size wq (hj.ownA hk0) (Nat.le_trans hss hj.size) (by simp only [List.length_append]; omega)).mono (by rintro e' w' ⟨v', rfl, h1, h2, h3⟩; rw [put_int _ (by omega) (by unfold maxW; omega)] at h1; exact ⟨_, rfl, hR _ _ (hj.setB hk0 h1 h2 h3)⟩)
          · intro xs z wq hj R hR
            have f5 := hj.cell HGU.out n5; have f6 := hj.cell HGU.out n6; have f7 := hj.cell HGU.out n7
            go_simp
            exact hR _ _ hj rfl
          · intro xs z wq hj hk R hR
            have f5 := hj.cell HGU.out n5; have f6 := hj.cell HGU.out n6; have f7 := hj.cell HGU.out n7
            go_simp
            exact hR _ _ hj rfl
          · intro xs z wq hj hk R hR
            have f5 := hj.cell HGU.out n5; have f6 := hj.cell HGU.out n6; have f7 := hj.cell HGU.out n7
            go_simp
            exact hR _ _ hj rfl
          · intro xs z wq hj hz hk R hR
            obtain ⟨hk0, hk1⟩ := hk
            rw [hz] at hj
            go_simp
            exact (number_any _ (L0 ++ putN stamp.toNat ++ putN author.toNat) msg.length w1.heap.size wq (hj.ownB hk0) (Nat.le_trans hss hj.size) (by simp only [List.length_append]; omega)).mono (by rintro e' w' ⟨v', rfl, h1, h2, h3⟩; rw [put_nat _ (by unfold maxW; omega)] at h1; exact ⟨_, rfl, hR _ _ (hj.setC hk0 h1 h2 h3)⟩)
        intro xs w3 hj3 hk
        simp only [zAll, List.getD_cons_zero, List.getD_cons_succ, Bool.false_eq_true, if_false, if_true] at hj3
        simp only [heldI, Nat.zero_add, Nat.reduceAdd, and_true] at hk
        obtain ⟨q0, q1, q2, q4, q5, q7, q8, q9⟩ := hk
        simp (maxSteps := 1000000) only [List.drop_succ_cons, List.drop_zero, Nat.zero_add, Nat.reduceAdd, List.take_succ_cons, List.take_zero, fillFrom, Act.put, List.setIfInBounds_toArray, List.set_cons_zero, List.set_cons_succ, q0, q1, q2, q4, q5, q7, q8, q9]
        clear q0 q1 q2 q4 q5 q7 q8 q9
        generalize xs 3 = x3 at *
        generalize xs 6 = x6 at *
        generalize xs 10 = x10 at *
        have HX3 : Hid (Ext w1 w3) := Below.grown HX.out hj3.ext hss (fun k hk => (HO.out.lt k hk).1)
        have hown3 := hj3.ownC rfl
        obtain ⟨L3, hL3⟩ : ∃ l, L0 ++ putN stamp.toNat ++ putN author.toNat ++ putN msg.length = l := ⟨_, rfl⟩
        have hL3l : L3.length ≤ 1100 := by
          rw [← hL3]
          simp only [List.length_append]
          omega
        have HL3 : Hid _ := hL3
        rw [hL3] at hown3
        have HO3 : Hid (Ow w1.heap.size w3 x10 L3) := hown3
        have q7 := HX3.out.cell d7
        have hs3 := HX3.out.size
        clear hL3 hown3 hj3 n5 n6 n7
        go_wp2_with (at_builtin; go_must (refine app_tx rfl _ _ rfl rfl w1.heap.size _ L3 rfl HO3.out msg rfl (by omega) hs3 ?_; intro v' w4 hown4 hg4 hn4))
        go_ret2
        refine ⟨⟨_, rfl, ?_⟩, HX1.out.trans (owns_ext_app HX3.out HO3.out hg4)⟩
        have h9 := hown4.mono HX1.out.size
        rw [HEO.out, HL0.out, HL3.out]
        exact h9

end Go.Proofs.YtalpfoomkhhgnaaGreatDoor

/-! store: PutObj, Get, Has, Drop, Clean, Reads. Conditions: as each theorem states. -/
namespace Go.Proofs.YtalpfoomkhhgnaaGreatDoor
open Go Go.RowKit
set_option linter.unusedVariables false
set_option linter.unusedSimpArgs false
set_option linter.unusedSectionVars false

/-- How many reads a PutObj has made when it hands back. -/
def cntO (n : Int) (o : Ob) : Int := if (encodeM o).2 = 0 then cntP n (encodeM o).1 else n
variable [Inhabited BaseW] [KW : Inhabited KeptW]
end Go.Proofs.YtalpfoomkhhgnaaGreatDoor

/-! The store's calls, all blocks apart from the store's own kept. Conditions: as each theorem states. -/
namespace Go.Proofs.YtalpfoomkhhgnaaGreatDoor
open Go Go.RowKit
set_option linter.unusedVariables false
set_option linter.unusedSimpArgs false
set_option linter.unusedSectionVars false

open Classical in
noncomputable abbrev KwOf (w : World) (O : Nat → Prop) (gs gc : Nat) : Inhabited KeptW := ⟨⟨fun k => if ¬ O k ∧ k ≠ gs ∧ k ≠ gc then w.heap[k]? else none, w.heap.size⟩⟩
/-- All blocks apart from the store's own are as they were, and apart still. -/
def FrS (O O' : Nat → Prop) (gs gc : Nat) (w w' : World) : Prop := ∀ k, k < w.heap.size → ¬ O k → k ≠ gs → k ≠ gc → w'.heap[k]? = w.heap[k]? ∧ ¬ O' k
section
variable {w0 w w' : World} {S O O' : Nat → Prop} {f : Value} {gs gc : Nat} {m m' : Fs} {n n' : Int}
theorem FrS.refl (O : Nat → Prop) (gs gc : Nat) (w : World) : FrS O O gs gc w w := fun k _ hO _ _ => ⟨rfl, hO⟩
theorem FrS.trans {O1 O2 O3 : Nat → Prop} {w1 w2 w3 : World} (h : FrS O1 O2 gs gc w1 w2) (g : FrS O2 O3 gs gc w2 w3) : FrS O1 O3 gs gc w1 w3 := fun k hk hO h1 h2 => by
  obtain ⟨a, b⟩ := h k hk hO h1 h2
  have hk2 : k < w2.heap.size := by
    have : w2.heap[k]? = some (w1.heap[k]'hk) := a.trans (Array.getElem?_eq_getElem hk)
    exact (Array.getElem?_eq_some_iff.1 this).1
  obtain ⟨c, d⟩ := g k hk2 b h1 h2
  exact ⟨c.trans a, d⟩
theorem FrS.ext {w1 : World} (h : Ext w w1) : FrS O O gs gc w w1 := fun k hk hO _ _ => ⟨h.block k hk, hO⟩
theorem FrS.row (h : FrS O O' gs gc w w') {k : Nat} {o : Obj} (hk : w.heap[k]? = some o) (hO : ¬ O k) (h1 : k ≠ gs) (h2 : k ≠ gc) : w'.heap[k]? = some o ∧ ¬ O' k := by
  obtain ⟨a, b⟩ := h k (Array.getElem?_eq_some_iff.1 hk).1 hO h1 h2
  exact ⟨a.trans hk, b⟩
end
section
variable [Inhabited BaseW] [KW : Inhabited KeptW] {w0 w w' : World} {S O O' : Nat → Prop} {f : Value} {gs gc : Nat} {m m' : Fs} {n n' : Int}
end

end Go.Proofs.YtalpfoomkhhgnaaGreatDoor

/-! Maps by texts, their elements given by a function: looked up, set. Conditions: keys of at most 1000000 signs. -/
namespace Go.Proofs.YtalpfoomkhhgnaaGreatDoor
open Go Go.RowKit

def enG (V : Fi → Value) (e : B8 × Fi) : Lit × DataW Value := (.string e.1, .held (V e.2))
def datG (V : Fi → Value) (l : Files) : DataW Value := .map (l.map (enG V))
def lookG (V : Fi → Value) (z : Value) (l : Files) (p : B8) : Value := match look l p with
  | some f => V f
  | none => z
section
variable (V : Fi → Value)
theorem filter_enG (p : B8) : ∀ l : Files, (l.map (enG V)).filter (fun q => !q.1.sameKey (.string p)) = (delF l p).map (enG V)
  | [] => rfl
  | e :: l => by
    have ih := filter_enG p l
    unfold delF at ih ⊢
    have hk : (enG V e).1.sameKey (.string p) = (e.1 == p) := rfl
    rw [List.map_cons, List.filter_cons, List.filter_cons, hk]
    split
    · rw [List.map_cons, ih]
    · exact ih
theorem insert_enG (x : B8 × Fi) : ∀ l : Files, DataW.insert (enG V x) (l.map (enG V)) = (insF x l).map (enG V)
  | [] => rfl
  | y :: l => by
    rw [List.map_cons, DataW.insert, insF]
    have hb : (enG V x).1.before (enG V y).1 = ltB x.1 y.1 := before_ltB _ _
    rw [hb]
    split
    · rfl
    · rw [insert_enG x l]; rfl
theorem datG_put (l : Files) (p : B8) (f : Fi) : (datG V l).put (.string p) (.held (V f)) = datG V (putF l p f) := by
  unfold datG DataW.put putF
  simp only
  rw [filter_enG]
  have : (Lit.string p, DataW.held (V f)) = enG V (p, f) := rfl
  rw [this, insert_enG]
theorem find_enG (p : B8) : ∀ l : Files, (l.map (enG V)).find? (fun q => q.1.sameKey (.string p)) = (l.find? fun e => e.1 == p).map (enG V)
  | [] => rfl
  | e :: l => by
    have hk : (enG V e).1.sameKey (.string p) = (e.1 == p) := rfl
    rw [List.map_cons, List.find?_cons, List.find?_cons, hk]
    cases e.1 == p
    · exact find_enG p l
    · rfl
theorem datG_at (l : Files) (p : B8) (z : DataW Value) : (datG V l).atKey (.string p) z = match look l p with | some f => .held (V f) | none => z := by
  unfold datG DataW.atKey look
  simp only
  rw [find_enG]
  cases h : l.find? fun e => e.1 == p with
  | none => rfl
  | some e => rfl
theorem datG_has (l : Files) (p : B8) : Maps.has (datG V l) (.string p) = (look l p).isSome := by
  unfold datG
  rw [Maps.has_eq, Bool.eq_iff_iff, List.any_eq_true]
  unfold look
  constructor
  · rintro ⟨q, hq, hk⟩
    obtain ⟨e, he, rfl⟩ := List.mem_map.1 hq
    have : e.1 == p := hk
    rw [Option.isSome_map, List.find?_isSome]
    exact ⟨e, he, this⟩
  · intro h
    rw [Option.isSome_map, List.find?_isSome] at h
    obtain ⟨e, he, hk⟩ := h
    exact ⟨enG V e, List.mem_map.2 ⟨e, he, rfl⟩, hk⟩
end
structure IsMG (V : Fi → Value) (w : World) (b : Nat) (l : Files) : Prop where
  map : w.ownsMap Tryz.prog 9 elemV b l.length (datG V l)
theorem mg_made (V : Fi → Value) (w : World) : IsMG V (w.alloc (.map #[] 0)) w.heap.size [] := ⟨World.ownsMap_made _ _ _ _⟩
section
variable {V : Fi → Value} {w w' : World} {b : Nat} {l : Files}
theorem IsMG.stay (h : IsMG V w b l) (hb : w'.heap[b]? = w.heap[b]?) : IsMG V w' b l := by
  obtain ⟨es, clock, he, F, hs, hD⟩ := h.map
  exact ⟨es, clock, hb.trans he, F, hs, hD⟩
theorem IsMG.lt (h : IsMG V w b l) : b < w.heap.size := h.map.lt
theorem IsMG.ext (h : IsMG V w b l) (hx : Ext w w') : IsMG V w' b l := h.stay (hx.block _ h.lt)
theorem IsMG.kind (h : IsMG V w b l) : ∃ es clock, w.heap[b]? = some (.map es clock) := by
  obtain ⟨es, clock, he, _⟩ := h.map
  exact ⟨es, clock, he⟩
/-- m[p]. -/
theorem IsMG.look_run (h : IsMG V w b l) (T E : TypeId) (z : Value) (hT : Tryz.prog.underlying T = some (.map 9 E)) (hz : (zeroValue E).run Tryz.prog w = .ok z w) (p : B8) (hp : p.length ≤ 1000000) :
    (Instr.lookup T (.map (some b)) (S8 p) true).run Tryz.prog w = .ok (.tuple #[lookG V z l p, .bool (look l p).isSome]) w ∧ (Instr.lookup T (.map (some b)) (S8 p) false).run Tryz.prog w = .ok (lookG V z l p) w := by
  have h2 := h.map
  obtain ⟨v, ps, h4, h5⟩ := h2.look_ok K_str hT hz rfl (key_str p (by omega))
  obtain ⟨v', ps', h6, h7⟩ := h2.lookup K_str hT hz rfl (key_str p (by omega))
  rw [datG_at] at h5 h7
  rw [datG_has] at h4
  have hz : (match look l p with | some f => DataW.held (V f) | none => DataW.held z) = (DataW.held (lookG V z l p) : DataW Value) := by
    unfold lookG
    cases look l p <;> rfl
  rw [hz] at h5 h7
  have e1 : v = lookG V z l p := DataW.held.inj (congrArg Prod.fst (Option.some.inj h5))
  have e2 : v' = lookG V z l p := DataW.held.inj (congrArg Prod.fst (Option.some.inj h7))
  subst e1
  subst e2
  exact ⟨h4, h6⟩
end
section
variable {ops : Array Oper} {rest : List Oper} {o : Oper} {a : Act} {Q : Exit → Act → World → Prop} {w : World} {V : Fi → Value}
theorem set_mg (T E : TypeId) (hT : Tryz.prog.underlying T = some (.map 9 E)) (hgd : o.guard = none) (m x v : Operand) (hop : o.op = Op.mapUpdate T m x v) {b : Nat} {l : Files} (hf : IsMG V w b l) (hl : l.length ≤ 10000000)
    (hm : a.eval m = .map (some b)) (p : B8) (hp : p.length ≤ 1000000) (hx : a.eval x = S8 p) (f : Fi) (hv : a.eval v = V f)
    (h : ∀ w', IsMG V w' b (putF l p f) → w.grownBy w' (some b) → wpList Tryz.prog ops Q rest (a.put o.dst undef) w') : wpList Tryz.prog ops Q (o :: rest) a w := by
  refine wpList_mapUpdate_own w hgd m x v _ hop _ _ K_str hT elemV b _ _ hm hf.map (by unfold maxLen; omega) (S8 p) (V f) (.string p) hx hv (key_str p (by omega)) (.held (V f)) [] rfl ?_
  intro w' hown hg
  rw [datG_put] at hown
  refine h w' ⟨?_⟩ hg
  obtain ⟨es, clock, hb, F, hs, hD⟩ := hown
  refine ⟨es, clock, hb, F, ?_, hD⟩
  have : Maps.size (datG V (putF l p f)) = es.size := by rw [hD]; simp [Maps.size, length_sorted]
  rw [← this]
  simp [datG, Maps.size]
end

end Go.Proofs.YtalpfoomkhhgnaaGreatDoor
