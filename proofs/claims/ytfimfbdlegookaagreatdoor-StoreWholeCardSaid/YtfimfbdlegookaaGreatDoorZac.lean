/- fsim.FS: Crash. Conditions: at most 900000 ticks. -/
import Derived.Test.YtfimfbdlegookaaGreatDoorZab
import Derived.Maps.AppendAt
import Derived.Laws.LoneSync
import Derived.Deep.DeepCutAuto

set_option linter.unusedVariables false
set_option linter.unusedSimpArgs false

/-! names.Split, names.Parents; may a file stand at a path; fsim.wrong. Conditions: paths of at most 1000000 signs. -/
namespace Go.Proofs.YtfimfbdlegookaaGreatDoor
open Go Go.RowKit

theorem join_any (v : Value) (L : List B8) (sep : B8) (w : World) (hv : IsStrs w v L) (hl : (Lib.join L sep).length ≤ 140737488355328) :
    Calls Tryz.prog 226 #[v, S8 sep] w fun e w' => e = .returned (S8 (Lib.join L sep)) ∧ Ext w w' := by
  obtain ⟨a, cap, rfl, h1, h2, h3, h4⟩ := hv
  cases L with
  | nil => exact (Tryz.strings_Join_none a cap ⟨sep.toArray⟩ w).mono fun e w' ⟨he, hw⟩ => ⟨he, by rw [hw]; exact Ext.refl _⟩
  | cons x L =>
    obtain ⟨b, o, rfl, hc⟩ := h4 (by simp)
    have hm : (((x :: L).map fun l => (⟨l.toArray⟩ : ByteArray)).map (·.data.toList)) = x :: L := by
      rw [List.map_map]
      exact List.map_id _
    have h := Tryz.strings_Join b o cap ((x :: L).map fun l => (⟨l.toArray⟩ : ByteArray)) ⟨sep.toArray⟩ w (fun j y hy => hc j _ (by
      rw [List.getElem?_map] at hy ⊢
      obtain ⟨z, hz, rfl⟩ := Option.map_eq_some_iff.1 hy
      rw [hz]; rfl)) (by
        have := hc 0 _ rfl
        exact World.block_lt_of_cell? _ _ this) (by simpa using h3) (by simpa using h1) (by rw [hm]; exact hl)
    rw [hm, List.length_map] at h
    exact h

theorem join_len (sep : B8) : ∀ L : List B8, (Lib.join L sep).length ≤ (L.map List.length).sum + L.length * sep.length
  | [] => by simp [Lib.join_nil]
  | x :: L => by
    rw [Lib.join_cons]
    have : ∀ M : List B8, (Lib.joinTail sep M).length = (M.map List.length).sum + M.length * sep.length := by
      intro M
      induction M with
      | nil => simp [Lib.joinTail]
      | cons y M ih =>
        unfold Lib.joinTail at *
        simp only [List.map_cons, List.flatten_cons, List.length_append, List.sum_cons, List.length_cons, ih, Nat.add_mul]
        omega
    simp only [List.length_append, this, List.map_cons, List.sum_cons, List.length_cons, Nat.add_mul]
    omega

theorem take_sum_le : ∀ (L : List Nat) (k : Nat), (L.take k).sum ≤ L.sum
  | [], k => by simp
  | x :: L, 0 => by simp
  | x :: L, k + 1 => by have := take_sum_le L k; simp; omega

theorem join_take_le (l : B8) (k : Nat) : (Lib.join ((cut 47 l).take k) [47]).length ≤ 2 * l.length + 2 := by
  have h1 := join_len [47] ((cut 47 l).take k)
  have h2 := cut_total 47 l
  have h3 := cut_length 47 l
  have h4 := take_sum_le ((cut 47 l).map List.length) k
  rw [← List.map_take] at h4
  have h5 := List.length_take_le k (cut 47 l)
  have h6 : ((cut 47 l).take k).length ≤ (cut 47 l).length := List.length_take_le' k (cut 47 l)
  simp only [List.length_cons, List.length_nil] at h1
  omega

theorem IsStrs.take {w : World} {a : Option Addr} {L : List B8} {cap n : Nat} (h : IsStrs w (.slice a L.length cap) L) (hn : n ≤ L.length) : IsStrs w (.slice a n cap) (L.take n) := by
  obtain ⟨a', cap', he, h1, h2, h3, h4⟩ := h
  simp only [Value.slice.injEq, true_and] at he
  obtain ⟨rfl, rfl⟩ := he
  have hl : (L.take n).length = n := by rw [List.length_take]; omega
  refine ⟨a, cap, by rw [hl], by omega, h2, by omega, fun hne => ?_⟩
  obtain ⟨b, o, rfl, hc⟩ := h4 (by
    intro h0
    have : L = [] := by simpa using h0
    subst this
    simp at hne)
  refine ⟨b, o, rfl, fun i u hu => hc i u ?_⟩
  rw [List.getElem?_map] at hu ⊢
  obtain ⟨x, hx, rfl⟩ := Option.map_eq_some_iff.1 hu
  rw [List.getElem?_take] at hx
  split at hx
  · rw [hx]; rfl
  · simp at hx

def splitL (l : B8) : List B8 := if pathB l then cut 47 l else []

set_option maxRecDepth 100000 in
set_option maxHeartbeats 400000 in
theorem nsplit_any (l : B8) (w : World) (hE : Env w) (hl : l.length ≤ 1000000) :
    Calls Tryz.prog 44 #[S8 l] w fun e w' => (∃ v, e = .returned v ∧ IsStrs w' v (splitL l)) ∧ Ext w w' := by
  have HE : Hid _ := hE
  clear hE
  have hS : splitL l = if pathB l then cut 47 l else [] := rfl
  have HS : Hid _ := hS
  clear hS
  cases hp : pathB l with
  | true =>
    have HP : Hid _ := hp
    go_enter Tryz.func44, Tryz.ntmps44
    go_wp2_with (first
      | (go_at_call 66; go_must (refine (path_l l _ HE.out (by omega)).mono ?_; rintro e w2 ⟨rfl, hx2⟩))
      | (go_at_call 120; go_must (refine (split_any ⟨l.toArray⟩ 47 _ (HE.out.ext hx2) (Nat.lt_of_le_of_lt hl (by decide))).mono ?_; rintro e w3 ⟨v, rfl, hv, -, hx3⟩; have HV : Hid _ := hv; obtain ⟨a, c, rfl, -⟩ := id hv; clear hv)))
    go_ret
    exact ⟨⟨_, rfl, by rw [HS.out, if_pos HP.out]; exact HV.out⟩, hx2.trans hx3⟩
  | false =>
    have HP : Hid _ := hp
    go_enter Tryz.func44, Tryz.ntmps44
    go_wp2_with (go_at_call 66; go_must (refine (path_l l _ HE.out (by omega)).mono ?_; rintro e w2 ⟨rfl, hx2⟩))
    go_ret
    exact ⟨⟨_, rfl, by rw [HS.out, if_neg (by simp [HP.out])]; exact IsStrs.nil _⟩, hx2⟩

def parentsN (L : List B8) (k : Nat) : List B8 := (List.range k).map fun i => Lib.join (L.take (i + 1)) [47]
def parentsL (l : B8) : List B8 := parentsN (splitL l) ((splitL l).length - 1)
theorem parentsN_succ (L : List B8) (k : Nat) : parentsN L (k + 1) = parentsN L k ++ [Lib.join (L.take (k + 1)) [47]] := by
  unfold parentsN; rw [List.range_succ, List.map_append]; rfl
theorem parentsN_length (L : List B8) (k : Nat) : (parentsN L k).length = k := by simp [parentsN]

set_option maxRecDepth 100000 in
set_option maxHeartbeats 1000000 in
theorem parents_any (l : B8) (w : World) (hE : Env w) (hl : l.length ≤ 1000000) :
    Calls Tryz.prog 182 #[S8 l] w fun e w' => (∃ v, e = .returned v ∧ IsStrs w' v (parentsL l)) ∧ Ext w w' := by
  have HE : Hid _ := hE
  have hS : splitL l = [] ∨ splitL l = cut 47 l := by unfold splitL; split <;> simp
  have hlen : (splitL l).length ≤ 1000001 := by
    rcases hS with h | h
    · rw [h]; simp
    · rw [h]; have := (cut_length 47 l).2; omega
  have HJ : Hid (∀ k, (Lib.join ((splitL l).take k) [47]).length ≤ 140737488355328) := fun k => by
    rcases hS with h | h
    · rw [h, List.take_nil, Lib.join_nil]; simp
    · rw [h]; have := join_take_le l k; omega
  have HP : Hid (parentsL l = parentsN (splitL l) ((splitL l).length - 1)) := rfl
  generalize hL : splitL l = L at *
  have HL : Hid _ := hL
  clear hE hS hL
  go_enter Tryz.func182, Tryz.ntmps182
  go_wp2_with (go_at_call 44; go_must (refine (nsplit_any l _ HE.out hl).mono ?_; rw [HL.out]; rintro e w2 ⟨⟨v, rfl, hv⟩, hx2⟩; have HV : Hid _ := hv; obtain ⟨a, cap, rfl, h1, h2, h3, -⟩ := id hv; clear hv))
  go_loopw [4, 5] (fun v i wr => ∃ k : Nat, k ≤ L.length - 1 ∧ i = .int .i64 ((k + 1 : Nat) : Int) ∧ wr.ownsRow w2.heap.size 9 1 v k ((parentsN L k).map S8) ∧ Ext w2 wr) (fun _ i _ => L.length - (intOf i).toNat)
  case atStart => exact ⟨0, Nat.zero_le _, rfl, World.ownsRow_nil _ _ _ _, Ext.refl _⟩
  case round =>
    obtain ⟨k, hk, rfl, hown, hx⟩ := hrel
    have hsz := hx.size
    by_cases hlt : k + 1 < L.length
    · have i0 : (0 : Int) ≤ ((k + 1 : Nat) : Int) := by omega
      have i1 : ((k + 1 : Nat) : Int) ≤ (cap : Int) := by omega
      go_wp2_with (first
        | (go_at_call 226; go_must (refine (join_any _ (L.take (k + 1)) [47] _ (IsStrs.take (IsStrs.ext HV.out hx) (by omega)) (HJ.out _)).mono ?_; rintro e' w3 ⟨rfl, hx3⟩; have hown3 := owns_ext hown hx3; have hsz3 := hx3.size))
        | (at_builtin; go_must (refine app_str rfl _ _ rfl w2.heap.size _ k _ rfl (hown3.alloc _) w3.heap.size 1 1 [Lib.join (L.take (k + 1)) [47]] rfl rfl (alloc_at _ _) (by omega) (by simp; omega) ?_; intro v' w4 hown4 hg4)))
      go_roundw
      case rel => exact ⟨k + 1, by omega, by go_num, by rw [parentsN_succ]; exact hown4, owns_ext_app ((hx.trans hx3).alloc _) (hown3.alloc _) hg4⟩
      case measure => simp [intOf]; omega
    · have hkk : k = L.length - 1 := by omega
      have hres : IsStrs wr u4 (parentsL l) := by
        rw [HP.out, ← hkk]
        unfold IsStrs
        rw [parentsN_length]
        exact Row.of_owns hown (by omega)
      have HR : Hid _ := hres
      have hno : ¬ ((k + 1 : Nat) : Int) < (L.length : Int) := by omega
      clear hres hown hkk
      go_wp2
      go_ret
      exact ⟨⟨_, rfl, HR.out⟩, hx2.trans hx⟩

/-- May a file stand at a path, as the program asks? -/
def mayP (l : Files) (path but : B8) : Bool := !((parentsL path).any fun p => (look l p).isSome && !(p == but)) && !(dirB l path but)

theorem any_snoc_f {α : Type} {f : α → Bool} {l : List α} {k : Nat} {x : α} (hx : l[k]? = some x) (h0 : (l.take k).any f = false) (h1 : f x = false) : (l.take (k + 1)).any f = false := by
  rw [List.take_add_one, hx]
  simp only [List.any_append, h0, Option.toList_some, List.any_cons, h1, List.any_nil, Bool.or_false]

theorem parents_short (l : B8) : ∀ p ∈ parentsL l, p.length ≤ 2 * l.length + 2 := by
  intro p hp
  unfold parentsL parentsN at hp
  obtain ⟨i, _, rfl⟩ := List.mem_map.1 hp
  unfold splitL
  split
  · exact join_take_le l _
  · simp [Lib.join_nil]

set_option maxRecDepth 100000 in
set_option maxHeartbeats 2000000 in
theorem may_any {R : Nat → Prop} {w : World} {b : Nat} {l : Files} (path but : B8) (hE : Env w) (hf : IsFiles R w b l) (hp : path.length ≤ 400000) :
    Calls Tryz.prog 141 #[.map (some b), S8 path, S8 but] w fun e w' => e = .returned (.bool (mayP l path but)) ∧ Ext w w' := by
  have HE : Hid _ := hE
  have HF : Hid _ := hf
  have HS : Hid _ := parents_short path
  have hM : mayP l path but = (!((parentsL path).any fun p => (look l p).isSome && !(p == but)) && !(dirB l path but)) := rfl
  have HM : Hid _ := hM
  generalize hL : parentsL path = L at *
  have HL : Hid _ := hL
  have hdb : (⟨but.toArray⟩ : ByteArray).toList = but := Lib.toList_data _
  clear hE hf hL hM
  go_enter Tryz.func141, Tryz.ntmps141
  go_wp2_with (go_at_call 182; go_must (refine (parents_any path _ HE.out (by omega)).mono ?_; rw [HL.out]; rintro e w2 ⟨⟨v, rfl, hv⟩, hx2⟩; obtain ⟨a, cap, rfl, h1, h2, h3, h4⟩ := hv.get; have H4 : Hid _ := h4; clear h4 hv))
  go_loopw [14] (fun i wr => ∃ k : Nat, k ≤ L.length ∧ i = .int .i64 k ∧ ((L.take k).any fun p => (look l p).isSome && !(p == but)) = false ∧ Ext w2 wr) (fun i _ => L.length - (intOf i).toNat)
  case atStart => exact ⟨0, Nat.zero_le _, rfl, rfl, Ext.refl _⟩
  case round =>
    obtain ⟨k, hk, rfl, hn, hx⟩ := hrel
    have HN : Hid _ := hn
    clear hn
    by_cases hlt : k < L.length
    · obtain ⟨q, hq⟩ : ∃ q, L[k]? = some q := ⟨_, List.getElem?_eq_getElem hlt⟩
      obtain ⟨bb, o, rfl, hc⟩ := H4.out k hlt
      have hck := hx.cell (hc k hlt)
      have hgd : L.getD k [] = q := by rw [List.getD_eq_getElem?_getD, hq]; rfl
      rw [hgd] at hck
      have hql := HS.out q (List.mem_of_getElem? hq)
      have hdq : (⟨q.toArray⟩ : ByteArray).toList = q := Lib.toList_data _
      have HQ : Hid _ := hq
      obtain ⟨v, hrun, -, hv1, hv2⟩ := (HF.out.ext (hx2.trans hx)).look_run q (by omega)
      clear hc hgd hq
      cases hlk : look l q with
      | none =>
        rw [hlk] at hrun
        obtain rfl := hv2 hlk
        have HLK : Hid _ := hlk
        clear hv1 hv2 hlk
        simp only [Option.isSome_none] at hrun
        go_wp2
        go_roundw
        case rel => exact ⟨k + 1, by omega, by go_num, any_snoc_f HQ.out HN.out (by rw [HLK.out]; rfl), hx.alloc _⟩
        case measure => simp [intOf]; omega
      | some f =>
        rw [hlk] at hrun
        obtain ⟨sv, rfl, hsv⟩ := hv1 f hlk
        obtain ⟨s1, s2, rfl, -⟩ := hsv.bytes
        have HLK : Hid _ := hlk
        clear hv1 hv2 hlk hsv
        simp only [Option.isSome_some] at hrun
        by_cases hqb : q = but
        · have hbe : (q == but) = true := by simpa using hqb
          have HQB : Hid _ := hqb
          clear hqb
          go_wp2
          go_roundw
          case rel => exact ⟨k + 1, by omega, by go_num, any_snoc_f HQ.out HN.out (by rw [HQB.out]; simp), hx.alloc _⟩
          case measure => simp [intOf]; omega
        · have hbe : (q == but) = false := by simpa using hqb
          have hno : mayP l path but = false := by
            rw [HM.out]
            have : (L.any fun p => (look l p).isSome && !(p == but)) = true := List.any_eq_true.2 ⟨q, List.mem_of_getElem? HQ.out, by rw [HLK.out, hbe]; rfl⟩
            rw [this]; rfl
          have HNO : Hid _ := hno
          clear hno hqb
          go_wp2
          go_ret
          exact ⟨ret_b HNO.out.symm, hx2.trans (hx.alloc _)⟩
    · have hall : (L.any fun p => (look l p).isSome && !(p == but)) = false := by
        have := HN.out
        rwa [List.take_of_length_le (by omega)] at this
      have hmm : mayP l path but = !(dirB l path but) := by rw [HM.out, hall]; rfl
      have HMM : Hid _ := hmm
      clear hall hmm
      go_wp2_with (go_at_call 183; go_must (refine (dir_any path but (HF.out.ext (hx2.trans hx)) (by omega)).mono ?_; rintro e w3 ⟨rfl, hx3⟩))
      go_ret
      exact ⟨ret_b HMM.out.symm, hx2.trans (hx.trans hx3)⟩

set_option maxRecDepth 100000 in
set_option maxHeartbeats 1000000 in
theorem wrong_any (path : B8) (mode : Int) (v : Value) (data : B8) (w : World) (hE : Env w) (hv : IsBytes w v data) (hp : path.length ≤ 1000000) :
    Calls Tryz.prog 54 #[S8 path, .int .i64 mode, v] w fun e w' => e = .returned (.int .i64 (wrongE path mode data)) ∧ Ext w w' := by
  obtain ⟨a, c, rfl, h1, h2, h3, -⟩ := hv.get
  have HE : Hid _ := hE
  have hW : wrongE path mode data = if pathB path = false then 6 else if mode < 1 ∨ 3 < mode then 1 else if 20000 < data.length then 3 else 0 := rfl
  have HW : Hid _ := hW
  clear hE hv hW
  go_enter Tryz.func54, Tryz.ntmps54
  cases hp1 : pathB path with
  | false =>
    have HP : Hid _ := hp1
    go_wp2_with (go_at_call 66; go_must (refine (path_l path _ HE.out (by omega)).mono ?_; rintro e w2 ⟨rfl, hx2⟩))
    go_ret
    exact ⟨ret_i (by rw [HW.out, if_pos HP.out]), hx2⟩
  | true =>
    have HP : Hid _ := hp1
    by_cases hm1 : mode < 1
    · go_wp2_with (go_at_call 66; go_must (refine (path_l path _ HE.out (by omega)).mono ?_; rintro e w2 ⟨rfl, hx2⟩))
      go_ret
      exact ⟨ret_i (by rw [HW.out, if_neg (by simp [HP.out]), if_pos (by omega)]), hx2⟩
    · by_cases hm3 : 3 < mode
      · go_wp2_with (go_at_call 66; go_must (refine (path_l path _ HE.out (by omega)).mono ?_; rintro e w2 ⟨rfl, hx2⟩))
        go_ret
        exact ⟨ret_i (by rw [HW.out, if_neg (by simp [HP.out]), if_pos (by omega)]), hx2⟩
      · by_cases hd : 20000 < data.length
        · have hdi : (20000 : Int) < (data.length : Int) := by omega
          go_wp2_with (go_at_call 66; go_must (refine (path_l path _ HE.out (by omega)).mono ?_; rintro e w2 ⟨rfl, hx2⟩))
          go_ret
          exact ⟨ret_i (by rw [HW.out, if_neg (by simp [HP.out]), if_neg (by omega), if_pos hd]), hx2⟩
        · have hdi : ¬ (20000 : Int) < (data.length : Int) := by omega
          go_wp2_with (go_at_call 66; go_must (refine (path_l path _ HE.out (by omega)).mono ?_; rintro e w2 ⟨rfl, hx2⟩))
          go_ret
          exact ⟨ret_i (by rw [HW.out, if_neg (by simp [HP.out]), if_neg (by omega), if_neg hd]), hx2⟩

end Go.Proofs.YtfimfbdlegookaaGreatDoor

/-! fsim.FS: does: a change is done. Conditions: at most 1000000 files, changes, ticks. -/
namespace Go.Proofs.YtfimfbdlegookaaGreatDoor
open Go Go.RowKit

theorem info_ch : (Tryz.prog.info? 126).map (fun i => (i.zero, i.size, i.bytes)) = some (some (.agg #[S8 [], S8 [], .bool false, .int .i64 0, .slice none 0 0, .int .i64 0]), 6, 80) := by kernel_rfl
theorem size_int : (Tryz.prog.info? 3).map (·.size) = some 1 := by kernel_rfl
theorem size_bytes : (Tryz.prog.info? 31).map (·.size) = some 1 := by kernel_rfl
theorem size_chs : (Tryz.prog.info? 100).map (·.size) = some 1 := by kernel_rfl
theorem size_evs : (Tryz.prog.info? 32).map (·.size) = some 1 := by kernel_rfl
theorem size_map : (Tryz.prog.info? 99).map (·.size) = some 1 := by kernel_rfl
theorem size_bool : (Tryz.prog.info? 4).map (·.size) = some 1 := by kernel_rfl
theorem size_fi : (Tryz.prog.info? 76).map (·.size) = some 3 := by kernel_rfl
section
variable {ops : Array Oper} {rest : List Oper} {o : Oper} {a : Act} {Q : Exit → Act → World → Prop} {w : World}
/-- append of one change. -/
theorem app_ch (hgd : o.guard = none) (s x : Operand) (ho : o.op = .call { callee := .builtin .append, args := #[s, x], argTypes := #[100, 100] })
    (base : Nat) (v : Value) (n : Nat) (xs : List Value) (hs : a.eval s = v) (hown : w.ownsRow base 126 6 v n xs)
    (g c : Nat) (news : List Value) (hx : a.eval x = .slice (some ⟨g, 0, none⟩) 1 c) (hl : news.length = 6) {fr : Nat × Nat} (hg : w.heap[g]? = some (.cells news.toArray 126 fr)) (h1 : news.all (·.oneCell') = true)
    (hb : n ≤ 10000000) (hbase : base ≤ w.heap.size)
    (h : ∀ v' w', w'.ownsRow base 126 6 v' (n + 1) (xs ++ news) → w.grownBy w' v.ownBlock → (∀ k, v'.ownBlock = some k → v.ownBlock = some k ∨ w.heap.size ≤ k) → wpList Tryz.prog ops Q rest (a.put o.dst v') w') : wpList Tryz.prog ops Q (o :: rest) a w := by
  obtain ⟨i0, hi, hz0, hz1, hz2⟩ := info_parts info_ch
  exact wpList_append_own_at w hgd s x _ ho base _ i0 _ 6 80 Tryz.underlying100 hi hz0 hz1 hz2 rfl (by omega) v n xs hs hown ⟨g, 0, none⟩ 1 c news hx (by simpa using hl) (by simpa using news_of_block hg) (fun u hu => List.all_eq_true.1 h1 u hu) (by unfold maxLen; omega) (by omega) hbase
    (fun v' w' h1 h2 _ h4 => h v' w' h1 h2 (fun k hk => by
      rcases h4 with h4 | h4
      · exact .inl (h4.symm.trans hk)
      · rw [h4] at hk; simp only [Option.some.injEq] at hk; exact .inr (by omega)))
end

theorem OwnL.app {α : Type} {w' : World} {t : TypeId} {size : Nat} {p q : List Value → α → Prop} {v' : Value} {xs : List α} {css : List (List Value)} {c : List Value} {x : α} (he : Each p css xs)
    (hn : w'.ownsRow 0 t size v' (xs.length + 1) (css.flatten ++ c)) (hpq : ∀ c x, p c x → q c x) (hc : q c x) : OwnL w' t size q v' (xs ++ [x]) :=
  ⟨css ++ [c], by rw [List.flatten_append]; simpa using hn, (he.imp hpq).snoc hc⟩

set_option maxRecDepth 100000 in
set_option maxHeartbeats 4000000 in
theorem does_put {S O R : Nat → Prop} {w : World} {p : Value} {m : Fs} (q : B8) (f : Fi) (sv : Value) (h : IsFs S O R w p m) (hq : q.length ≤ 1000000) (hd : IsData R w sv f.data) (hl : m.now.length ≤ 1000000) (hpl : m.pend.length ≤ 1000000) (ht : m.time ≤ 1000000) :
    Calls Tryz.prog 142 #[p, .agg #[S8 q, S8 [], .bool true, .int .i64 f.mode, sv, .int .i64 f.time]] w fun e w' => e = .returned (.tuple #[]) ∧ IsFs S (Nw O w w') (Nw R w w') w' p (does m (.put q f)) ∧ Fr O w w' := by
  obtain ⟨g, gm, gd, vp, vl, vu, L, c0, rfl, hg, hO, hP, hpl1, hc0⟩ := h
  obtain ⟨s1, s2, rfl, -⟩ := hd.bytes
  have hx1 : Ext w (w.alloc (.cells #[S8 q, S8 [], .bool true, .int .i64 f.mode, .slice s1 f.data.length s2, .int .i64 f.time] 126)) := (Ext.refl w).alloc _
  have hg1 := Ext.row hx1 hg
  have hb1 := alloc_at w (.cells #[S8 q, S8 [], .bool true, .int .i64 f.mode, .slice s1 f.data.length s2, .int .i64 f.time] 126)
  have hgl := (Array.getElem?_eq_some_iff.1 hg).1
  obtain ⟨d0, d1, d2, d3, d4, d5, d6, d7, d8⟩ := cellsAt9 hg1
  have hbne : w.heap.size ≠ g := by omega
  have HD : Hid _ := hd
  have HX1 : Hid _ := hx1
  have HP : Hid _ := hP
  have HG : Hid _ := hg
  have HG1 : Hid _ := hg1
  have HB1 : Hid _ := hb1
  clear hd hx1 hP hg hg1 hb1
  go_enter Tryz.func142, Tryz.ntmps142
  go_wp2_with (first
    | (refine store_field rfl 3 (.tmp 10) (.tmp 8) rfl g 7 rfl (.int .i64 ((m.time : Int) + 1)) rfl rfl _ _ HG1.out (Nat.le_of_ble_eq_true rfl) size_int (fsCells m.room gm gd vp vl m.calls vu (m.time + 1) m.down) (by simp) ?_; intro w2 hg2 hgr2; obtain ⟨a0, a1, a2, a3, a4, a5, a6, a7, a8⟩ := cellsAt9 hg2; have hb2 := but_row hgr2 HB1.out hbne; obtain ⟨b0, b1, b2, b3, b4, b5⟩ := cellsAt6 hb2; clear d0 d1 d2 d3 d4 d5 d6 d7 d8)
    | (refine store_field rfl 3 (.tmp 18) (.tmp 16) rfl w.heap.size 5 rfl (.int .i64 ((m.time + 1 : Nat) : Int)) rfl rfl _ _ hb2 (Nat.le_of_ble_eq_true rfl) size_int #[S8 q, S8 [], .bool true, .int .i64 f.mode, .slice s1 f.data.length s2, .int .i64 ((m.time + 1 : Nat) : Int)] (by simp) ?_; intro w3 hb3 hgr3; have hg3 := but_row hgr3 hg2 (Ne.symm hbne); obtain ⟨e0, e1, e2, e3, e4, e5, e6, e7, e8⟩ := cellsAt9 hg3; obtain ⟨f0, f1, f2, f3, f4, f5⟩ := cellsAt6 hb3; clear a0 a1 a2 a3 a4 a5 a6 a7 a8 b0 b1 b2 b3 b4 b5))
  go_frame
  apply wp_region_mix 5 [_, _, _, _, .agg #[S8 q, S8 [], .bool true, .int .i64 f.mode, .slice s1 f.data.length s2, .int .i64 ((m.time + 1 : Nat) : Int)]] [none, none, none, none, none] [[], [0], [1], [2], []] (by kernel_rfl) (by kernel_rfl) (by simp [mixV])
  · trivial
  · simp (maxSteps := 1000000) only [List.take_succ_cons, List.take_zero, oblFrom, stepObl, fillFrom, Act.put, List.setIfInBounds_toArray, List.set_cons_zero, List.set_cons_succ, knows, getV, mixV, List.getD_cons_zero, List.getD_cons_succ, and_true, true_and, forall_const]
    refine ⟨?_, ?_, ?_, ?_, ?_⟩
    · intro xs wq hq R hR
      have c1 := hq.cell e1; have c2 := hq.cell f0; have c3 := hq.cell f1; have c4 := hq.cell f2; have c5 := hq.cell f3; have c6 := hq.cell f4; have c7 := hq.cell f5
      go_simp
      exact hR _ _ (Ext.refl _) rfl
    · intro xs wq hq hk R hR
      have c1 := hq.cell e1; have c2 := hq.cell f0; have c3 := hq.cell f1; have c4 := hq.cell f2; have c5 := hq.cell f3; have c6 := hq.cell f4; have c7 := hq.cell f5
      go_simp
      exact hR _ _ (Ext.refl _) rfl
    · intro xs wq hq hk R hR
      have c1 := hq.cell e1; have c2 := hq.cell f0; have c3 := hq.cell f1; have c4 := hq.cell f2; have c5 := hq.cell f3; have c6 := hq.cell f4; have c7 := hq.cell f5
      go_simp
      exact hR _ _ (Ext.refl _) rfl
    · intro xs wq hq hk R hR
      have c1 := hq.cell e1; have c2 := hq.cell f0; have c3 := hq.cell f1; have c4 := hq.cell f2; have c5 := hq.cell f3; have c6 := hq.cell f4; have c7 := hq.cell f5
      go_simp
      exact hR _ _ (Ext.refl _) rfl
    · intro xs wq hq R hR
      have c1 := hq.cell e1; have c2 := hq.cell f0; have c3 := hq.cell f1; have c4 := hq.cell f2; have c5 := hq.cell f3; have c6 := hq.cell f4; have c7 := hq.cell f5
      go_simp
      exact hR _ _ (Ext.refl _) rfl
  intro xs w4 hx4 hk
  simp only [heldV, Nat.zero_add, Nat.reduceAdd, and_true] at hk
  obtain ⟨q0, q1, q2, q3, q4⟩ := hk
  simp (maxSteps := 1000000) only [List.take_succ_cons, List.take_zero, List.drop_succ_cons, List.drop_zero, fillFrom, Act.put, List.setIfInBounds_toArray, List.set_cons_zero, List.set_cons_succ, Nat.zero_add, Nat.reduceAdd, q0, q1, q2, q3, q4]
  clear q0 q1 q2 q3 q4
  have hW3 := (grown_ext HX1.out hgr2).andThen hgr3 (fun j hj => .inl (by cases hj; exact Nat.le_refl _))
  have hP4 := (HP.out.own HG.out hW3).ext hx4
  have hW4 := ext_grown hW3 hx4
  have hg4 := Ext.row hx4 hg3
  have hb4 := Ext.row hx4 hb3
  have hd4 : IsData R w4 (.slice s1 f.data.length s2) f.data := HD.out.keepR (grownR hW4 (by rintro k hk; simp at hk; subst hk; exact cells_u8 HG.out (by kernel_rfl)))
  have hs4 := hx4.size
  have HP4 : Hid _ := hP4
  have HD4 : Hid _ := hd4
  clear hP4 hd4 e0 e1 e2 e3 e4 e5 e6 e7 e8 f0 f1 f2 f3 f4 f5
  go_wp2_with (go_at_call 74; go_must (refine (make_put q { f with time := ((m.time + 1 : Nat) : Int) } (.slice s1 f.data.length s2) HP4.out.now hq HD4.out (by omega)).mono ?_; rintro e w5 ⟨rfl, hf5, hg5⟩; have hne5 := apart_kind hg4 (by exact (HP4.out.now.kind).choose_spec.choose_spec) (by simp); have hne6 := apart_kind hb4 (by exact (HP4.out.now.kind).choose_spec.choose_spec) (by simp); have hgg5 := but_row hg5 hg4 hne5; have hbb5 := but_row hg5 hb4 hne6; obtain ⟨e0, e1, e2, e3, e4, e5, e6, e7, e8⟩ := cellsAt9 hgg5; obtain ⟨f0, f1, f2, f3, f4, f5⟩ := cellsAt6 hbb5))
  have hP5 := HP4.out.mapNow hg5 hf5
  have hW5 : w.grownBy w5 none ∨ True := .inr trivial
  have HP5 : Hid _ := hP5
  obtain ⟨css, hown5, heach5⟩ := HP5.out.pend
  obtain ⟨pa, pc, rfl, -⟩ := Row.of_owns hown5 (by omega)
  have HE5 : Hid _ := heach5
  have hfr5 : Fr O w w5 := ((Fr.refl O w).step hW3 (fun k hk => by cases hk; exact .inl hO) (by rintro k hk; cases hk; exact cells_u8 HG.out (by kernel_rfl))).ext hx4 |>.step hg5 (fun k hk => by cases hk; exact .inl HP.out.om) (by rintro k hk; cases hk; exact HP4.out.now.notU8)
  clear hP5 hW5 heach5
  apply wp_region_free 7 0 (.pointer (some ⟨g, 0, none⟩)) [.pointer (some ⟨g, 0, none⟩), _, _, _, _, .agg #[S8 q, S8 [], .bool true, .int .i64 f.mode, .slice s1 f.data.length s2, .int .i64 ((m.time : Int) + 1)], undef] [none, none, none, none, none, none, some (fun u w' => ∃ k, u = .slice (some ⟨k, 0, none⟩) 1 1 ∧ w'.heap[k]? = some (.cells #[S8 q, S8 [], .bool true, .int .i64 f.mode, .slice s1 f.data.length s2, .int .i64 ((m.time : Int) + 1)] 126 (0, 0)))] [[], [], [1], [2], [3], [], [5]] (by kernel_rfl) (by kernel_rfl) (by simp [mixV])
  · refine ⟨?_, trivial⟩
    · exact fun _ _ _ he ⟨k, h1, h3⟩ => ⟨k, h1, he.row h3⟩
  · exact ⟨_, rfl, rfl, fun w => by go_simp⟩
  · exact fun _ => rfl
  · simp (maxSteps := 1000000) only [List.take_succ_cons, List.take_zero, oblFrom, stepObl, fillFrom, Act.put, List.setIfInBounds_toArray, List.set_cons_zero, List.set_cons_succ, knows, getV, mixV, List.getD_cons_zero, List.getD_cons_succ, and_true, true_and, forall_const]
    refine ⟨?_, ?_, ?_, ?_, ?_, ?_, ?_⟩
    · intro xs wq hq R hR
      have c1 := hq.cell e3; have c2 := hq.cell f0; have c3 := hq.cell f1; have c4 := hq.cell f2; have c5 := hq.cell f3; have c6 := hq.cell f4; have c7 := hq.cell f5
      go_simp
      exact hR _ _ (Ext.refl _) rfl
    · intro xs wq hq R hR
      have c1 := hq.cell e3; have c2 := hq.cell f0; have c3 := hq.cell f1; have c4 := hq.cell f2; have c5 := hq.cell f3; have c6 := hq.cell f4; have c7 := hq.cell f5
      go_simp
      exact hR _ _ (Ext.refl _) rfl
    · intro xs wq hq hk R hR
      have c1 := hq.cell e3; have c2 := hq.cell f0; have c3 := hq.cell f1; have c4 := hq.cell f2; have c5 := hq.cell f3; have c6 := hq.cell f4; have c7 := hq.cell f5
      go_simp
      exact hR _ _ (Ext.refl _) rfl
    · intro xs wq hq hk R hR
      have c1 := hq.cell e3; have c2 := hq.cell f0; have c3 := hq.cell f1; have c4 := hq.cell f2; have c5 := hq.cell f3; have c6 := hq.cell f4; have c7 := hq.cell f5
      go_simp
      exact hR _ _ (Ext.refl _) rfl
    · intro xs wq hq hk R hR
      have c1 := hq.cell e3; have c2 := hq.cell f0; have c3 := hq.cell f1; have c4 := hq.cell f2; have c5 := hq.cell f3; have c6 := hq.cell f4; have c7 := hq.cell f5
      go_simp
      exact hR _ _ (Ext.refl _) rfl
    · intro xs wq hq R hR
      have c1 := hq.cell e3; have c2 := hq.cell f0; have c3 := hq.cell f1; have c4 := hq.cell f2; have c5 := hq.cell f3; have c6 := hq.cell f4; have c7 := hq.cell f5
      go_simp
      exact hR _ _ (Ext.refl _) rfl
    · intro xs wq hq hk R hR
      go_simp
      exact hR _ _ ((Ext.refl _).alloc _) ⟨_, rfl, alloc_at _ _⟩
  intro xs w6 hx6 hk
  simp only [heldV, Nat.zero_add, Nat.reduceAdd, and_true] at hk
  obtain ⟨q0, q1, q2, q3, q4, q5, q6⟩ := hk
  simp (maxSteps := 1000000) only [List.take_succ_cons, List.take_zero, List.drop_succ_cons, List.drop_zero, fillFrom, Act.put, List.setIfInBounds_toArray, List.set_cons_zero, List.set_cons_succ, Nat.zero_add, Nat.reduceAdd, q0, q1, q2, q3, q4, q5]
  clear q0 q1 q2 q3 q4 q5
  generalize xs 6 = x6 at *
  obtain ⟨k6, rfl, hk6⟩ := q6
  have hown6 := owns_ext hown5 hx6
  have hgg6 := Ext.row hx6 hgg5
  have hP6 := HP5.out.ext hx6
  have HP6 : Hid _ := hP6
  clear hown5 hP6 e0 e1 e2 e3 e4 e5 e6 e7 e8 f0 f1 f2 f3 f4 f5
  go_wp2_with (first
    | (at_builtin; go_must (refine app_ch rfl _ _ rfl 0 _ m.pend.length _ rfl hown6 k6 1 _ rfl rfl hk6 (by simp [Value.oneCell']) (by omega) (Nat.zero_le _) ?_; intro v7 w7 hown7 hgr7 hwh7; obtain ⟨va, vc, rfl⟩ := owns_some hown7 (by omega); have hgg7 : w7.heap[g]? = _ := (hgr7.block g (Array.getElem?_eq_some_iff.1 hgg6).1 (fun heq => by obtain ⟨cs9, fr9, hx9⟩ := HP6.out.pend.typed g heq.symm; rw [hgg6] at hx9; simp at hx9)).trans hgg6))
    | (refine store_field rfl 100 (.tmp 34) (.tmp 32) rfl g 3 rfl (.slice (some ⟨va, 0, none⟩) (m.pend.length + 1) vc) rfl rfl _ _ hgg7 (Nat.le_of_ble_eq_true rfl) size_chs (fsCells m.room gm gd (.slice (some ⟨va, 0, none⟩) (m.pend.length + 1) vc) vl m.calls vu (m.time + 1) m.down) (by simp) ?_; intro w8 hg8 hgr8))
  refine NoP.intro ?_
  go_end0
  have hsz : w.heap.size ≤ w6.heap.size := by have := hW4.size; have := hg5.size; have := hx6.size; omega
  have hu6 : ∀ k, Value.ownBlock (.slice pa m.pend.length pc) = some k → ¬ IsU8 w6 k := fun k hk => by
    obtain ⟨cs9, fr9, hx9⟩ := HP6.out.pend.typed k hk
    exact cells_u8 hx9 (by kernel_rfl)
  have k67 : KeepR (On R w.heap.size) w6 w7 := grownR hgr7 hu6
  have k57 : KeepR R w5 w7 := by
    have a := KeepR.of_keep (R := R) (KeepB.of_ext hx6)
    have b : KeepR R w6 w7 := grownR hgr7 hu6
    exact KeepR.trans a b
  have hd7 : IsData R w7 (.slice s1 f.data.length s2) f.data := (HD4.out.keepR (grown_keepR hg5 HP4.out.now.notU8)).keepR k57
  have hc7 : IsCh (On R w.heap.size) w7 [S8 q, S8 [], .bool true, .int .i64 f.mode, .slice s1 f.data.length s2, .int .i64 ((m.time : Int) + 1)] (.put q { f with time := ((m.time + 1 : Nat) : Int) }) :=
    ⟨hq, _, rfl, hd7.mono (fun k hk => .inl hk)⟩
  have hn7 : OwnL w7 126 6 (IsCh (On R w.heap.size) w7) (.slice (some ⟨va, 0, none⟩) (m.pend.length + 1) vc) (m.pend ++ [.put q { f with time := ((m.time + 1 : Nat) : Int) }]) :=
    OwnL.app HE5.out hown7 (fun c x hx => (hx.keepR k57).mono (fun k hk => .inl hk)) hc7
  have hP7 := (HP6.out.mono (O' := On O w.heap.size) (R' := On R w.heap.size) (fun k hk => .inl hk) (fun k hk => .inl hk)).appPend hgr7 hn7 (fun k hk => by
    rcases hwh7 k hk with h1 | h1
    · exact .inl (HP6.out.op k h1)
    · exact .inr (by omega))
  refine ⟨rfl, IsFs.fit ⟨g, gm, gd, _, vl, vu, L, c0, rfl, hg8, .inl hO, hP7.own hgg7 hgr8, hpl1, hc0⟩, ?_⟩
  exact ((hfr5.ext hx6).step hgr7 (fun k hk => .inl (HP6.out.op k hk)) hu6).step hgr8 (fun k hk => by cases hk; exact .inl hO) (by rintro k hk; cases hk; exact cells_u8 hgg7 (by kernel_rfl))

set_option maxRecDepth 100000 in
set_option maxHeartbeats 4000000 in
theorem does_other {S O R : Nat → Prop} {w : World} {p : Value} {m : Fs} (x y : B8) (c : Ch) (h : IsFs S O R w p m) (hc : ∀ R w, IsCh R w [S8 x, S8 y, .bool false, .int .i64 0, .slice none 0 0, .int .i64 0] c) (hat : ∀ t, c.at t = c) (hmv : ∀ s d, c = .mv s d → (look m.now s).isSome = true) (hl : m.now.length ≤ 1000000) (hpl : m.pend.length ≤ 1000000) (ht : m.time ≤ 1000000) :
    Calls Tryz.prog 142 #[p, .agg #[S8 x, S8 y, .bool false, .int .i64 0, .slice none 0 0, .int .i64 0]] w fun e w' => e = .returned (.tuple #[]) ∧ IsFs S (Nw O w w') (Nw R w w') w' p (does m c) ∧ Fr O w w' := by
  obtain ⟨g, gm, gd, vp, vl, vu, L, c0, rfl, hg, hO, hP, hpl1, hc0⟩ := h
  have hx1 : Ext w (w.alloc (.cells #[S8 x, S8 y, .bool false, .int .i64 0, .slice none 0 0, .int .i64 0] 126)) := (Ext.refl w).alloc _
  have hg1 := Ext.row hx1 hg
  have hb1 := alloc_at w (.cells #[S8 x, S8 y, .bool false, .int .i64 0, .slice none 0 0, .int .i64 0] 126)
  have hgl := (Array.getElem?_eq_some_iff.1 hg).1
  obtain ⟨d0, d1, d2, d3, d4, d5, d6, d7, d8⟩ := cellsAt9 hg1
  have hbne : w.heap.size ≠ g := by omega
  have HC : Hid _ := hc
  have HAT : Hid _ := hat
  have HMV : Hid _ := hmv
  have HX1 : Hid _ := hx1
  have HP : Hid _ := hP
  have HG : Hid _ := hg
  have HG1 : Hid _ := hg1
  have HB1 : Hid _ := hb1
  clear hc hat hmv hx1 hP hg hg1 hb1
  go_enter Tryz.func142, Tryz.ntmps142
  go_wp2_with ((refine store_field rfl 3 (.tmp 10) (.tmp 8) rfl g 7 rfl (.int .i64 ((m.time : Int) + 1)) rfl rfl _ _ HG1.out (Nat.le_of_ble_eq_true rfl) size_int (fsCells m.room gm gd vp vl m.calls vu (m.time + 1) m.down) (by simp) ?_; intro w2 hg2 hgr2; obtain ⟨a0, a1, a2, a3, a4, a5, a6, a7, a8⟩ := cellsAt9 hg2; have hb2 := but_row hgr2 HB1.out hbne; obtain ⟨b0, b1, b2, b3, b4, b5⟩ := cellsAt6 hb2; clear d0 d1 d2 d3 d4 d5 d6 d7 d8))
  apply wp_region_mix 5 [_, _, _, _, .agg #[S8 x, S8 y, .bool false, .int .i64 0, .slice none 0 0, .int .i64 0]] [none, none, none, none, none] [[], [0], [1], [2], []] (by kernel_rfl) (by kernel_rfl) (by simp [mixV])
  · trivial
  · simp (maxSteps := 1000000) only [List.take_succ_cons, List.take_zero, oblFrom, stepObl, fillFrom, Act.put, List.setIfInBounds_toArray, List.set_cons_zero, List.set_cons_succ, knows, getV, mixV, List.getD_cons_zero, List.getD_cons_succ, and_true, true_and, forall_const]
    refine ⟨?_, ?_, ?_, ?_, ?_⟩
    · intro xs wq hq R hR
      have c1 := hq.cell a1; have c2 := hq.cell b0; have c3 := hq.cell b1; have c4 := hq.cell b2; have c5 := hq.cell b3; have c6 := hq.cell b4; have c7 := hq.cell b5
      go_simp
      exact hR _ _ (Ext.refl _) rfl
    · intro xs wq hq hk R hR
      have c1 := hq.cell a1; have c2 := hq.cell b0; have c3 := hq.cell b1; have c4 := hq.cell b2; have c5 := hq.cell b3; have c6 := hq.cell b4; have c7 := hq.cell b5
      go_simp
      exact hR _ _ (Ext.refl _) rfl
    · intro xs wq hq hk R hR
      have c1 := hq.cell a1; have c2 := hq.cell b0; have c3 := hq.cell b1; have c4 := hq.cell b2; have c5 := hq.cell b3; have c6 := hq.cell b4; have c7 := hq.cell b5
      go_simp
      exact hR _ _ (Ext.refl _) rfl
    · intro xs wq hq hk R hR
      have c1 := hq.cell a1; have c2 := hq.cell b0; have c3 := hq.cell b1; have c4 := hq.cell b2; have c5 := hq.cell b3; have c6 := hq.cell b4; have c7 := hq.cell b5
      go_simp
      exact hR _ _ (Ext.refl _) rfl
    · intro xs wq hq R hR
      have c1 := hq.cell a1; have c2 := hq.cell b0; have c3 := hq.cell b1; have c4 := hq.cell b2; have c5 := hq.cell b3; have c6 := hq.cell b4; have c7 := hq.cell b5
      go_simp
      exact hR _ _ (Ext.refl _) rfl
  intro xs w4 hx4 hk
  simp only [heldV, Nat.zero_add, Nat.reduceAdd, and_true] at hk
  obtain ⟨q0, q1, q2, q3, q4⟩ := hk
  simp (maxSteps := 1000000) only [List.take_succ_cons, List.take_zero, List.drop_succ_cons, List.drop_zero, fillFrom, Act.put, List.setIfInBounds_toArray, List.set_cons_zero, List.set_cons_succ, Nat.zero_add, Nat.reduceAdd, q0, q1, q2, q3, q4]
  clear q0 q1 q2 q3 q4
  have hW3 := grown_ext HX1.out hgr2
  have hP4 := (HP.out.own HG.out hW3).ext hx4
  have hW4 := ext_grown hW3 hx4
  have hg4 := Ext.row hx4 hg2
  have hb4 := Ext.row hx4 hb2
  have hs4 := hx4.size
  have HP4 : Hid _ := hP4
  clear hP4 a0 a1 a2 a3 a4 a5 a6 a7 a8 b0 b1 b2 b3 b4 b5
  go_wp2_with (go_at_call 74; go_must (refine (make_any c [S8 x, S8 y, .bool false, .int .i64 0, .slice none 0 0, .int .i64 0] HP4.out.now (HC.out _ _) HMV.out (by omega)).mono ?_; rintro e w5 ⟨rfl, hf5, hg5⟩; have hne5 := apart_kind hg4 (by exact (HP4.out.now.kind).choose_spec.choose_spec) (by simp); have hne6 := apart_kind hb4 (by exact (HP4.out.now.kind).choose_spec.choose_spec) (by simp); have hgg5 := but_row hg5 hg4 hne5; have hbb5 := but_row hg5 hb4 hne6; obtain ⟨e0, e1, e2, e3, e4, e5, e6, e7, e8⟩ := cellsAt9 hgg5; obtain ⟨f0, f1, f2, f3, f4, f5⟩ := cellsAt6 hbb5))
  have hP5 := HP4.out.mapNow hg5 hf5
  have hW5 : w.grownBy w5 none ∨ True := .inr trivial
  have HP5 : Hid _ := hP5
  obtain ⟨css, hown5, heach5⟩ := HP5.out.pend
  obtain ⟨pa, pc, rfl, -⟩ := Row.of_owns hown5 (by omega)
  have HE5 : Hid _ := heach5
  have hfr5 : Fr O w w5 := ((Fr.refl O w).step hW3 (fun k hk => by cases hk; exact .inl hO) (by rintro k hk; cases hk; exact cells_u8 HG.out (by kernel_rfl))).ext hx4 |>.step hg5 (fun k hk => by cases hk; exact .inl HP.out.om) (by rintro k hk; cases hk; exact HP4.out.now.notU8)
  clear hP5 hW5 heach5
  apply wp_region_free 7 0 (.pointer (some ⟨g, 0, none⟩)) [.pointer (some ⟨g, 0, none⟩), _, _, _, _, .agg #[S8 x, S8 y, .bool false, .int .i64 0, .slice none 0 0, .int .i64 0], undef] [none, none, none, none, none, none, some (fun u w' => ∃ k, u = .slice (some ⟨k, 0, none⟩) 1 1 ∧ w'.heap[k]? = some (.cells #[S8 x, S8 y, .bool false, .int .i64 0, .slice none 0 0, .int .i64 0] 126 (0, 0)))] [[], [], [1], [2], [3], [], [5]] (by kernel_rfl) (by kernel_rfl) (by simp [mixV])
  · refine ⟨?_, trivial⟩
    · exact fun _ _ _ he ⟨k, h1, h3⟩ => ⟨k, h1, he.row h3⟩
  · exact ⟨_, rfl, rfl, fun w => by go_simp⟩
  · exact fun _ => rfl
  · simp (maxSteps := 1000000) only [List.take_succ_cons, List.take_zero, oblFrom, stepObl, fillFrom, Act.put, List.setIfInBounds_toArray, List.set_cons_zero, List.set_cons_succ, knows, getV, mixV, List.getD_cons_zero, List.getD_cons_succ, and_true, true_and, forall_const]
    refine ⟨?_, ?_, ?_, ?_, ?_, ?_, ?_⟩
    · intro xs wq hq R hR
      have c1 := hq.cell e3; have c2 := hq.cell f0; have c3 := hq.cell f1; have c4 := hq.cell f2; have c5 := hq.cell f3; have c6 := hq.cell f4; have c7 := hq.cell f5
      go_simp
      exact hR _ _ (Ext.refl _) rfl
    · intro xs wq hq R hR
      have c1 := hq.cell e3; have c2 := hq.cell f0; have c3 := hq.cell f1; have c4 := hq.cell f2; have c5 := hq.cell f3; have c6 := hq.cell f4; have c7 := hq.cell f5
      go_simp
      exact hR _ _ (Ext.refl _) rfl
    · intro xs wq hq hk R hR
      have c1 := hq.cell e3; have c2 := hq.cell f0; have c3 := hq.cell f1; have c4 := hq.cell f2; have c5 := hq.cell f3; have c6 := hq.cell f4; have c7 := hq.cell f5
      go_simp
      exact hR _ _ (Ext.refl _) rfl
    · intro xs wq hq hk R hR
      have c1 := hq.cell e3; have c2 := hq.cell f0; have c3 := hq.cell f1; have c4 := hq.cell f2; have c5 := hq.cell f3; have c6 := hq.cell f4; have c7 := hq.cell f5
      go_simp
      exact hR _ _ (Ext.refl _) rfl
    · intro xs wq hq hk R hR
      have c1 := hq.cell e3; have c2 := hq.cell f0; have c3 := hq.cell f1; have c4 := hq.cell f2; have c5 := hq.cell f3; have c6 := hq.cell f4; have c7 := hq.cell f5
      go_simp
      exact hR _ _ (Ext.refl _) rfl
    · intro xs wq hq R hR
      have c1 := hq.cell e3; have c2 := hq.cell f0; have c3 := hq.cell f1; have c4 := hq.cell f2; have c5 := hq.cell f3; have c6 := hq.cell f4; have c7 := hq.cell f5
      go_simp
      exact hR _ _ (Ext.refl _) rfl
    · intro xs wq hq hk R hR
      go_simp
      exact hR _ _ ((Ext.refl _).alloc _) ⟨_, rfl, alloc_at _ _⟩
  intro xs w6 hx6 hk
  simp only [heldV, Nat.zero_add, Nat.reduceAdd, and_true] at hk
  obtain ⟨q0, q1, q2, q3, q4, q5, q6⟩ := hk
  simp (maxSteps := 1000000) only [List.take_succ_cons, List.take_zero, List.drop_succ_cons, List.drop_zero, fillFrom, Act.put, List.setIfInBounds_toArray, List.set_cons_zero, List.set_cons_succ, Nat.zero_add, Nat.reduceAdd, q0, q1, q2, q3, q4, q5]
  clear q0 q1 q2 q3 q4 q5
  generalize xs 6 = x6 at *
  obtain ⟨k6, rfl, hk6⟩ := q6
  have hown6 := owns_ext hown5 hx6
  have hgg6 := Ext.row hx6 hgg5
  have hP6 := HP5.out.ext hx6
  have HP6 : Hid _ := hP6
  clear hown5 hP6 e0 e1 e2 e3 e4 e5 e6 e7 e8 f0 f1 f2 f3 f4 f5
  go_wp2_with (first
    | (at_builtin; go_must (refine app_ch rfl _ _ rfl 0 _ m.pend.length _ rfl hown6 k6 1 _ rfl rfl hk6 (by simp [Value.oneCell']) (by omega) (Nat.zero_le _) ?_; intro v7 w7 hown7 hgr7 hwh7; obtain ⟨va, vc, rfl⟩ := owns_some hown7 (by omega); have hgg7 : w7.heap[g]? = _ := (hgr7.block g (Array.getElem?_eq_some_iff.1 hgg6).1 (fun heq => by obtain ⟨cs9, fr9, hx9⟩ := HP6.out.pend.typed g heq.symm; rw [hgg6] at hx9; simp at hx9)).trans hgg6))
    | (refine store_field rfl 100 (.tmp 34) (.tmp 32) rfl g 3 rfl (.slice (some ⟨va, 0, none⟩) (m.pend.length + 1) vc) rfl rfl _ _ hgg7 (Nat.le_of_ble_eq_true rfl) size_chs (fsCells m.room gm gd (.slice (some ⟨va, 0, none⟩) (m.pend.length + 1) vc) vl m.calls vu (m.time + 1) m.down) (by simp) ?_; intro w8 hg8 hgr8))
  refine NoP.intro ?_
  go_end0
  have hsz : w.heap.size ≤ w6.heap.size := by have := hW4.size; have := hg5.size; have := hx6.size; omega
  have hu6 : ∀ k, Value.ownBlock (.slice pa m.pend.length pc) = some k → ¬ IsU8 w6 k := fun k hk => by
    obtain ⟨cs9, fr9, hx9⟩ := HP6.out.pend.typed k hk
    exact cells_u8 hx9 (by kernel_rfl)
  have k67 : KeepR (On R w.heap.size) w6 w7 := grownR hgr7 hu6
  have k57 : KeepR R w5 w7 := by
    have a := KeepR.of_keep (R := R) (KeepB.of_ext hx6)
    have b : KeepR R w6 w7 := grownR hgr7 hu6
    exact KeepR.trans a b
  have hc7 := HC.out (On R w.heap.size) w7
  have hn7 : OwnL w7 126 6 (IsCh (On R w.heap.size) w7) (.slice (some ⟨va, 0, none⟩) (m.pend.length + 1) vc) (m.pend ++ [c]) :=
    OwnL.app HE5.out hown7 (fun c x hx => (hx.keepR k57).mono (fun k hk => .inl hk)) hc7
  have hP7 := (HP6.out.mono (O' := On O w.heap.size) (R' := On R w.heap.size) (fun k hk => .inl hk) (fun k hk => .inl hk)).appPend hgr7 hn7 (fun k hk => by
    rcases hwh7 k hk with h1 | h1
    · exact .inl (HP6.out.op k h1)
    · exact .inr (by omega))
  have hdm : does m c = { m with time := m.time + 1, now := ap m.now c, pend := m.pend ++ [c] } := by unfold does; rw [HAT.out]
  refine ⟨rfl, ?_, ?_⟩
  · rw [hdm]
    exact IsFs.fit ⟨g, gm, gd, _, vl, vu, L, c0, rfl, hg8, .inl hO, hP7.own hgg7 hgr8, hpl1, hc0⟩
  exact ((hfr5.ext hx6).step hgr7 (fun k hk => .inl (HP6.out.op k hk)) hu6).step hgr8 (fun k hk => by cases hk; exact .inl hO) (by rintro k hk; cases hk; exact cells_u8 hgg7 (by kernel_rfl))


theorem does_any {S O R : Nat → Prop} {w : World} {p : Value} {m : Fs} (c : Ch) (cs : List Value) (h : IsFs S O R w p m) (hc : IsCh R w cs c) (hmv : ∀ s d, c = .mv s d → (look m.now s).isSome = true) (hl : m.now.length ≤ 1000000) (hpl : m.pend.length ≤ 1000000) (ht : m.time ≤ 1000000) :
    Calls Tryz.prog 142 #[p, .agg cs.toArray] w fun e w' => e = .returned (.tuple #[]) ∧ IsFs S (Nw O w w') (Nw R w w') w' p (does m c) ∧ Fr O w w' := by
  cases c with
  | put q f =>
    obtain ⟨h1, v, rfl, h2⟩ := hc
    exact does_put q f v h h1 h2 hl hpl ht
  | mv s d =>
    obtain ⟨h1, h2, h3, rfl⟩ := hc
    exact does_other d s (.mv s d) h (fun _ _ => ⟨h1, h2, h3, rfl⟩) (fun _ => rfl) hmv hl hpl ht
  | del q =>
    obtain ⟨h1, rfl⟩ := hc
    exact does_other q [] (.del q) h (fun _ _ => ⟨h1, rfl⟩) (fun _ => rfl) hmv hl hpl ht

end Go.Proofs.YtfimfbdlegookaaGreatDoor

/-! fsim.FS: puts, fits, removes. Conditions: at most 900000 ticks; short paths and data. -/
namespace Go.Proofs.YtfimfbdlegookaaGreatDoor
open Go Go.RowKit

/-- What a call leaves of a file system. -/
structure FsPost (S O R : Nat → Prop) (w : World) (p : Value) (m : Fs) (w' : World) : Prop where
  fs : IsFs S (Nw O w w') (Nw R w w') w' p m
  fr : Fr O w w'
theorem FsPost.of_ext {S O R : Nat → Prop} {w wx w' : World} {p : Value} {m : Fs} (hx : Ext w wx) (h : FsPost S O (Nw R w wx) wx p m w') : FsPost S O R w p m w' := by
  refine ⟨h.fs.mono (fun k hk => ?_) (fun k hk => hk.nw hx.size h.fr.size), (Fr.of_ext hx).trans (h.fr.mono fun k hk => .inl hk)⟩
  rcases hk with hk | hk
  · exact .inl hk
  · exact .inr ⟨Nat.le_trans hx.size hk.1, hk.2⟩
theorem FsPost.trans {S O R : Nat → Prop} {w w1 w' : World} {p : Value} {m1 m : Fs} (h1 : FsPost S O R w p m1 w1) (h : FsPost S (Nw O w w1) (Nw R w w1) w1 p m w') : FsPost S O R w p m w' :=
  ⟨h.fs.mono (fun k hk => hk.nw h1.fr.size h.fr.size) (fun k hk => hk.nw h1.fr.size h.fr.size), h1.fr.trans h.fr⟩
theorem FsPost.same {S O R : Nat → Prop} {w w' : World} {p : Value} {m : Fs} (h : IsFs S O R w p m) (hx : Ext w w') : FsPost S O R w p m w' :=
  ⟨(h.ext hx).mono (fun k hk => .inl hk) (fun k hk => .inl hk), Fr.of_ext hx⟩
theorem FsPost.ext {S O R : Nat → Prop} {w w1 w' : World} {p : Value} {m : Fs} (h : FsPost S O R w p m w1) (hx : Ext w1 w') : FsPost S O R w p m w' :=
  h.trans (FsPost.same h.fs hx)

theorem FsPost.pre {S O R : Nat → Prop} {w wx w' : World} {p : Value} {m : Fs} (hx : Ext w wx) (h : FsPost S O R wx p m w') : FsPost S O R w p m w' := FsPost.of_ext hx ⟨h.fs.mono (fun k hk => hk) (fun k hk => hk.imp .inl id), h.fr⟩

/-- What holds of a file system at all times. -/
def ChOk : Ch → Prop
  | .put p f => pathB p = true ∧ f.data.length ≤ 20000
  | .mv s d => pathB s = true ∧ pathB d = true ∧ s ≠ d
  | .del p => pathB p = true
structure OkM (m : Fs) : Prop where
  lnow : m.now.length ≤ m.time
  lsure : m.sure.length ≤ m.time
  lpend : m.pend.length ≤ m.time
  lsp : m.sure.length + m.pend.length ≤ m.time
  lusers : m.users.length ≤ m.time
  dnow : ∀ e ∈ m.now, pathB e.1 = true ∧ e.2.data.length ≤ 20000
  dsure : ∀ e ∈ m.sure, pathB e.1 = true ∧ e.2.data.length ≤ 20000
  dpend : ∀ c ∈ m.pend, ChOk c
  fold : m.pend.foldl ap m.sure = m.now
  mvs : ∀ k s d, m.pend[k]? = some (.mv s d) → (look ((m.pend.take k).foldl ap m.sure) s).isSome = true

theorem path_short {p : B8} (h : pathB p = true) : p.length ≤ 200 := by
  unfold pathB at h
  simp only [Bool.and_eq_true, decide_eq_true_eq] at h
  exact h.1
theorem path_ne {p : B8} (h : pathB p = true) : p ≠ [] := by
  rintro rfl
  revert h; decide

theorem used_le {l : Files} {n : Nat} (h : l.length ≤ n) (hd : ∀ e ∈ l, e.2.data.length ≤ 20000) : usedF l ≤ 20000 * n := by
  have : usedF l ≤ 20000 * l.length := by
    unfold usedF
    induction l with
    | nil => simp
    | cons e l ih =>
      have h1 := hd e (by simp)
      have h2 := ih (by simp at h; omega) (fun e he => hd e (by simp [he]))
      simp only [List.map_cons, List.sum_cons, List.length_cons, Nat.mul_add]
      omega
  exact Nat.le_trans this (Nat.mul_le_mul_left _ h)

def ptr (g : Nat) : Value := .pointer (some ⟨g, 0, none⟩)

set_option maxRecDepth 100000 in
set_option maxHeartbeats 2000000 in
theorem puts_any {S O R : Nat → Prop} {w : World} {p : Value} {m : Fs} (path : B8) (mode : Int) (v : Value) (data : B8) (fits : Bool) (hE : Env w) (h : IsFs S O R w p m) (hok : OkM m) (ht : m.time ≤ 900000) (hp : path.length ≤ 400) (hv : IsBytes w v data) (hdl : data.length ≤ 20000) (hmay : mayP m.now path [] = mayF m.now path []) :
    Calls Tryz.prog 55 #[p, S8 path, .int .i64 mode, v, .bool fits] w fun e w' => e = .returned (.int .i64 (putsM m path mode data fits).2) ∧ FsPost S O R w p (putsM m path mode data fits).1 w' := by
  have HH : Hid _ := h
  obtain ⟨g, gm, gd, vp, vl, vu, L, c0, rfl, hg, hO, hP, -, -⟩ := h
  obtain ⟨d0, d1, d2, d3, d4, d5, d6, d7, d8⟩ := cellsAt9 hg
  obtain ⟨val, hrun, -, hv1, hv2⟩ := hP.now.look_run path (by omega)
  have hgl := (Array.getElem?_eq_some_iff.1 hg).1
  have hgne : g ≠ w.heap.size := by omega
  have HE : Hid _ := hE
  have HV : Hid _ := hv
  have HF : Hid _ := hP.now
  have HOK : Hid _ := hok
  have HM : Hid _ := hmay
  have hl := hok.lnow
  have hpl := hok.lpend
  obtain ⟨a, c, rfl, -⟩ := hv.get
  clear hg hP hE hv hok hmay
  have hdef : ∀ fits, putsM m path mode data fits = if (look m.now path).isNone ∧ mayF m.now path [] = false then (m, 9) else if fits = false then (m, 10) else (does m (.put path ⟨mode, data, 0⟩), 0) := fun _ => rfl
  have HDEF : Hid _ := hdef
  clear hdef
  have fin : ∀ (w1 w2 w3 : World) (va : Option Addr) (vc : Nat), Ext w w1 → IsData (Nu w1 w2) w2 (.slice va data.length vc) data → Ext w1 w2 → (IsFs S (Nw O w2 w3) (Nw (Nw R w w2) w2 w3) w3 (.pointer (some ⟨g, 0, none⟩)) (does m (.put path ⟨mode, data, 0⟩)) ∧ Fr O w2 w3) → FsPost S O R w (.pointer (some ⟨g, 0, none⟩)) (does m (.put path ⟨mode, data, 0⟩)) w3 := fun w1 w2 w3 va vc h1 _ h2 h3 => FsPost.of_ext (h1.trans h2) ⟨h3.1, h3.2⟩
  have FIN : Hid _ := fin
  clear fin
  cases hlk : look m.now path with
  | some f =>
    have hdd : putsM m path mode data false = (m, 10) ∧ putsM m path mode data true = (does m (.put path ⟨mode, data, 0⟩), 0) := by rw [HDEF.out, HDEF.out, hlk]; simp
    have HDD : Hid _ := hdd
    rw [hlk] at hrun
    obtain ⟨sv, rfl, hsv⟩ := hv1 f hlk
    obtain ⟨s1, s2, rfl, -⟩ := hsv.bytes
    simp only [Option.isSome_some] at hrun
    clear hv1 hv2 hsv hlk hdd
    cases fits with
    | false =>
      go_enter Tryz.func55, Tryz.ntmps55
      go_wp2
      go_ret
      rw [HDD.out.1]
      exact ⟨rfl, FsPost.same HH.out ((Ext.refl _).alloc _)⟩
    | true =>
      go_enter Tryz.func55, Tryz.ntmps55
      go_wp2_with (first
        | (go_at_call 57; go_must (refine (clone_any _ data _ (IsBytes.ext HV.out ((Ext.refl _).alloc _)) (by omega)).mono ?_; rintro e w2 ⟨⟨v2, rfl, hd2⟩, hx2⟩; obtain ⟨ca, cc, rfl, -⟩ := id hd2.bytes; have HD2 : Hid _ := hd2; clear hd2))
        | (go_at_call 142; go_must (refine (does_put (R := Nw R w w2) path ⟨mode, data, 0⟩ (.slice ca data.length cc) (IsFs.mono (IsFs.ext HH.out (((Ext.refl _).alloc _).trans hx2)) (fun k hk => hk) (fun k hk => .inl hk)) (by omega) (HD2.out.mono (fun k hk => .inr ⟨Nat.le_trans (by simp) hk.1, hk.2⟩)) (by omega) (by omega) (by omega)).mono ?_; rintro e w3 ⟨rfl, hf3, hr3⟩)))
      go_ret
      rw [HDD.out.2]
      exact ⟨rfl, FIN.out _ w2 w3 _ _ ((Ext.refl _).alloc _) HD2.out hx2 ⟨hf3, hr3⟩⟩
  | none =>
    rw [hlk] at hrun
    obtain rfl := hv2 hlk
    simp only [Option.isSome_none] at hrun
    cases hmy : mayF m.now path [] with
    | false =>
      have hdd : putsM m path mode data fits = (m, 9) := by rw [HDEF.out, hlk, hmy]; simp
      have HDD : Hid _ := hdd
      have HMY : Hid _ := hmy
      clear hv1 hv2 hlk hdd hmy
      go_enter Tryz.func55, Tryz.ntmps55
      go_wp2_with (go_at_call 141; go_must (refine (may_any path [] (HE.out.ext ((Ext.refl _).alloc _)) (HF.out.ext ((Ext.refl _).alloc _)) (by omega)).mono ?_; rw [HM.out, HMY.out]; rintro e w2 ⟨rfl, hx2⟩))
      go_ret
      rw [HDD.out]
      exact ⟨rfl, FsPost.same HH.out (((Ext.refl _).alloc _).trans hx2)⟩
    | true =>
      have hdd : putsM m path mode data false = (m, 10) ∧ putsM m path mode data true = (does m (.put path ⟨mode, data, 0⟩), 0) := by rw [HDEF.out, HDEF.out, hlk, hmy]; simp
      have HDD : Hid _ := hdd
      have HMY : Hid _ := hmy
      clear hv1 hv2 hlk hdd hmy
      cases fits with
      | false =>
        go_enter Tryz.func55, Tryz.ntmps55
        go_wp2_with (go_at_call 141; go_must (refine (may_any path [] (HE.out.ext ((Ext.refl _).alloc _)) (HF.out.ext ((Ext.refl _).alloc _)) (by omega)).mono ?_; rw [HM.out, HMY.out]; rintro e w2 ⟨rfl, hx2⟩))
        go_ret
        rw [HDD.out.1]
        exact ⟨rfl, FsPost.same HH.out (((Ext.refl _).alloc _).trans hx2)⟩
      | true =>
        go_enter Tryz.func55, Tryz.ntmps55
        go_wp2_with (first
          | (go_at_call 141; go_must (refine (may_any path [] (HE.out.ext ((Ext.refl _).alloc _)) (HF.out.ext ((Ext.refl _).alloc _)) (by omega)).mono ?_; rw [HM.out, HMY.out]; rintro e w1 ⟨rfl, hx1⟩; have hx01 := ((Ext.refl _).alloc _).trans hx1))
          | (go_at_call 57; go_must (refine (clone_any _ data _ (IsBytes.ext HV.out hx01) (by omega)).mono ?_; rintro e w2 ⟨⟨v2, rfl, hd2⟩, hx2⟩; obtain ⟨ca, cc, rfl, -⟩ := id hd2.bytes; have HD2 : Hid _ := hd2; clear hd2))
          | (go_at_call 142; go_must (refine (does_put (R := Nw R w w2) path ⟨mode, data, 0⟩ (.slice ca data.length cc) (IsFs.mono (IsFs.ext HH.out (hx01.trans hx2)) (fun k hk => hk) (fun k hk => .inl hk)) (by omega) (HD2.out.mono (fun k hk => .inr ⟨Nat.le_trans hx01.size hk.1, hk.2⟩)) (by omega) (by omega) (by omega)).mono ?_; rintro e w3 ⟨rfl, hf3, hr3⟩)))
        go_ret
        rw [HDD.out.2]
        exact ⟨rfl, FIN.out _ w2 w3 _ _ hx01 HD2.out hx2 ⟨hf3, hr3⟩⟩

end Go.Proofs.YtfimfbdlegookaaGreatDoor

/-! fsim.FS: Up, Reboot, Now, Pending, Calls, settle, removes, fits. Conditions: at most 900000 ticks; short paths. -/
namespace Go.Proofs.YtfimfbdlegookaaGreatDoor
open Go Go.RowKit

set_option maxRecDepth 100000 in
theorem up_any {S O R : Nat → Prop} {w : World} {p : Value} {m : Fs} (h : IsFs S O R w p m) :
    Calls Tryz.prog 26 #[p] w fun e w' => e = .returned (.bool (!m.down)) ∧ w' = w := by
  obtain ⟨g, gm, gd, vp, vl, vu, L, c0, rfl, hg, hO, hP, -, -⟩ := h
  obtain ⟨d0, d1, d2, d3, d4, d5, d6, d7, d8⟩ := cellsAt9 hg
  clear hg hP
  go_enter Tryz.func26, Tryz.ntmps26
  go_wp2
  go_ret
  exact ⟨rfl, rfl⟩
theorem load_run {w : World} {g : Nat} {c : Int} (hc : w.cell? ⟨g, 5, none⟩ = some (.int .i64 c)) : (callFunc 152 #[.pointer (some ⟨g, 5, none⟩)]).run Tryz.prog w = .ok (.value (.int .i64 c)) w :=
  run_call_load (P := Tryz.prog) Tryz.func152 (by kernel_rfl) (by kernel_rfl) (by kernel_rfl) .i64 (by kernel_rfl) hc
set_option maxRecDepth 100000 in
theorem load_any {w : World} {g : Nat} {c : Int} (hc : w.cell? ⟨g, 5, none⟩ = some (.int .i64 c)) :
    Calls Tryz.prog 72 #[.pointer (some ⟨g, 5, none⟩)] w fun e w' => e = .returned (.int .i64 c) ∧ w' = w := by
  have hl := load_run hc
  go_enter Tryz.func72, Tryz.ntmps72
  go_wp2
  go_ret
  exact ⟨rfl, rfl⟩
set_option maxRecDepth 100000 in
theorem calls_any {S O R : Nat → Prop} {w : World} {p : Value} {m : Fs} (h : IsFs S O R w p m) :
    Calls Tryz.prog 24 #[p] w fun e w' => e = .returned (.int .i64 m.calls) ∧ w' = w := by
  obtain ⟨g, gm, gd, vp, vl, vu, L, c0, rfl, hg, hO, hP, -, -⟩ := h
  obtain ⟨d0, d1, d2, d3, d4, d5, d6, d7, d8⟩ := cellsAt9 hg
  clear hg hP
  go_enter Tryz.func24, Tryz.ntmps24
  go_wp2_with (go_at_call 72; go_must (refine (load_any d5).mono ?_; rintro e w' ⟨rfl, rfl⟩))
  go_ret
  exact ⟨rfl, rfl⟩

set_option maxRecDepth 100000 in
set_option maxHeartbeats 1000000 in
theorem settle_any {S O R : Nat → Prop} {w : World} {p : Value} {m : Fs} (h : IsFs S O R w p m) (hl : m.now.length ≤ 1000000) :
    Calls Tryz.prog 56 #[p] w fun e w' => e = .returned (.tuple #[]) ∧ FsPost S O R w p (settle m) w' := by
  obtain ⟨g, gm, gd, vp, vl, vu, L, c0, rfl, hg, hO, hP, hpl1, hc0⟩ := h
  have HG : Hid _ := hg
  have HP : Hid _ := hP
  obtain ⟨d0, d1, d2, d3, d4, d5, d6, d7, d8⟩ := cellsAt9 hg
  have hml := hP.now.lt
  clear hg hP
  go_enter Tryz.func56, Tryz.ntmps56
  go_wp2_with (first
    | (go_at_call 75; go_must (refine (copied_any HP.out.now (by omega)).mono ?_; rintro e w2 ⟨⟨g2, rfl, hge, hf2⟩, hx2⟩; have hg2 := Ext.row hx2 HG.out))
    | (refine store_field rfl 99 (.tmp 9) (.tmp 7) rfl g 2 rfl (.map (some g2)) rfl rfl _ _ hg2 (Nat.le_of_ble_eq_true rfl) size_map (fsCells m.room gm g2 vp vl m.calls vu m.time m.down) (by simp) ?_; intro w3 hg3 hgr3)
    | (refine store_field rfl 100 (.tmp 12) _ rfl g 3 rfl (.slice none 0 0) rfl rfl _ _ hg3 (Nat.le_of_ble_eq_true rfl) size_chs (fsCells m.room gm g2 (.slice none 0 0) vl m.calls vu m.time m.down) (by simp) ?_; intro w4 hg4 hgr4))
  go_end0
  have P2 : Parts S (On O w.heap.size) (On R w.heap.size) w2 gm g2 (.slice none 0 0) vl vu m.now m.now [] L m.users := by
    have q := (HP.out.ext hx2).mono (O' := On O w.heap.size) (R' := On R w.heap.size) (fun k hk => .inl hk) (fun k hk => .inl hk)
    exact ⟨by omega, q.om, .inr hge, q.now, hf2.mono (fun k hk => .inl hk), ⟨[], World.ownsRow_nil _ _ _ _, Each.nil _⟩, Inn.nil _ _ _, q.plan, q.ol, q.users, q.ou, q.off⟩
  refine ⟨rfl, IsFs.fit ⟨g, gm, g2, _, vl, vu, L, c0, rfl, hg4, .inl hO, (P2.own hg2 hgr3).own hg3 hgr4, hpl1, hc0⟩, ?_⟩
  exact (((Fr.refl O w).ext hx2).step hgr3 (fun k hk => by cases hk; exact .inl hO) (by rintro k hk; cases hk; exact cells_u8 hg2 (by kernel_rfl))).step hgr4 (fun k hk => by cases hk; exact .inl hO) (by rintro k hk; cases hk; exact cells_u8 hg3 (by kernel_rfl))

set_option maxRecDepth 100000 in
set_option maxHeartbeats 2000000 in
theorem removes_any {S O R : Nat → Prop} {w : World} {p : Value} {m : Fs} (path : B8) (hE : Env w) (h : IsFs S O R w p m) (hok : OkM m) (ht : m.time ≤ 900000) (hp : path.length ≤ 400) :
    Calls Tryz.prog 146 #[p, S8 path] w fun e w' => e = .returned (.int .i64 (removesM m path).2) ∧ FsPost S O R w p (removesM m path).1 w' := by
  have HH : Hid (IsFs S O R w p m) := h
  have HE : Hid _ := hE
  have hl := hok.lnow
  have hpl := hok.lpend
  have hdef : removesM m path = if pathB path = false then (m, 6) else if (look m.now path).isNone then (m, 7) else (does m (.del path), 0) := rfl
  have HDEF : Hid _ := hdef
  obtain ⟨g, gm, gd, vp, vl, vu, L, c0, rfl, hg, hO, hP, -, -⟩ := h
  have HG : Hid _ := hg
  have HF : Hid _ := hP.now
  clear hg hP hE hdef hok
  cases hpb : pathB path with
  | false =>
    have hdd : removesM m path = (m, 6) := by rw [HDEF.out, if_pos hpb]
    have HDD : Hid _ := hdd
    have HPB : Hid _ := hpb
    clear hdd hpb
    go_enter Tryz.func146, Tryz.ntmps146
    go_wp2_with (go_at_call 66; go_must (refine (path_l path _ HE.out (by omega)).mono ?_; rw [HPB.out]; rintro e w2 ⟨rfl, hx2⟩))
    go_ret
    rw [HDD.out]
    exact ⟨rfl, FsPost.same HH.out hx2⟩
  | true =>
    have HPB : Hid _ := hpb
    cases hlk : look m.now path with
    | none =>
      have hdd : removesM m path = (m, 7) := by rw [HDEF.out, if_neg (by simp [hpb]), if_pos (by rw [hlk]; rfl)]
      have HDD : Hid _ := hdd
      have HLK : Hid _ := hlk
      clear hdd hlk hpb
      go_enter Tryz.func146, Tryz.ntmps146
      go_wp2_with (go_at_call 66; go_must (refine (path_l path _ HE.out (by omega)).mono ?_; rw [HPB.out]; rintro e w2 ⟨rfl, hx2⟩; obtain ⟨d0, d1, d2, d3, d4, d5, d6, d7, d8⟩ := cellsAt9 (Ext.row hx2 HG.out); obtain ⟨val, hrun, -, -, hv2⟩ := (HF.out.ext hx2).look_run path (by omega); obtain rfl := hv2 HLK.out; rw [HLK.out] at hrun; simp only [Option.isSome_none] at hrun; clear hv2))
      go_ret
      rw [HDD.out]
      exact ⟨rfl, FsPost.same HH.out (hx2.trans ((Ext.refl _).alloc _))⟩
    | some f =>
      have hdd : removesM m path = (does m (.del path), 0) := by rw [HDEF.out, if_neg (by simp [hpb]), if_neg (by rw [hlk]; simp)]
      have HDD : Hid _ := hdd
      have HLK : Hid _ := hlk
      clear hdd hlk hpb
      go_enter Tryz.func146, Tryz.ntmps146
      go_wp2_with (first
        | (go_at_call 66; go_must (refine (path_l path _ HE.out (by omega)).mono ?_; rw [HPB.out]; rintro e w2 ⟨rfl, hx2⟩; obtain ⟨d0, d1, d2, d3, d4, d5, d6, d7, d8⟩ := cellsAt9 (Ext.row hx2 HG.out); obtain ⟨val, hrun, -, hv1, -⟩ := (HF.out.ext hx2).look_run path (by omega); obtain ⟨sv, rfl, hsv⟩ := hv1 f HLK.out; obtain ⟨s1, s2, rfl, -⟩ := hsv.bytes; rw [HLK.out] at hrun; simp only [Option.isSome_some] at hrun; clear hv1 hsv))
        | (go_at_call 142; go_must (refine (does_other (R := R) path [] (.del path) (IsFs.ext HH.out (hx2.trans ((Ext.refl _).alloc _))) (fun _ _ => ⟨by omega, rfl⟩) (fun _ => rfl) (fun s d hh => by cases hh) (by omega) (by omega) (by omega)).mono ?_; rintro e w3 ⟨rfl, hf3, hr3⟩)))
      go_ret
      rw [HDD.out]
      exact ⟨rfl, FsPost.of_ext (hx2.trans ((Ext.refl _).alloc _)) ⟨hf3.mono (fun k hk => hk) (fun k hk => hk.imp .inl id), hr3⟩⟩

end Go.Proofs.YtfimfbdlegookaaGreatDoor

/-! fsim.FS: UserWrite, UserRemove. Conditions: at most 900000 ticks; short paths and data. -/
namespace Go.Proofs.YtfimfbdlegookaaGreatDoor
open Go Go.RowKit

theorem info_ev : (Tryz.prog.info? 53).map (fun i => (i.zero, i.size, i.bytes)) = some (some (.agg #[.int .i64 0, .int .i64 0, .int .i64 0, .int .i64 0, .int .i64 0, S8 [], .slice none 0 0]), 7, 80) := by kernel_rfl

section
variable {ops : Array Oper} {rest : List Oper} {o : Oper} {a : Act} {Q : Exit → Act → World → Prop} {w : World}
/-- append of one event. -/
theorem app_ev (hgd : o.guard = none) (s x : Operand) (ho : o.op = .call { callee := .builtin .append, args := #[s, x], argTypes := #[32, 32] })
    (base : Nat) (v : Value) (n : Nat) (xs : List Value) (hs : a.eval s = v) (hown : w.ownsRow base 53 7 v n xs)
    (g c : Nat) (news : List Value) (hx : a.eval x = .slice (some ⟨g, 0, none⟩) 1 c) (hl : news.length = 7) {fr : Nat × Nat} (hg : w.heap[g]? = some (.cells news.toArray 53 fr)) (h1 : news.all (·.oneCell') = true)
    (hb : n ≤ 10000000) (hbase : base ≤ w.heap.size)
    (h : ∀ v' w', w'.ownsRow base 53 7 v' (n + 1) (xs ++ news) → w.grownBy w' v.ownBlock → (∀ k, v'.ownBlock = some k → v.ownBlock = some k ∨ w.heap.size ≤ k) → wpList Tryz.prog ops Q rest (a.put o.dst v') w') : wpList Tryz.prog ops Q (o :: rest) a w := by
  obtain ⟨i0, hi, hz0, hz1, hz2⟩ := info_parts info_ev
  exact wpList_append_own_at w hgd s x _ ho base _ i0 _ 7 80 Tryz.underlying32 hi hz0 hz1 hz2 rfl (by omega) v n xs hs hown ⟨g, 0, none⟩ 1 c news hx (by simpa using hl) (by simpa using news_of_block hg) (fun u hu => List.all_eq_true.1 h1 u hu) (by unfold maxLen; omega) (by omega) hbase
    (fun v' w' h1 h2 _ h4 => h v' w' h1 h2 (fun k hk => by
      rcases h4 with h4 | h4
      · exact .inl (h4.symm.trans hk)
      · rw [h4] at hk; simp only [Option.some.injEq] at hk; exact .inr (by omega)))
end

theorem puts_size {m : Fs} {path : B8} {mode : Int} {data : B8} {fits : Bool} : (putsM m path mode data fits).1.now.length ≤ m.now.length + 1 ∧ (putsM m path mode data fits).1.users = m.users ∧ (putsM m path mode data fits).1.calls = m.calls := by
  unfold putsM
  split
  · exact ⟨by simp, rfl, rfl⟩
  · split
    · exact ⟨by simp, rfl, rfl⟩
    · refine ⟨?_, rfl, rfl⟩
      simp only [does]
      exact ap_length _ _
theorem removes_size {m : Fs} {path : B8} : (removesM m path).1.now.length ≤ m.now.length + 1 ∧ (removesM m path).1.users = m.users ∧ (removesM m path).1.calls = m.calls := by
  unfold removesM
  split
  · exact ⟨by simp, rfl, rfl⟩
  · split
    · exact ⟨by simp, rfl, rfl⟩
    · refine ⟨?_, rfl, rfl⟩
      simp only [does]
      exact ap_length _ _

/-- What a user did is noted: the slice that has grown is stored. -/
theorem users_done {S O R : Nat → Prop} {w w6 w7 w8 : World} {g gm gd c0 : Nat} {vp vl va : Value} {now sure : Files} {pend : List Ch} {L users : List Ev} {va' : Nat} {vc : Nat} {cs : List Value} {css : List (List Value)} {e : Ev} {m : Fs}
    (hx : Ext w w6) (hO : O g) (hP : Parts S O R w6 gm gd vp vl va now sure pend L users) (he : Each (IsEvR R w6) css users) (hown : w7.ownsRow 0 53 7 (.slice (some ⟨va', 0, none⟩) (users.length + 1) vc) (users.length + 1) (css.flatten ++ cs)) (hgr7 : w6.grownBy w7 va.ownBlock)
    (hwh : ∀ k, Value.ownBlock (.slice (some ⟨va', 0, none⟩) (users.length + 1) vc) = some k → va.ownBlock = some k ∨ w6.heap.size ≤ k) {arr : Array Value} (hg7 : w7.heap[g]? = some (.cells arr 107 (0, 0))) (hgr8 : w7.grownBy w8 (some g))
    (hc : IsEvR (fun k => w.heap.size ≤ k) w6 cs e)
    (hg8 : w8.heap[g]? = some (.cells (fsCells m.room gm gd vp vl m.calls (.slice (some ⟨va', 0, none⟩) (users.length + 1) vc) m.time m.down) 107 (0, 0)))
    (h1 : m.now = now) (h2 : m.sure = sure) (h3 : m.pend = pend) (h4 : m.users = users ++ [e]) (hpl : m.plan = L.filter (fun e => decide ((c0 : Int) < e.t))) (hc0 : c0 ≤ m.calls ∧ L.length ≤ 1000) : FsPost S O R w (.pointer (some ⟨g, 0, none⟩)) m w8 := by
  have hu6 : ∀ k, va.ownBlock = some k → ¬ IsU8 w6 k := fun k hk => by
    obtain ⟨cs9, fr9, hx9⟩ := hP.users.typed k hk
    exact cells_u8 hx9 (by kernel_rfl)
  have k67 : ∀ R : Nat → Prop, KeepR R w6 w7 := fun R => grownR hgr7 hu6
  have hn7 : OwnL w7 53 7 (IsEvR (On R w.heap.size) w7) (.slice (some ⟨va', 0, none⟩) (users.length + 1) vc) (users ++ [e]) :=
    OwnL.app he hown (fun c x hx => (hx.keepR (k67 _)).mono (fun k hk => .inl hk)) ((hc.keepR (k67 _)).mono (fun k hk => .inr hk))
  have hP7 := (hP.mono (O' := On O w.heap.size) (R' := On R w.heap.size) (fun k hk => .inl hk) (fun k hk => .inl hk)).appUsers hgr7 hn7 (fun k hk => by
    rcases hwh k hk with h1 | h1
    · exact .inl (hP.ou k h1)
    · exact .inr (Nat.le_trans hx.size h1)) (fun k hk => by
    rcases hwh k hk with h1 | h1
    · exact hP.off k h1
    · intro hv
      obtain ⟨cs9, fr9, hx9⟩ := hP.plan.typed k hv
      have := (Array.getElem?_eq_some_iff.1 hx9).1
      omega)
  subst h1 h2 h3
  refine ⟨IsFs.fit ⟨g, gm, gd, vp, vl, _, L, c0, rfl, hg8, .inl hO, ?_, hpl, hc0⟩, ?_⟩
  · rw [h4]; exact hP7.own hg7 hgr8
  · exact (((Fr.refl O w).ext hx).step hgr7 (fun k hk => .inl (hP.ou k hk)) hu6).step hgr8 (fun k hk => by cases hk; exact .inl hO) (by rintro k hk; cases hk; exact cells_u8 hg7 (by kernel_rfl))

/-- A slice that no call on a file system writes. -/
def Out (O : Nat → Prop) (w : World) (v : Value) : Prop := ∀ a n c, v = .slice (some a) n c → n ≠ 0 → ¬ O a.block ∨ IsU8 w a.block
theorem IsBytes.fr {O : Nat → Prop} {w w' : World} {v : Value} {l : B8} (h : IsBytes w v l) (ho : Out O w v) (hf : Fr O w w') : IsBytes w' v l := by
  obtain ⟨a, cap, rfl, h1, h2, h3, h4⟩ := h
  refine ⟨a, cap, rfl, h1, h2, h3, fun hn => ?_⟩
  have hl : l.length ≠ 0 := fun h0 => hn (by rw [List.eq_nil_of_length_eq_zero h0]; rfl)
  obtain ⟨b, o, rfl, hc⟩ := h4 hn
  refine ⟨b, o, rfl, fun i u hu => ?_⟩
  have hcu := hc i u hu
  rw [World.cell?_of_block (w := w) (w' := w') (a := ⟨b, o + i, none⟩) (hf.block b (World.block_lt_of_cell? _ _ hcu) (ho _ _ _ rfl hl))]
  exact hcu
theorem IsData.out {O R : Nat → Prop} {w : World} {v : Value} {l : B8} (h : IsData R w v l) : Out O w v := fun a n c he _ => .inr (h.typed a n c he)
theorem Env.fr {O : Nat → Prop} {w w' : World} (h : Env w) (hf : Fr O w w') (ho : ∀ k, O k → k ≠ 2) : Env w' := by
  obtain ⟨m, hm⟩ := h
  exact ⟨m, by rw [World.cell?_of_block (w := w) (w' := w') (hf.block _ (World.block_lt_of_cell? _ _ hm) (.inl (fun hh => ho _ hh rfl)))]; exact hm⟩

set_option maxRecDepth 100000 in
set_option maxHeartbeats 4000000 in
theorem userWrite_any {S O R : Nat → Prop} {w : World} {p : Value} {m : Fs} (path : B8) (mode : Int) (v : Value) (data : B8) (hE : Env w) (h : IsFs S O R w p m) (hok : OkM m) (ht : m.time ≤ 900000) (hp : path.length ≤ 400) (hv : IsBytes w v data) (hdl : data.length ≤ 140737488355328) (hmay : pathB path = true → mayP m.now path [] = mayF m.now path []) (hout : Out O w v) :
    Calls Tryz.prog 13 #[p, S8 path, .int .i64 mode, v] w fun e w' => e = .returned (.int .i64 (userWrite m path mode data).2) ∧ FsPost S O R w p (userWrite m path mode data).1 w' := by
  have HH : Hid (IsFs S O R w p m) := h
  have HE : Hid _ := hE
  have HV : Hid _ := hv
  have HOK : Hid _ := hok
  have HM : Hid _ := hmay
  have hl := hok.lnow
  have hlu := hok.lusers
  have hdef : userWrite m path mode data = if m.down then (m, 12) else if wrongE path mode data ≠ 0 then (m, wrongE path mode data)
    else if (putsM m path mode data true).2 ≠ 0 then putsM m path mode data true
    else ({ settle (putsM m path mode data true).1 with users := m.users ++ [⟨m.calls, 4, mode, 0, 0, path, data⟩] }, 0) := rfl
  have HDEF : Hid _ := hdef
  obtain ⟨a, c, rfl, -⟩ := hv.get
  obtain ⟨g, gm, gd, vp, vl, vu, L, c0, rfl, hg, hO, hP, -, -⟩ := h
  obtain ⟨d0, d1, d2, d3, d4, d5, d6, d7, d8⟩ := cellsAt9 hg
  clear hg hP hE hdef hok hv hmay
  cases hdn : m.down with
  | true =>
    have hdd : userWrite m path mode data = (m, 12) := by rw [HDEF.out, hdn]; rfl
    have HDD : Hid _ := hdd
    rw [hdn] at d8
    clear hdd hdn
    go_enter Tryz.func13, Tryz.ntmps13
    go_wp2
    go_ret
    rw [HDD.out]
    exact ⟨rfl, FsPost.same HH.out (Ext.refl _)⟩
  | false =>
    rw [hdn] at d8
    have HDN : Hid _ := hdn
    clear hdn
    obtain ⟨e1, he1⟩ : ∃ e1, wrongE path mode data = e1 := ⟨_, rfl⟩
    have HE1 : Hid _ := he1
    by_cases hz : e1 = 0
    · subst hz
      obtain ⟨hpb, hdl2⟩ : pathB path = true ∧ data.length ≤ 20000 := by
        unfold wrongE at he1
        split at he1
        · cases he1
        · rename_i h1
          split at he1
          · cases he1
          · split at he1
            · cases he1
            · exact ⟨by simpa using h1, by omega⟩
      have HPB : Hid _ := hpb
      obtain ⟨mp, e2, hmp⟩ : ∃ mp e2, putsM m path mode data true = (mp, e2) := ⟨_, _, rfl⟩
      have HMP : Hid _ := hmp
      have hps := @puts_size m path mode data true
      rw [hmp] at hps
      simp only at hps
      have HPU : Hid _ := hps.2.1
      have HPC : Hid _ := hps.2.2
      have hpl := hps.1
      by_cases hz2 : e2 = 0
      · subst hz2
        have hdd : userWrite m path mode data = ({ settle mp with users := m.users ++ [⟨m.calls, 4, mode, 0, 0, path, data⟩] }, 0) := by rw [HDEF.out, HDN.out, he1, hmp]; simp
        have HDD : Hid _ := hdd
        clear hdd he1 hmp hps hpb
        go_enter Tryz.func13, Tryz.ntmps13
        go_wp2_with (first
          | (go_at_call 54; go_must (refine (wrong_any path mode _ data _ HE.out HV.out (by omega)).mono ?_; rw [HE1.out]; rintro e w2 ⟨rfl, hx2⟩))
          | (go_at_call 55; go_must (refine (puts_any path mode _ data true (HE.out.ext hx2) (IsFs.ext HH.out hx2) HOK.out ht hp (IsBytes.ext HV.out hx2) hdl2 (HM.out HPB.out)).mono ?_; rw [HMP.out]; rintro e w3 ⟨rfl, hf3⟩; have HF3 : Hid _ := hf3; clear hf3))
          | (go_at_call 56; go_must (refine (settle_any HF3.out.fs (by omega)).mono ?_; rintro e w4 ⟨rfl, hf4⟩; have HF4 : Hid _ := hf4; clear hf4)))
        have P4 := FsPost.pre hx2 (FsPost.trans HF3.out HF4.out)
        have HP4 : Hid _ := P4
        have hv4 := IsBytes.fr HV.out hout P4.fr
        have HV4 : Hid _ := hv4
        obtain ⟨g4, gm4, gd4, vp4, vl4, vu4, L4, c4, hpe, hg4, hO4, hQ4, hpl4, hc4⟩ := P4.fs
        cases hpe
        obtain ⟨b0, b1, b2, b3, b4, b5, b6, b7, b8⟩ := cellsAt9 hg4
        have hus : (settle mp).users = m.users := HPU.out
        have hca : (settle mp).calls = m.calls := HPC.out
        rw [hus] at hQ4
        obtain ⟨css, hown4, heach4⟩ := hQ4.users
        obtain ⟨ua, uc, rfl, -⟩ := Row.of_owns hown4 (by omega)
        have HQ4 : Hid _ := hQ4
        have HE4 : Hid _ := heach4
        have HG4 : Hid _ := hg4
        have HPL4 : Hid _ := hpl4
        clear P4 hv4 hQ4 heach4 hpl4 hg4 d0 d1 d2 d3 d4 d5 d6 d7 d8 b0 b1 b2 b3 b4 b5 b7 b8
        apply wp_region_free 13 0 (.pointer (some ⟨g, 0, none⟩)) [.pointer (some ⟨g, 0, none⟩), _, _, _, _, _, .int .i64 m.calls, _, _, _, undef, undef, undef] [none, none, none, none, none, none, none, none, none, none, some (fun u w' => IsData (fun k => w4.heap.size ≤ k) w' u data), some (fun u w' => ∃ va vc, u = .agg #[.int .i64 m.calls, .int .i64 4, .int .i64 mode, .int .i64 0, .int .i64 0, S8 path, .slice va data.length vc] ∧ IsData (fun k => w4.heap.size ≤ k) w' (.slice va data.length vc) data), some (fun u w' => ∃ k va vc, u = .slice (some ⟨k, 0, none⟩) 1 1 ∧ w'.heap[k]? = some (.cells #[.int .i64 m.calls, .int .i64 4, .int .i64 mode, .int .i64 0, .int .i64 0, S8 path, .slice va data.length vc] 53 (0, 0)) ∧ IsData (fun k => w4.heap.size ≤ k) w' (.slice va data.length vc) data)] [[], [], [1], [2], [3], [], [5], [], [], [], [9], [6, 7, 8, 10], [11]] (by kernel_rfl) (by kernel_rfl) (by simp [mixV])
        · refine ⟨?_, ?_, ?_, trivial⟩
          · exact fun _ _ _ he hu => hu.ext he
          · exact fun _ _ _ he ⟨va, vc, h1, h2⟩ => ⟨va, vc, h1, h2.ext he⟩
          · exact fun _ _ _ he ⟨k, va, vc, h1, h3, h4⟩ => ⟨k, va, vc, h1, he.row h3, h4.ext he⟩
        · exact ⟨_, rfl, rfl, fun w => by go_simp⟩
        · exact fun _ => rfl
        · simp (maxSteps := 1000000) only [List.take_succ_cons, List.take_zero, oblFrom, stepObl, fillFrom, Act.put, List.setIfInBounds_toArray, List.set_cons_zero, List.set_cons_succ, knows, getV, mixV, List.getD_cons_zero, List.getD_cons_succ, and_true, true_and, forall_const]
          refine ⟨?_, ?_, ?_, ?_, ?_, ?_, ?_, ?_, ?_, ?_, ?_, ?_, ?_⟩
          · intro xs wq hq R hR
            have f6 := hq.cell b6
            go_simp
            exact hR _ _ (Ext.refl _) rfl
          · intro xs wq hq R hR
            have f6 := hq.cell b6
            go_simp
            exact hR _ _ (Ext.refl _) rfl
          · intro xs wq hq hk R hR
            have f6 := hq.cell b6
            go_simp
            exact hR _ _ (Ext.refl _) rfl
          · intro xs wq hq hk R hR
            have f6 := hq.cell b6
            go_simp
            exact hR _ _ (Ext.refl _) rfl
          · intro xs wq hq hk R hR
            have f6 := hq.cell b6
            go_simp
            exact hR _ _ (Ext.refl _) rfl
          · intro xs wq hq R hR
            have f6 := hq.cell b6
            go_simp
            exact hR _ _ (Ext.refl _) rfl
          · intro xs wq hq hk R hR
            go_simp
            exact (calls_any (IsFs.ext HP4.out.fs hq)).mono (by rw [hca]; rintro e' w7 ⟨rfl, rfl⟩; exact ⟨_, rfl, hR _ _ (Ext.refl _) rfl⟩)
          · intro xs wq hq R hR
            have f6 := hq.cell b6
            go_simp
            exact hR _ _ (Ext.refl _) rfl
          · intro xs wq hq R hR
            have f6 := hq.cell b6
            go_simp
            exact hR _ _ (Ext.refl _) rfl
          · intro xs wq hq R hR
            have f6 := hq.cell b6
            go_simp
            exact hR _ _ (Ext.refl _) rfl
          · intro xs wq hq hk R hR
            go_simp
            exact (clone_any _ data _ (IsBytes.ext HV4.out hq) (by omega)).mono (by rintro e' w7 ⟨⟨u, rfl, hu⟩, h2⟩; exact ⟨_, rfl, hR _ _ h2 (hu.mono (fun k hk => Nat.le_trans hq.size hk.1))⟩)
          · intro xs wq hq hk R hR
            obtain ⟨hk0, hk1, hk2, hk3⟩ := hk
            obtain ⟨qa, qc, hqa, -⟩ := id hk3.bytes
            go_simp
            exact hR _ _ (Ext.refl _) ⟨_, _, rfl, hqa ▸ hk3⟩
          · intro xs wq hq hk R hR
            obtain ⟨va, vc, hva, hdv⟩ := hk
            go_simp
            exact hR _ _ ((Ext.refl _).alloc _) ⟨_, _, _, rfl, alloc_at _ _, hdv.ext ((Ext.refl _).alloc _)⟩
        intro xs w6 hx6 hk
        simp only [heldV, Nat.zero_add, Nat.reduceAdd, and_true] at hk
        obtain ⟨q0, q1, q2, q3, q4, q5, q6, q7, q8, q9, q10, q11, q12⟩ := hk
        simp (maxSteps := 1000000) only [List.take_succ_cons, List.take_zero, List.drop_succ_cons, List.drop_zero, fillFrom, Act.put, List.setIfInBounds_toArray, List.set_cons_zero, List.set_cons_succ, Nat.zero_add, Nat.reduceAdd, q0, q1, q2, q3, q4, q5, q6, q7, q8, q9]
        clear q0 q1 q2 q3 q4 q5 q6 q7 q8 q9
        generalize xs 10 = x10 at *
        generalize xs 11 = x11 at *
        generalize xs 12 = x12 at *
        obtain ⟨k6, da, dc, rfl, hk6, hdk⟩ := q12
        have hown6 := owns_ext hown4 hx6
        have hg6 := Ext.row hx6 HG4.out
        have HQ6 : Hid _ := HQ4.out.ext hx6
        have HDK : Hid _ := hdk
        clear hown4 hdk b6
        go_wp2_with (first
          | (at_builtin; go_must (refine app_ev rfl _ _ rfl 0 _ m.users.length _ rfl hown6 k6 1 _ rfl rfl hk6 (by simp [Value.oneCell']) (by omega) (Nat.zero_le _) ?_; intro v7 w7 hown7 hgr7 hwh7; obtain ⟨va', vc', rfl⟩ := owns_some hown7 (by omega); have hg7 : w7.heap[g]? = _ := (hgr7.block g (Array.getElem?_eq_some_iff.1 hg6).1 (fun heq => by obtain ⟨cs9, fr9, hx9⟩ := HQ6.out.users.typed g heq.symm; rw [hg6] at hx9; simp at hx9)).trans hg6))
          | (refine store_field rfl 32 (.tmp 44) (.tmp 42) rfl g 6 rfl (.slice (some ⟨va', 0, none⟩) (m.users.length + 1) vc') rfl rfl _ _ hg7 (Nat.le_of_ble_eq_true rfl) size_evs (fsCells (settle mp).room gm4 gd4 vp4 vl4 (settle mp).calls (.slice (some ⟨va', 0, none⟩) (m.users.length + 1) vc') (settle mp).time (settle mp).down) (by simp) ?_; intro w8 hg8 hgr8))
        refine NoP.intro ?_
        go_wp2
        go_ret
        rw [HDD.out]
        refine ⟨rfl, HP4.out.trans ?_⟩
        exact users_done (m := { settle mp with users := m.users ++ [⟨m.calls, 4, mode, 0, 0, path, data⟩] }) (e := ⟨m.calls, 4, mode, 0, 0, path, data⟩) hx6 hO4 HQ6.out (Each.imp HE4.out (fun c x hx => IsEvR.keepR hx (KeepR.of_keep (KeepB.of_ext hx6)))) hown7 hgr7 hwh7 hg7 hgr8 ⟨_, rfl, HDK.out, show path.length ≤ 1000000 by omega⟩ hg8 rfl rfl rfl rfl HPL4.out hc4
      · have hdd : userWrite m path mode data = (mp, e2) := by rw [HDEF.out, HDN.out, he1, hmp]; simp [hz2]
        have HDD : Hid _ := hdd
        have hzz : (e2 == 0) = false := by simpa using hz2
        clear hdd he1 hmp hps hpb hz2
        go_enter Tryz.func13, Tryz.ntmps13
        go_wp2_with (first
          | (go_at_call 54; go_must (refine (wrong_any path mode _ data _ HE.out HV.out (by omega)).mono ?_; rw [HE1.out]; rintro e w2 ⟨rfl, hx2⟩))
          | (go_at_call 55; go_must (refine (puts_any path mode _ data true (HE.out.ext hx2) (IsFs.ext HH.out hx2) HOK.out ht hp (IsBytes.ext HV.out hx2) hdl2 (HM.out HPB.out)).mono ?_; rw [HMP.out]; rintro e w3 ⟨rfl, hf3⟩; have HF3 : Hid _ := hf3; clear hf3)))
        go_ret
        rw [HDD.out]
        exact ⟨rfl, FsPost.pre hx2 HF3.out⟩
    · have hdd : userWrite m path mode data = (m, e1) := by rw [HDEF.out, HDN.out, he1]; simp [hz]
      have HDD : Hid _ := hdd
      have hzz : (e1 == 0) = false := by simpa using hz
      clear hdd he1 hz
      go_enter Tryz.func13, Tryz.ntmps13
      go_wp2_with (go_at_call 54; go_must (refine (wrong_any path mode _ data _ HE.out HV.out (by omega)).mono ?_; rw [HE1.out]; rintro e w2 ⟨rfl, hx2⟩))
      go_ret
      rw [HDD.out]
      exact ⟨rfl, FsPost.same HH.out hx2⟩


set_option maxRecDepth 100000 in
set_option maxHeartbeats 4000000 in
theorem userRemove_any {S O R : Nat → Prop} {w : World} {p : Value} {m : Fs} (path : B8) (hE : Env w) (h : IsFs S O R w p m) (hok : OkM m) (ht : m.time ≤ 900000) (hp : path.length ≤ 400) :
    Calls Tryz.prog 94 #[p, S8 path] w fun e w' => e = .returned (.int .i64 (userRemove m path).2) ∧ FsPost S O R w p (userRemove m path).1 w' := by
  have HH : Hid (IsFs S O R w p m) := h
  have HE : Hid _ := hE
  have HOK : Hid _ := hok
  have hl := hok.lnow
  have hlu := hok.lusers
  have hdef : userRemove m path = if m.down then (m, 12) else if (removesM m path).2 ≠ 0 then removesM m path
    else ({ settle (removesM m path).1 with users := m.users ++ [⟨m.calls, 5, 0, 0, 0, path, []⟩] }, 0) := rfl
  have HDEF : Hid _ := hdef
  obtain ⟨g, gm, gd, vp, vl, vu, L, c0, rfl, hg, hO, hP, -, -⟩ := h
  obtain ⟨d0, d1, d2, d3, d4, d5, d6, d7, d8⟩ := cellsAt9 hg
  clear hg hP hE hdef hok
  cases hdn : m.down with
  | true =>
    have hdd : userRemove m path = (m, 12) := by rw [HDEF.out, hdn]; rfl
    have HDD : Hid _ := hdd
    rw [hdn] at d8
    clear hdd hdn
    go_enter Tryz.func94, Tryz.ntmps94
    go_wp2
    go_ret
    rw [HDD.out]
    exact ⟨rfl, FsPost.same HH.out (Ext.refl _)⟩
  | false =>
    rw [hdn] at d8
    have HDN : Hid _ := hdn
    clear hdn
    obtain ⟨mp, e2, hmp⟩ : ∃ mp e2, removesM m path = (mp, e2) := ⟨_, _, rfl⟩
    have HMP : Hid _ := hmp
    have hps := @removes_size m path
    rw [hmp] at hps
    simp only at hps
    have HPU : Hid _ := hps.2.1
    have HPC : Hid _ := hps.2.2
    have hpl := hps.1
    by_cases hz2 : e2 = 0
    · subst hz2
      have hdd : userRemove m path = ({ settle mp with users := m.users ++ [⟨m.calls, 5, 0, 0, 0, path, []⟩] }, 0) := by rw [HDEF.out, HDN.out, hmp]; simp
      have HDD : Hid _ := hdd
      clear hdd hmp hps
      go_enter Tryz.func94, Tryz.ntmps94
      go_wp2_with (first
        | (go_at_call 146; go_must (refine (removes_any path HE.out HH.out HOK.out ht hp).mono ?_; rw [HMP.out]; rintro e w3 ⟨rfl, hf3⟩; have HF3 : Hid _ := hf3; clear hf3))
        | (go_at_call 56; go_must (refine (settle_any HF3.out.fs (by omega)).mono ?_; rintro e w4 ⟨rfl, hf4⟩; have HF4 : Hid _ := hf4; clear hf4)))
      have P4 := FsPost.trans HF3.out HF4.out
      have HP4 : Hid _ := P4
      obtain ⟨g4, gm4, gd4, vp4, vl4, vu4, L4, c4, hpe, hg4, hO4, hQ4, hpl4, hc4⟩ := P4.fs
      cases hpe
      obtain ⟨b0, b1, b2, b3, b4, b5, b6, b7, b8⟩ := cellsAt9 hg4
      have hus : (settle mp).users = m.users := HPU.out
      have hca : (settle mp).calls = m.calls := HPC.out
      rw [hus] at hQ4
      obtain ⟨css, hown4, heach4⟩ := hQ4.users
      obtain ⟨ua, uc, rfl, -⟩ := Row.of_owns hown4 (by omega)
      have HQ4 : Hid _ := hQ4
      have HE4 : Hid _ := heach4
      have HG4 : Hid _ := hg4
      have HPL4 : Hid _ := hpl4
      clear P4 hQ4 heach4 hpl4 hg4 d0 d1 d2 d3 d4 d5 d6 d7 d8 b0 b1 b2 b3 b4 b5 b7 b8
      apply wp_region_free 10 0 (.pointer (some ⟨g, 0, none⟩)) [.pointer (some ⟨g, 0, none⟩), _, _, _, _, _, .int .i64 m.calls, _, .agg #[.int .i64 m.calls, .int .i64 5, .int .i64 0, .int .i64 0, .int .i64 0, S8 path, .slice none 0 0], undef] [none, none, none, none, none, none, none, none, none, some (fun u w' => ∃ k, u = .slice (some ⟨k, 0, none⟩) 1 1 ∧ w'.heap[k]? = some (.cells #[.int .i64 m.calls, .int .i64 5, .int .i64 0, .int .i64 0, .int .i64 0, S8 path, .slice none 0 0] 53 (0, 0)))] [[], [], [1], [2], [3], [], [5], [], [6, 7], [8]] (by kernel_rfl) (by kernel_rfl) (by simp [mixV])
      · refine ⟨?_, trivial⟩
        · exact fun _ _ _ he ⟨k, h1, h3⟩ => ⟨k, h1, he.row h3⟩
      · exact ⟨_, rfl, rfl, fun w => by go_simp⟩
      · exact fun _ => rfl
      · simp (maxSteps := 1000000) only [List.take_succ_cons, List.take_zero, oblFrom, stepObl, fillFrom, Act.put, List.setIfInBounds_toArray, List.set_cons_zero, List.set_cons_succ, knows, getV, mixV, List.getD_cons_zero, List.getD_cons_succ, and_true, true_and, forall_const]
        refine ⟨?_, ?_, ?_, ?_, ?_, ?_, ?_, ?_, ?_, ?_⟩
        · intro xs wq hq R hR
          have f6 := hq.cell b6
          go_simp
          exact hR _ _ (Ext.refl _) rfl
        · intro xs wq hq R hR
          have f6 := hq.cell b6
          go_simp
          exact hR _ _ (Ext.refl _) rfl
        · intro xs wq hq hk R hR
          have f6 := hq.cell b6
          go_simp
          exact hR _ _ (Ext.refl _) rfl
        · intro xs wq hq hk R hR
          have f6 := hq.cell b6
          go_simp
          exact hR _ _ (Ext.refl _) rfl
        · intro xs wq hq hk R hR
          have f6 := hq.cell b6
          go_simp
          exact hR _ _ (Ext.refl _) rfl
        · intro xs wq hq R hR
          have f6 := hq.cell b6
          go_simp
          exact hR _ _ (Ext.refl _) rfl
        · intro xs wq hq hk R hR
          go_simp
          exact (calls_any (IsFs.ext HP4.out.fs hq)).mono (by rw [hca]; rintro e' w7 ⟨rfl, rfl⟩; exact ⟨_, rfl, hR _ _ (Ext.refl _) rfl⟩)
        · intro xs wq hq R hR
          have f6 := hq.cell b6
          go_simp
          exact hR _ _ (Ext.refl _) rfl
        · intro xs wq hq hk R hR
          obtain ⟨hk0, hk1⟩ := hk
          have f6 := hq.cell b6
          go_simp
          exact hR _ _ (Ext.refl _) rfl
        · intro xs wq hq hk R hR
          go_simp
          exact hR _ _ ((Ext.refl _).alloc _) ⟨_, rfl, alloc_at _ _⟩
      intro xs w6 hx6 hk
      simp only [heldV, Nat.zero_add, Nat.reduceAdd, and_true] at hk
      obtain ⟨q0, q1, q2, q3, q4, q5, q6, q7, q8, q9⟩ := hk
      simp (maxSteps := 1000000) only [List.take_succ_cons, List.take_zero, List.drop_succ_cons, List.drop_zero, fillFrom, Act.put, List.setIfInBounds_toArray, List.set_cons_zero, List.set_cons_succ, Nat.zero_add, Nat.reduceAdd, q0, q1, q2, q3, q4, q5, q6, q7, q8]
      clear q0 q1 q2 q3 q4 q5 q6 q7 q8
      generalize xs 9 = x9 at *
      obtain ⟨k6, rfl, hk6⟩ := q9
      have hown6 := owns_ext hown4 hx6
      have hg6 := Ext.row hx6 HG4.out
      have HQ6 : Hid _ := HQ4.out.ext hx6
      clear hown4 b6
      go_wp2_with (first
        | (at_builtin; go_must (refine app_ev rfl _ _ rfl 0 _ m.users.length _ rfl hown6 k6 1 _ rfl rfl hk6 (by simp [Value.oneCell']) (by omega) (Nat.zero_le _) ?_; intro v7 w7 hown7 hgr7 hwh7; obtain ⟨va', vc', rfl⟩ := owns_some hown7 (by omega); have hg7 : w7.heap[g]? = _ := (hgr7.block g (Array.getElem?_eq_some_iff.1 hg6).1 (fun heq => by obtain ⟨cs9, fr9, hx9⟩ := HQ6.out.users.typed g heq.symm; rw [hg6] at hx9; simp at hx9)).trans hg6))
        | (refine store_field rfl 32 (.tmp 29) (.tmp 27) rfl g 6 rfl (.slice (some ⟨va', 0, none⟩) (m.users.length + 1) vc') rfl rfl _ _ hg7 (Nat.le_of_ble_eq_true rfl) size_evs (fsCells (settle mp).room gm4 gd4 vp4 vl4 (settle mp).calls (.slice (some ⟨va', 0, none⟩) (m.users.length + 1) vc') (settle mp).time (settle mp).down) (by simp) ?_; intro w8 hg8 hgr8))
      refine NoP.intro ?_
      go_wp2
      go_ret
      rw [HDD.out]
      refine ⟨rfl, HP4.out.trans ?_⟩
      exact users_done (m := { settle mp with users := m.users ++ [⟨m.calls, 5, 0, 0, 0, path, []⟩] }) (e := ⟨m.calls, 5, 0, 0, 0, path, []⟩) hx6 hO4 HQ6.out (Each.imp HE4.out (fun c x hx => IsEvR.keepR hx (KeepR.of_keep (KeepB.of_ext hx6)))) hown7 hgr7 hwh7 hg7 hgr8 ⟨_, rfl, IsData.nil _ _, show path.length ≤ 1000000 by omega⟩ hg8 rfl rfl rfl rfl HPL4.out hc4
    · have hdd : userRemove m path = (mp, e2) := by rw [HDEF.out, HDN.out, hmp]; simp [hz2]
      have HDD : Hid _ := hdd
      have hzz : (e2 == 0) = false := by simpa using hz2
      clear hdd hmp hps hz2
      go_enter Tryz.func94, Tryz.ntmps94
      go_wp2_with (go_at_call 146; go_must (refine (removes_any path HE.out HH.out HOK.out ht hp).mono ?_; rw [HMP.out]; rintro e w3 ⟨rfl, hf3⟩; have HF3 : Hid _ := hf3; clear hf3))
      go_ret
      rw [HDD.out]
      exact ⟨rfl, HF3.out⟩

end Go.Proofs.YtfimfbdlegookaaGreatDoor

/-! fsim.FS: Crash. Conditions: at most 900000 ticks. -/
namespace Go.Proofs.YtfimfbdlegookaaGreatDoor
open Go Go.RowKit

theorem flat_get (m : Nat) : ∀ (css : List (List Value)) (k j : Nat) (c : List Value) (u : Value), (∀ c ∈ css, c.length = m) → css[k]? = some c → c[j]? = some u → css.flatten[m * k + j]? = some u
  | [], k, j, c, u, _, hc, _ => by simp at hc
  | d :: css, 0, j, c, u, hl, hc, hu => by
    have : d = c := by simpa using hc
    subst this
    simp only [List.flatten_cons, Nat.mul_zero, Nat.zero_add]
    rw [List.getElem?_append_left (List.getElem?_eq_some_iff.1 hu).1]
    exact hu
  | d :: css, k + 1, j, c, u, hl, hc, hu => by
    have hd := hl d (by simp)
    have ih := flat_get m css k j c u (fun c h => hl c (by simp [h])) (by simpa using hc) hu
    simp only [List.flatten_cons]
    rw [List.getElem?_append_right (by rw [hd, Nat.mul_add]; omega), hd]
    rw [show m * (k + 1) + j - m = m * k + j by rw [Nat.mul_add]; omega]
    exact ih

theorem IsCh.shape {R : Nat → Prop} {w : World} {cs : List Value} {c : Ch} (h : IsCh R w cs c) : ∃ (p q : B8) (b : Bool) (mode time : Int) (a : Option Addr) (n cap : Nat), cs = [S8 p, S8 q, .bool b, .int .i64 mode, .slice a n cap, .int .i64 time] := by
  cases c with
  | put p f =>
    obtain ⟨_, v, rfl, h3⟩ := h
    obtain ⟨a, cap, rfl, _⟩ := h3.bytes
    exact ⟨_, _, _, _, _, _, _, _, rfl⟩
  | mv s d => obtain ⟨_, _, _, rfl⟩ := h; exact ⟨_, _, _, _, _, _, _, _, rfl⟩
  | del p => obtain ⟨_, rfl⟩ := h; exact ⟨_, _, _, _, _, _, _, _, rfl⟩

/-- A change of a list, in its cells. -/
theorem pend_get {R : Nat → Prop} {w : World} {v : Value} {l : List Ch} (h : OwnL w 126 6 (IsCh R w) v l) (hl : l.length ≤ 1000000) : ∃ a cap, v = .slice a l.length cap ∧ l.length ≤ cap ∧ cap ≤ 9223372036854775807 ∧
    ∀ (k : Nat) c, l[k]? = some c → ∃ b cs, a = some ⟨b, 0, none⟩ ∧ IsCh R w cs c ∧ ∀ j u, cs[j]? = some u → w.cell? ⟨b, k * 6 + j, none⟩ = some u := by
  obtain ⟨css, hown, he⟩ := h
  obtain ⟨hlen, hcase⟩ := hown
  have h6 : ∀ c ∈ css, c.length = 6 := fun c hc => by
    obtain ⟨i, hi, rfl⟩ := List.mem_iff_getElem.1 hc
    have hi2 : i < l.length := by rw [← he.1]; exact hi
    exact (he.2 i css[i] l[i] (List.getElem?_eq_getElem hi) (List.getElem?_eq_getElem hi2)).length.1
  rcases hcase with ⟨rfl, h0⟩ | ⟨g, cap, cur, rfl, _, hg, hc, hm, hs, hx⟩
  · refine ⟨none, 0, by rw [h0], by omega, by omega, fun k c hk => ?_⟩
    have := (List.getElem?_eq_some_iff.1 hk).1
    omega
  · refine ⟨_, cap, rfl, hc, by unfold maxLen at hm; omega, fun k c hk => ?_⟩
    have hkl : k < css.length := by rw [he.1]; exact (List.getElem?_eq_some_iff.1 hk).1
    refine ⟨g, css[k], rfl, he.2 k _ c (List.getElem?_eq_getElem hkl) hk, fun j u hu => ?_⟩
    have hf := flat_get 6 css k j _ u h6 (List.getElem?_eq_getElem hkl) hu
    rw [← hx] at hf
    have hi := (List.getElem?_eq_some_iff.1 hf).1
    rw [List.getElem?_take_of_lt (by simp at hi; omega)] at hf
    rw [Nat.mul_comm]
    simpa [World.cell?, hg] using hf

theorem fold_length (l : Files) : ∀ cs : List Ch, (cs.foldl ap l).length ≤ l.length + cs.length := by
  intro cs
  induction cs generalizing l with
  | nil => simp
  | cons c cs ih =>
    have h1 := ih (ap l c)
    have h2 := ap_length l c
    simp only [List.foldl_cons, List.length_cons]
    omega
theorem fold_snoc {l : Files} {cs : List Ch} {k : Nat} {c : Ch} (h : cs[k]? = some c) : (cs.take (k + 1)).foldl ap l = ap ((cs.take k).foldl ap l) c := by
  rw [List.take_add_one, h]
  simp [List.foldl_append]

theorem IsData.takeN {R : Nat → Prop} {w : World} {a : Option Addr} {l : B8} {cap n : Nat} (h : IsData R w (.slice a l.length cap) l) (hn : n ≤ l.length) : IsBytes w (.slice a n cap) (l.take n) := by
  obtain ⟨a', cap', he, h1, h2, h3, h4⟩ := h.bytes
  simp only [Value.slice.injEq, true_and] at he
  obtain ⟨rfl, rfl⟩ := he
  have hl : (l.take n).length = n := by rw [List.length_take]; omega
  refine ⟨a, cap, by rw [hl], by omega, h2, by omega, fun hne => ?_⟩
  obtain ⟨b, o, rfl, hc⟩ := h4 (by
    intro h0
    have : l = [] := by simpa using h0
    subst this
    simp at hne)
  refine ⟨b, o, rfl, fun i u hu => hc i u ?_⟩
  rw [List.getElem?_map] at hu ⊢
  obtain ⟨x, hx, rfl⟩ := Option.map_eq_some_iff.1 hu
  rw [List.getElem?_take] at hx
  split at hx
  · rw [hx]; rfl
  · simp at hx

/-- The fall, told: what was durable is what is there now. -/
theorem crash_done {S O R : Nat → Prop} {w w3 w4 w5 w6 w7 : World} {g gm gd g2 c0 : Nat} {vp vl vu : Value} {L : List Ev} {m : Fs} {l : Files} (hO : O g) (hg : w.heap[g]? = some (.cells (fsCells m.room gm gd vp vl m.calls vu m.time m.down) 107 (0, 0)))
    (hP : Parts S O R w gm gd vp vl vu m.now m.sure m.pend L m.users) (hW3 : w.grownBy w3 (some gd)) (hf3 : IsFiles (On R w.heap.size) w3 gd l) (hx4 : Ext w3 w4) (hge : w3.heap.size ≤ g2) (hf4 : IsFiles (On R w.heap.size) w4 g2 l)
    {a1 a2 : Array Value} (hg4 : w4.heap[g]? = some (.cells a1 107 (0, 0))) (hg5 : w4.grownBy w5 (some g)) (hh5 : w5.heap[g]? = some (.cells a2 107 (0, 0))) (hg6 : w5.grownBy w6 (some g)) {a3 : Array Value} (hh6 : w6.heap[g]? = some (.cells a3 107 (0, 0))) (hg7 : w6.grownBy w7 (some g))
    (hh7 : w7.heap[g]? = some (.cells (fsCells m.room g2 gd (.slice none 0 0) vl m.calls vu m.time true) 107 (0, 0))) (hpl : m.plan = L.filter (fun e => decide ((c0 : Int) < e.t))) (hc0 : c0 ≤ m.calls ∧ L.length ≤ 1000) :
    FsPost S O R w (.pointer (some ⟨g, 0, none⟩)) { m with now := l, sure := l, pend := [], down := true } w7 := by
  have hlt := hP.sure.lt
  have hP3 := (hP.mono (O' := On O w.heap.size) (R' := On R w.heap.size) (fun k hk => .inl hk) (fun k hk => .inl hk)).mapSure hW3 hf3
  have q := hP3.ext hx4
  have P4 : Parts S (On O w.heap.size) (On R w.heap.size) w4 g2 gd (.slice none 0 0) vl vu l l [] L m.users :=
    ⟨by have := hW3.size; omega, .inr (Nat.le_trans hW3.size hge), q.od, hf4, q.sure, ⟨[], World.ownsRow_nil _ _ _ _, Each.nil _⟩, Inn.nil _ _ _, q.plan, q.ol, q.users, q.ou, q.off⟩
  refine ⟨IsFs.fit ⟨g, g2, gd, _, vl, vu, L, c0, rfl, hh7, .inl hO, ((P4.own hg4 hg5).own hh5 hg6).own hh6 hg7, hpl, hc0⟩, ?_⟩
  have f1 : Fr O w w4 := ((Fr.refl O w).step hW3 (fun k hk => by cases hk; exact .inl hP.od) (by rintro k hk; cases hk; exact hP.sure.notU8)).ext hx4
  exact ((f1.step hg5 (fun k hk => by cases hk; exact .inl hO) (by rintro k hk; cases hk; exact cells_u8 hg4 (by kernel_rfl))).step hg6 (fun k hk => by cases hk; exact .inl hO) (by rintro k hk; cases hk; exact cells_u8 hh5 (by kernel_rfl))).step hg7 (fun k hk => by cases hk; exact .inl hO) (by rintro k hk; cases hk; exact cells_u8 hh6 (by kernel_rfl))

set_option maxRecDepth 100000 in
set_option maxHeartbeats 4000000 in
theorem crash_any {S O R : Nat → Prop} {w : World} {p : Value} {m : Fs} (keep torn : Int) (h : IsFs S O R w p m) (hok : OkM m) (ht : m.time ≤ 900000) (hk64 : I64 keep) (ht64 : I64 torn) :
    Calls Tryz.prog 28 #[p, .int .i64 keep, .int .i64 torn] w fun e w' => e = .returned (.tuple #[]) ∧ FsPost S O R w p (crash m keep torn) w' := by
  have HH : Hid (IsFs S O R w p m) := h
  obtain ⟨g, gm, gd, vp, vl, vu, L, c0, rfl, hg, hO, hP, hpl1, hc0⟩ := h
  obtain ⟨d0, d1, d2, d3, d4, d5, d6, d7, d8⟩ := cellsAt9 hg
  have hlp := hok.lpend
  have hls := hok.lsure
  obtain ⟨pa, pc, rfl, hpc1, hpc2, hget⟩ := pend_get hP.pend (by omega)
  have HG : Hid _ := hg
  have HP : Hid _ := hP
  have HGET : Hid _ := hget
  have HMV : Hid _ := hok.mvs
  have HDP : Hid _ := hok.dpend
  have HPL : Hid _ := hpl1
  have hdef : crash m keep torn = if m.down then m else { m with now := fallen m keep torn, sure := fallen m keep torn, pend := [], down := true } := rfl
  have HDEF : Hid _ := hdef
  have hgl := (Array.getElem?_eq_some_iff.1 hg).1
  have hgne : g ≠ w.heap.size := by omega
  have hdl := hP.sure.lt
  unfold I64 at hk64 ht64
  cases hdn : m.down with
  | true =>
    have hdd : crash m keep torn = m := by rw [hdef, hdn]; rfl
    have HDD : Hid _ := hdd
    rw [hdn] at d8
    clear hg hP hget hok hpl1 hdef hdn hdd
    go_enter Tryz.func28, Tryz.ntmps28
    go_wp2
    refine bodyPost_ret (results_none rfl _ _ _) rfl ?_
    rw [HDD.out]
    exact ⟨rfl, FsPost.same HH.out (Ext.refl _)⟩
  | false =>
    obtain ⟨N, hN⟩ : ∃ N, keepN m keep = N := ⟨_, rfl⟩
    have hN1 : N ≤ m.pend.length := by rw [← hN]; unfold keepN; omega
    have hmin : min (max keep 0) (m.pend.length : Int) = (N : Int) := by rw [← hN]; unfold keepN; omega
    have hdd : crash m keep torn = { m with now := fallen m keep torn, sure := fallen m keep torn, pend := [], down := true } := by rw [hdef, hdn]; rfl
    have HDD : Hid _ := hdd
    have hfa : fallen m keep torn = torn1 ((m.pend.take N).foldl ap m.sure) torn m.pend[N]? := by unfold fallen; rw [hN]
    have HFA : Hid _ := hfa
    rw [hdn] at d8
    have HDN : Hid _ := hdn
    clear hg hP hget hok hpl1 hdef hdn hdd hfa hN HDEF
    go_enter Tryz.func28, Tryz.ntmps28
    go_wp2
    go_loopw [29] (fun i wr => ∃ k : Nat, k ≤ N ∧ i = .int .i64 k ∧ IsFiles R wr gd ((m.pend.take k).foldl ap m.sure) ∧ w.grownBy wr (some gd)) (fun i _ => N - (intOf i).toNat)
    case atStart => exact ⟨0, Nat.zero_le _, rfl, HP.out.sure, ⟨rfl, rfl, rfl, Nat.le_refl _, fun _ _ _ => rfl⟩⟩
    case round =>
      obtain ⟨k, hk, rfl, hfs, hgw⟩ := hrel
      have HFS : Hid _ := hfs
      have HGW : Hid _ := hgw
      have hgg : wr.heap[g]? = _ := (hgw.block g hgl (by
        have := apart_kind HG.out (by exact (HP.out.sure.kind).choose_spec.choose_spec) (by simp)
        simpa using this)).trans HG.out
      rw [HDN.out] at hgg
      have HGG : Hid _ := hgg
      have hflen := fold_length m.sure (m.pend.take k)
      have htl : (m.pend.take k).length ≤ k := List.length_take_le _ _
      have hrs := hgw.size
      clear hfs hgw
      by_cases hlt : k < N
      ·
        obtain ⟨c, hc⟩ : ∃ c, m.pend[k]? = some c := ⟨_, List.getElem?_eq_getElem (by omega)⟩
        obtain ⟨b, cs, rfl, hcc, hcell⟩ := HGET.out k c hc
        obtain ⟨cp, cq, cb, cm, ct, ca, cn, ccap, rfl⟩ := hcc.shape
        have hbb : ∀ j u, w.cell? ⟨b, k * 6 + j, none⟩ = some u → wr.cell? ⟨b, k * 6 + j, none⟩ = some u := fun j u hu => by
          obtain ⟨xs9, fr9, hx9⟩ := HP.out.pend.typed b rfl
          rw [World.cell?_of_block (w := w) (w' := wr) (a := ⟨b, k * 6 + j, none⟩) (HGW.out.block b (World.block_lt_of_cell? _ _ hu) (by
            have := apart_kind hx9 (by exact (HP.out.sure.kind).choose_spec.choose_spec) (by simp)
            simpa using this))]
          exact hu
        have x0 := hbb 0 _ (hcell 0 _ rfl)
        have x1 := hbb 1 _ (hcell 1 _ rfl)
        have x2 := hbb 2 _ (hcell 2 _ rfl)
        have x3 := hbb 3 _ (hcell 3 _ rfl)
        have x4 := hbb 4 _ (hcell 4 _ rfl)
        have x5 := hbb 5 _ (hcell 5 _ rfl)
        simp only [Nat.add_zero] at x0
        have hccr : IsCh R wr [S8 cp, S8 cq, .bool cb, .int .i64 cm, .slice ca cn ccap, .int .i64 ct] c := hcc.keepR (grownR HGW.out (by rintro k hk; cases hk; exact HP.out.sure.notU8))
        have HCC : Hid _ := hccr
        have HC : Hid _ := hc
        have hmvk : ∀ s d, c = .mv s d → (look ((m.pend.take k).foldl ap m.sure) s).isSome = true := fun s d hh => HMV.out k s d (by rw [hc, hh])
        have HMK : Hid _ := hmvk
        have hxa : Ext wr (wr.alloc (.cells #[S8 cp, S8 cq, .bool cb, .int .i64 cm, .slice ca cn ccap, .int .i64 ct] 126)) := (Ext.refl wr).alloc _
        obtain ⟨y0, y1, y2, y3, y4, y5⟩ := cellsAt6 (alloc_at wr (.cells #[S8 cp, S8 cq, .bool cb, .int .i64 cm, .slice ca cn ccap, .int .i64 ct] 126))
        obtain ⟨z0, z1, z2, z3, z4, z5, z6, z7, z8⟩ := cellsAt9 (Ext.row hxa HGG.out)
        have HXA : Hid _ := hxa
        clear hbb hcell hcc hccr hmvk hc hxa hgg z0 z1 z3 z4 z5 z6 z7 z8
        go_wp2
        apply wp_region_mix 5 [_, _, _, _, .agg #[S8 cp, S8 cq, .bool cb, .int .i64 cm, .slice ca cn ccap, .int .i64 ct]] [none, none, none, none, none] [[], [0], [1], [2], []] (by kernel_rfl) (by kernel_rfl) (by simp [mixV])
        · trivial
        · simp (maxSteps := 1000000) only [List.take_succ_cons, List.take_zero, oblFrom, stepObl, fillFrom, Act.put, List.setIfInBounds_toArray, List.set_cons_zero, List.set_cons_succ, knows, getV, mixV, List.getD_cons_zero, List.getD_cons_succ, and_true, true_and, forall_const]
          refine ⟨?_, ?_, ?_, ?_, ?_⟩
          · intro xs wq hq R hR
            have c1 := hq.cell z2; have c2 := hq.cell y0; have c3 := hq.cell y1; have c4 := hq.cell y2; have c5 := hq.cell y3; have c6 := hq.cell y4; have c7 := hq.cell y5
            go_simp
            exact hR _ _ (Ext.refl _) rfl
          · intro xs wq hq hk R hR
            have c1 := hq.cell z2; have c2 := hq.cell y0; have c3 := hq.cell y1; have c4 := hq.cell y2; have c5 := hq.cell y3; have c6 := hq.cell y4; have c7 := hq.cell y5
            go_simp
            exact hR _ _ (Ext.refl _) rfl
          · intro xs wq hq hk R hR
            have c1 := hq.cell z2; have c2 := hq.cell y0; have c3 := hq.cell y1; have c4 := hq.cell y2; have c5 := hq.cell y3; have c6 := hq.cell y4; have c7 := hq.cell y5
            go_simp
            exact hR _ _ (Ext.refl _) rfl
          · intro xs wq hq hk R hR
            have c1 := hq.cell z2; have c2 := hq.cell y0; have c3 := hq.cell y1; have c4 := hq.cell y2; have c5 := hq.cell y3; have c6 := hq.cell y4; have c7 := hq.cell y5
            go_simp
            exact hR _ _ (Ext.refl _) rfl
          · intro xs wq hq R hR
            have c1 := hq.cell z2; have c2 := hq.cell y0; have c3 := hq.cell y1; have c4 := hq.cell y2; have c5 := hq.cell y3; have c6 := hq.cell y4; have c7 := hq.cell y5
            go_simp
            exact hR _ _ (Ext.refl _) rfl
        intro xs w4 hx4 hk
        simp only [heldV, Nat.zero_add, Nat.reduceAdd, and_true] at hk
        obtain ⟨q0, q1, q2, q3, q4⟩ := hk
        simp (maxSteps := 1000000) only [List.take_succ_cons, List.take_zero, List.drop_succ_cons, List.drop_zero, fillFrom, Act.put, List.setIfInBounds_toArray, List.set_cons_zero, List.set_cons_succ, Nat.zero_add, Nat.reduceAdd, q0, q1, q2, q3, q4]
        clear q0 q1 q2 q3 q4
        have hxr := Ext.trans HXA.out hx4
        go_wp2_with (go_at_call 74; go_must (refine (make_any c [S8 cp, S8 cq, .bool cb, .int .i64 cm, .slice ca cn ccap, .int .i64 ct] (HFS.out.ext hxr) (IsCh.keepR HCC.out (KeepR.of_keep (KeepB.of_ext hxr))) HMK.out (by omega)).mono ?_; rintro e w5 ⟨rfl, hf5, hg5⟩))
        go_roundw
        case rel => exact ⟨k + 1, by omega, by go_num, by rw [fold_snoc HC.out]; exact hf5, (ext_grown HGW.out hxr).trans hg5⟩
        case measure => simp [intOf]; omega
      · have hkk : k = N := by omega
        subst hkk
        obtain ⟨z0, z1, z2, z3, z4, z5, z6, z7, z8⟩ := cellsAt9 HGG.out
        clear hgg
        by_cases hNl : k < m.pend.length
        · have hNli : (k : Int) < (m.pend.length : Int) := by omega
          obtain ⟨c, hc⟩ : ∃ c, m.pend[k]? = some c := ⟨_, List.getElem?_eq_getElem hNl⟩
          obtain ⟨b, cs, rfl, hcc, hcell⟩ := HGET.out k c hc
          have hbb : ∀ j u, w.cell? ⟨b, k * 6 + j, none⟩ = some u → wr.cell? ⟨b, k * 6 + j, none⟩ = some u := fun j u hu => by
            obtain ⟨xs9, fr9, hx9⟩ := HP.out.pend.typed b rfl
            rw [World.cell?_of_block (w := w) (w' := wr) (a := ⟨b, k * 6 + j, none⟩) (HGW.out.block b (World.block_lt_of_cell? _ _ hu) (by
              have := apart_kind hx9 (by exact (HP.out.sure.kind).choose_spec.choose_spec) (by simp)
              simpa using this))]
            exact hu
          have HBB : Hid _ := hbb
          have HC : Hid _ := hc
          have hccr : IsCh R wr cs c := hcc.keepR (grownR HGW.out (by rintro k hk; cases hk; exact HP.out.sure.notU8))
          clear hbb hc
          by_cases ht0 : torn < 0
          · have htn : ¬ (0 : Int) ≤ torn := by omega
            have FF : Hid (IsFiles (On R w.heap.size) wr gd ((m.pend.take k).foldl ap m.sure)) := HFS.out.mono (fun k hk => .inl hk)
            have FW : Hid _ := HGW.out
            have FG : Hid _ := HGG.out
            have FL : Hid (((m.pend.take k).foldl ap m.sure).length ≤ 10000000) := by unfold Hid; omega
            have FA : Hid (torn1 ((m.pend.take k).foldl ap m.sure) torn m.pend[k]? = ((m.pend.take k).foldl ap m.sure)) := by
              unfold Hid; rw [HC.out]
              cases c with
              | put q f => exact if_neg (by omega)
              | mv s d => rfl
              | del q => rfl
            clear hcell hcc hccr htn
            go_wp2_with (first
              | (go_at_call 75; go_must (refine (copied_any FF.out (by have := FL.out; omega)).mono ?_; rintro e w4 ⟨⟨g2, rfl, hge, hf4⟩, hx4⟩; have hg4 := Ext.row hx4 FG.out))
              | (refine store_field rfl 99 (.tmp 89) (.tmp 87) rfl g 1 rfl (.map (some g2)) rfl rfl _ _ hg4 (Nat.le_of_ble_eq_true rfl) size_map (fsCells m.room g2 gd (.slice (some ⟨b, 0, none⟩) m.pend.length pc) vl m.calls vu m.time false) (by simp) ?_; intro w5 hg5 hgr5)
              | (refine store_field rfl 100 (.tmp 92) _ rfl g 3 rfl (.slice none 0 0) rfl rfl _ _ hg5 (Nat.le_of_ble_eq_true rfl) size_chs (fsCells m.room g2 gd (.slice none 0 0) vl m.calls vu m.time false) (by simp) ?_; intro w6 hg6 hgr6)
              | (refine store_field rfl 4 (.tmp 95) _ rfl g 8 rfl (.bool true) rfl rfl _ _ hg6 (Nat.le_of_ble_eq_true rfl) size_bool (fsCells m.room g2 gd (.slice none 0 0) vl m.calls vu m.time true) (by simp) ?_; intro w7 hg7 hgr7))
            go_end0
            rw [HDD.out, HFA.out, FA.out]
            exact ⟨rfl, crash_done hO HG.out HP.out FW.out FF.out hx4 hge hf4 hg4 hgr5 hg5 hgr6 hg6 hgr7 hg7 HPL.out hc0⟩
          · have htp : (0 : Int) ≤ torn := by omega
            cases c with
            | put q f =>
              obtain ⟨hql, v, rfl, hd⟩ := hccr
              obtain ⟨fa, fc, rfl, -⟩ := id hd.bytes
              have x0 := HBB.out 0 _ (hcell 0 _ rfl)
              have x1 := HBB.out 1 _ (hcell 1 _ rfl)
              have x2 := HBB.out 2 _ (hcell 2 _ rfl)
              have x3 := HBB.out 3 _ (hcell 3 _ rfl)
              have x4 := HBB.out 4 _ (hcell 4 _ rfl)
              have x5 := HBB.out 5 _ (hcell 5 _ rfl)
              simp only [Nat.add_zero] at x0
              have HD : Hid _ := hd
              have hxb : Ext wr (wr.alloc (.cells #[S8 q, S8 [], .bool true, .int .i64 f.mode, .slice fa f.data.length fc, .int .i64 f.time] 126)) := (Ext.refl wr).alloc _
              obtain ⟨y0, y1, y2, y3, y4, y5⟩ := cellsAt6 (alloc_at wr (.cells #[S8 q, S8 [], .bool true, .int .i64 f.mode, .slice fa f.data.length fc, .int .i64 f.time] 126))
              obtain ⟨q0, q1, q2, q3, q4, q5, q6, q7, q8⟩ := cellsAt9 (Ext.row hxb HGG.out)
              clear hcell hcc hd
              by_cases htl : torn < (f.data.length : Int)
              · obtain ⟨n, rfl⟩ : ∃ n : Nat, torn = n := ⟨torn.toNat, by omega⟩
                have hnl : n < f.data.length := by omega
                have hnt : ((n : Int)).toNat = n := by omega
                have hbt := HD.out.takeN (n := n) (by omega)
                obtain ⟨fa', fc', he9, hcap, -⟩ := id HD.out.bytes
                simp only [Value.slice.injEq, true_and] at he9
                obtain ⟨rfl, rfl⟩ := he9
                have hnc : (n : Int) ≤ (fc : Int) := by omega
                have htl9 : (f.data.take n).length = n := by rw [List.length_take]; omega
                have FA0 : torn1 ((m.pend.take k).foldl ap m.sure) n m.pend[k]? = ap ((m.pend.take k).foldl ap m.sure) (.put q { f with data := f.data.take n }) := by
                  rw [HC.out]
                  exact (if_pos ⟨htp, htl⟩).trans (by rw [hnt])
                obtain ⟨td, htd⟩ : ∃ td, f.data.take n = td := ⟨_, rfl⟩
                rw [htd] at hbt htl9 FA0
                rw [show Value.slice fa n fc = .slice fa td.length fc by rw [htl9]] at hbt
                have hdl : td.length ≤ f.data.length := by omega
                have HBT : Hid _ := hbt
                have FA : Hid _ := FA0
                have HTN : Hid _ := htl9
                have HXB : Hid _ := hxb
                clear hbt htl9 FA0 htd hxb
                have hdl2 : f.data.length ≤ 20000 := (HDP.out _ (List.mem_of_getElem? HC.out)).2
                go_upto_region 10 with fail
                obtain ⟨wx, hwx⟩ : ∃ wx, wx = wr.alloc (.cells #[S8 q, S8 [], .bool true, .int .i64 f.mode, .slice fa f.data.length fc, .int .i64 f.time] 126) := ⟨_, rfl⟩
                have HWX : Hid _ := hwx
                rw [← hwx] at y0 y1 y2 y3 y4 y5 q0 q1 q2 q3 q4 q5 q6 q7 q8
                have hxx : Ext wr wx := by rw [hwx]; exact (Ext.refl _).alloc _
                have hbx : wx.heap[wr.heap.size]? = some (.cells #[S8 q, S8 [], .bool true, .int .i64 f.mode, .slice fa f.data.length fc, .int .i64 f.time] 126 (0, 0)) := by rw [hwx]; exact alloc_at _ _
                have hbtx : IsBytes wx (.slice fa n fc) td := by
                  have := IsBytes.ext HBT.out hxx
                  rwa [HTN.out] at this
                have HBX : Hid _ := hbtx
                clear hwx hbtx
                rw [show wr.alloc (.cells #[S8 q, S8 [], .bool true, .int .i64 f.mode, .slice fa f.data.length fc, .int .i64 f.time] 126) = wx from HWX.out.symm]
                go_wp2_with fail
                go_at_call 57
                refine (clone_any _ td _ HBX.out (by omega)).mono ?_
                rintro e w2 ⟨⟨v2, rfl, hd2⟩, hx2⟩
                obtain ⟨ca, cc, rfl, -⟩ := id hd2.bytes
                have HD2 : Hid _ := hd2
                have hbx2 := hx2.row hbx
                have hxr2 := hxx.trans hx2
                clear hd2 y0 y1 y2 y3 y4 y5 q0 q1 q2 q3 q4 q5 q6 q7 q8 hbx
                go_wp2_with (refine store_field rfl 31 (.tmp 75) (.tmp 73) rfl wr.heap.size 4 rfl (.slice ca td.length cc) rfl rfl _ _ hbx2 (Nat.le_of_ble_eq_true rfl) size_bytes #[S8 q, S8 [], .bool true, .int .i64 f.mode, .slice ca td.length cc, .int .i64 f.time] (by simp) ?_; intro w3 hb3 hgr3)
                have hxr3 : Ext wr w3 := Ext.but hxr2 hgr3 (Nat.le_refl _)
                obtain ⟨q0, q1, q2, q3, q4, q5, q6, q7, q8⟩ := cellsAt9 (Ext.row hxr3 HGG.out)
                obtain ⟨y0, y1, y2, y3, y4, y5⟩ := cellsAt6 hb3
                apply wp_region_mix 5 [_, _, _, _, .agg #[S8 q, S8 [], .bool true, .int .i64 f.mode, .slice ca td.length cc, .int .i64 f.time]] [none, none, none, none, none] [[], [0], [1], [2], []] (by kernel_rfl) (by kernel_rfl) (by simp [mixV])
                · trivial
                · simp (maxSteps := 1000000) only [List.take_succ_cons, List.take_zero, oblFrom, stepObl, fillFrom, Act.put, List.setIfInBounds_toArray, List.set_cons_zero, List.set_cons_succ, knows, getV, mixV, List.getD_cons_zero, List.getD_cons_succ, and_true, true_and, forall_const]
                  refine ⟨?_, ?_, ?_, ?_, ?_⟩
                  · intro xs wq hq R hR
                    have c1 := hq.cell q2; have c2 := hq.cell y0; have c3 := hq.cell y1; have c4 := hq.cell y2; have c5 := hq.cell y3; have c6 := hq.cell y4; have c7 := hq.cell y5
                    go_simp
                    exact hR _ _ (Ext.refl _) rfl
                  · intro xs wq hq hk R hR
                    have c1 := hq.cell q2; have c2 := hq.cell y0; have c3 := hq.cell y1; have c4 := hq.cell y2; have c5 := hq.cell y3; have c6 := hq.cell y4; have c7 := hq.cell y5
                    go_simp
                    exact hR _ _ (Ext.refl _) rfl
                  · intro xs wq hq hk R hR
                    have c1 := hq.cell q2; have c2 := hq.cell y0; have c3 := hq.cell y1; have c4 := hq.cell y2; have c5 := hq.cell y3; have c6 := hq.cell y4; have c7 := hq.cell y5
                    go_simp
                    exact hR _ _ (Ext.refl _) rfl
                  · intro xs wq hq hk R hR
                    have c1 := hq.cell q2; have c2 := hq.cell y0; have c3 := hq.cell y1; have c4 := hq.cell y2; have c5 := hq.cell y3; have c6 := hq.cell y4; have c7 := hq.cell y5
                    go_simp
                    exact hR _ _ (Ext.refl _) rfl
                  · intro xs wq hq R hR
                    have c1 := hq.cell q2; have c2 := hq.cell y0; have c3 := hq.cell y1; have c4 := hq.cell y2; have c5 := hq.cell y3; have c6 := hq.cell y4; have c7 := hq.cell y5
                    go_simp
                    exact hR _ _ (Ext.refl _) rfl
                intro xs w4 hx4 hk
                simp only [heldV, Nat.zero_add, Nat.reduceAdd, and_true] at hk
                obtain ⟨q0, q1, q2, q3, q4⟩ := hk
                simp (maxSteps := 1000000) only [List.take_succ_cons, List.take_zero, List.drop_succ_cons, List.drop_zero, fillFrom, Act.put, List.setIfInBounds_toArray, List.set_cons_zero, List.set_cons_succ, Nat.zero_add, Nat.reduceAdd, q0, q1, q2, q3, q4]
                clear q0 q1 q2 q3 q4
                have hxr4 := hxr3.trans hx4
                have hd4 : IsData (On R w.heap.size) w4 (.slice ca td.length cc) td := by
                  have hu : ¬ IsU8 w2 wr.heap.size := cells_u8 hbx2 (by kernel_rfl)
                  have h9 : IsData (On R w.heap.size) w2 (.slice ca td.length cc) td := HD2.out.mono (fun k hk => .inr (by have := hk.1; have := hxx.size; omega))
                  exact (h9.keepR (grown_keepR hgr3 hu)).ext hx4
                have HD4 : Hid _ := hd4
                have FG4 : Hid _ := Ext.row hxr4 HGG.out
                have HW4 : Hid _ := ext_grown HGW.out hxr4
                have HF4 : Hid (IsFiles (On R w.heap.size) w4 gd ((m.pend.take k).foldl ap m.sure)) := (HFS.out.ext hxr4).mono (fun k hk => .inl hk)
                clear hd4 q0 q1 q2 q3 q4 q5 q6 q7 q8 y0 y1 y2 y3 y4 y5
                go_wp2_with (go_at_call 74; go_must (refine (make_any (.put q { f with data := td }) [S8 q, S8 [], .bool true, .int .i64 f.mode, .slice ca td.length cc, .int .i64 f.time] HF4.out ⟨hql, _, rfl, HD4.out⟩ (fun s d h => by cases h) (by omega)).mono ?_; rintro e w9 ⟨rfl, hf9, hg9⟩; have hne9 := apart_kind FG4.out (by exact (HF4.out.kind).choose_spec.choose_spec) (by simp); have hgg9 := but_row hg9 FG4.out hne9; obtain ⟨q0, q1, q2, q3, q4, q5, q6, q7, q8⟩ := cellsAt9 hgg9; have FF : Hid _ := hf9; have FG : Hid _ := hgg9; have FW : Hid _ := HW4.out.trans hg9; have FL : Hid ((ap ((m.pend.take k).foldl ap m.sure) (.put q { f with data := td })).length ≤ 10000000) := by have := ap_length ((m.pend.take k).foldl ap m.sure) (.put q { f with data := td }); unfold Hid; omega))
                clear hgg9 hf9
                go_wp2_with (first
                  | (go_at_call 75; go_must (refine (copied_any FF.out (by have := FL.out; omega)).mono ?_; rintro e w4 ⟨⟨g2, rfl, hge, hf4⟩, hx4⟩; have hg4 := Ext.row hx4 FG.out))
                  | (refine store_field rfl 99 (.tmp 89) (.tmp 87) rfl g 1 rfl (.map (some g2)) rfl rfl _ _ hg4 (Nat.le_of_ble_eq_true rfl) size_map (fsCells m.room g2 gd (.slice (some ⟨b, 0, none⟩) m.pend.length pc) vl m.calls vu m.time false) (by simp) ?_; intro w5 hg5 hgr5)
                  | (refine store_field rfl 100 (.tmp 92) _ rfl g 3 rfl (.slice none 0 0) rfl rfl _ _ hg5 (Nat.le_of_ble_eq_true rfl) size_chs (fsCells m.room g2 gd (.slice none 0 0) vl m.calls vu m.time false) (by simp) ?_; intro w6 hg6 hgr6)
                  | (refine store_field rfl 4 (.tmp 95) _ rfl g 8 rfl (.bool true) rfl rfl _ _ hg6 (Nat.le_of_ble_eq_true rfl) size_bool (fsCells m.room g2 gd (.slice none 0 0) vl m.calls vu m.time true) (by simp) ?_; intro w7 hg7 hgr7))
                go_end0
                rw [HDD.out, HFA.out, FA.out]
                exact ⟨rfl, crash_done hO HG.out HP.out FW.out FF.out hx4 hge hf4 hg4 hgr5 hg5 hgr6 hg6 hgr7 hg7 HPL.out hc0⟩
              · have FA : Hid (torn1 ((m.pend.take k).foldl ap m.sure) torn m.pend[k]? = ((m.pend.take k).foldl ap m.sure)) := by
                  unfold Hid; rw [HC.out]
                  exact if_neg (by omega)
                have FF : Hid (IsFiles (On R w.heap.size) (wr.alloc (.cells #[S8 q, S8 [], .bool true, .int .i64 f.mode, .slice fa f.data.length fc, .int .i64 f.time] 126)) gd ((m.pend.take k).foldl ap m.sure)) := (HFS.out.ext hxb).mono (fun k hk => .inl hk)
                have FW : Hid (w.grownBy (wr.alloc (.cells #[S8 q, S8 [], .bool true, .int .i64 f.mode, .slice fa f.data.length fc, .int .i64 f.time] 126)) (some gd)) := ext_grown HGW.out hxb
                have FG : Hid _ := Ext.row hxb HGG.out
                have FL : Hid (((m.pend.take k).foldl ap m.sure).length ≤ 10000000) := by unfold Hid; omega
                clear hxb
                go_wp2_with (first
                  | (go_at_call 75; go_must (refine (copied_any FF.out (by have := FL.out; omega)).mono ?_; rintro e w4 ⟨⟨g2, rfl, hge, hf4⟩, hx4⟩; have hg4 := Ext.row hx4 FG.out))
                  | (refine store_field rfl 99 (.tmp 89) (.tmp 87) rfl g 1 rfl (.map (some g2)) rfl rfl _ _ hg4 (Nat.le_of_ble_eq_true rfl) size_map (fsCells m.room g2 gd (.slice (some ⟨b, 0, none⟩) m.pend.length pc) vl m.calls vu m.time false) (by simp) ?_; intro w5 hg5 hgr5)
                  | (refine store_field rfl 100 (.tmp 92) _ rfl g 3 rfl (.slice none 0 0) rfl rfl _ _ hg5 (Nat.le_of_ble_eq_true rfl) size_chs (fsCells m.room g2 gd (.slice none 0 0) vl m.calls vu m.time false) (by simp) ?_; intro w6 hg6 hgr6)
                  | (refine store_field rfl 4 (.tmp 95) _ rfl g 8 rfl (.bool true) rfl rfl _ _ hg6 (Nat.le_of_ble_eq_true rfl) size_bool (fsCells m.room g2 gd (.slice none 0 0) vl m.calls vu m.time true) (by simp) ?_; intro w7 hg7 hgr7))
                go_end0
                rw [HDD.out, HFA.out, FA.out]
                exact ⟨rfl, crash_done hO HG.out HP.out FW.out FF.out hx4 hge hf4 hg4 hgr5 hg5 hgr6 hg6 hgr7 hg7 HPL.out hc0⟩
            | mv s d =>
              obtain ⟨h1, h2, h3, rfl⟩ := hccr
              have x0 := HBB.out 0 _ (hcell 0 _ rfl)
              have x1 := HBB.out 1 _ (hcell 1 _ rfl)
              have x2 := HBB.out 2 _ (hcell 2 _ rfl)
              have x3 := HBB.out 3 _ (hcell 3 _ rfl)
              have x4 := HBB.out 4 _ (hcell 4 _ rfl)
              have x5 := HBB.out 5 _ (hcell 5 _ rfl)
              simp only [Nat.add_zero] at x0
              have hxb : Ext wr (wr.alloc (.cells #[S8 d, S8 s, .bool false, .int .i64 0, .slice none 0 0, .int .i64 0] 126)) := (Ext.refl wr).alloc _
              obtain ⟨y0, y1, y2, y3, y4, y5⟩ := cellsAt6 (alloc_at wr (.cells #[S8 d, S8 s, .bool false, .int .i64 0, .slice none 0 0, .int .i64 0] 126))
              obtain ⟨q0, q1, q2, q3, q4, q5, q6, q7, q8⟩ := cellsAt9 (Ext.row hxb HGG.out)
              have FA : Hid (torn1 ((m.pend.take k).foldl ap m.sure) torn m.pend[k]? = ((m.pend.take k).foldl ap m.sure)) := by unfold Hid; rw [HC.out]; rfl
              have FF : Hid (IsFiles (On R w.heap.size) (wr.alloc (.cells #[S8 d, S8 s, .bool false, .int .i64 0, .slice none 0 0, .int .i64 0] 126)) gd ((m.pend.take k).foldl ap m.sure)) := (HFS.out.ext hxb).mono (fun k hk => .inl hk)
              have FW : Hid (w.grownBy (wr.alloc (.cells #[S8 d, S8 s, .bool false, .int .i64 0, .slice none 0 0, .int .i64 0] 126)) (some gd)) := ext_grown HGW.out hxb
              have FG : Hid _ := Ext.row hxb HGG.out
              have FL : Hid (((m.pend.take k).foldl ap m.sure).length ≤ 10000000) := by unfold Hid; omega
              clear hxb
              clear hcell hcc
              go_wp2_with (first
                | (go_at_call 75; go_must (refine (copied_any FF.out (by have := FL.out; omega)).mono ?_; rintro e w4 ⟨⟨g2, rfl, hge, hf4⟩, hx4⟩; have hg4 := Ext.row hx4 FG.out))
                | (refine store_field rfl 99 (.tmp 89) (.tmp 87) rfl g 1 rfl (.map (some g2)) rfl rfl _ _ hg4 (Nat.le_of_ble_eq_true rfl) size_map (fsCells m.room g2 gd (.slice (some ⟨b, 0, none⟩) m.pend.length pc) vl m.calls vu m.time false) (by simp) ?_; intro w5 hg5 hgr5)
                | (refine store_field rfl 100 (.tmp 92) _ rfl g 3 rfl (.slice none 0 0) rfl rfl _ _ hg5 (Nat.le_of_ble_eq_true rfl) size_chs (fsCells m.room g2 gd (.slice none 0 0) vl m.calls vu m.time false) (by simp) ?_; intro w6 hg6 hgr6)
                | (refine store_field rfl 4 (.tmp 95) _ rfl g 8 rfl (.bool true) rfl rfl _ _ hg6 (Nat.le_of_ble_eq_true rfl) size_bool (fsCells m.room g2 gd (.slice none 0 0) vl m.calls vu m.time true) (by simp) ?_; intro w7 hg7 hgr7))
              go_end0
              rw [HDD.out, HFA.out, FA.out]
              exact ⟨rfl, crash_done hO HG.out HP.out FW.out FF.out hx4 hge hf4 hg4 hgr5 hg5 hgr6 hg6 hgr7 hg7 HPL.out hc0⟩
            | del q =>
              obtain ⟨h1, rfl⟩ := hccr
              have x0 := HBB.out 0 _ (hcell 0 _ rfl)
              have x1 := HBB.out 1 _ (hcell 1 _ rfl)
              have x2 := HBB.out 2 _ (hcell 2 _ rfl)
              have x3 := HBB.out 3 _ (hcell 3 _ rfl)
              have x4 := HBB.out 4 _ (hcell 4 _ rfl)
              have x5 := HBB.out 5 _ (hcell 5 _ rfl)
              simp only [Nat.add_zero] at x0
              have hxb : Ext wr (wr.alloc (.cells #[S8 q, S8 [], .bool false, .int .i64 0, .slice none 0 0, .int .i64 0] 126)) := (Ext.refl wr).alloc _
              obtain ⟨y0, y1, y2, y3, y4, y5⟩ := cellsAt6 (alloc_at wr (.cells #[S8 q, S8 [], .bool false, .int .i64 0, .slice none 0 0, .int .i64 0] 126))
              obtain ⟨q0, q1, q2, q3, q4, q5, q6, q7, q8⟩ := cellsAt9 (Ext.row hxb HGG.out)
              have FA : Hid (torn1 ((m.pend.take k).foldl ap m.sure) torn m.pend[k]? = ((m.pend.take k).foldl ap m.sure)) := by unfold Hid; rw [HC.out]; rfl
              have FF : Hid (IsFiles (On R w.heap.size) (wr.alloc (.cells #[S8 q, S8 [], .bool false, .int .i64 0, .slice none 0 0, .int .i64 0] 126)) gd ((m.pend.take k).foldl ap m.sure)) := (HFS.out.ext hxb).mono (fun k hk => .inl hk)
              have FW : Hid (w.grownBy (wr.alloc (.cells #[S8 q, S8 [], .bool false, .int .i64 0, .slice none 0 0, .int .i64 0] 126)) (some gd)) := ext_grown HGW.out hxb
              have FG : Hid _ := Ext.row hxb HGG.out
              have FL : Hid (((m.pend.take k).foldl ap m.sure).length ≤ 10000000) := by unfold Hid; omega
              clear hxb
              clear hcell hcc
              go_wp2_with (first
                | (go_at_call 75; go_must (refine (copied_any FF.out (by have := FL.out; omega)).mono ?_; rintro e w4 ⟨⟨g2, rfl, hge, hf4⟩, hx4⟩; have hg4 := Ext.row hx4 FG.out))
                | (refine store_field rfl 99 (.tmp 89) (.tmp 87) rfl g 1 rfl (.map (some g2)) rfl rfl _ _ hg4 (Nat.le_of_ble_eq_true rfl) size_map (fsCells m.room g2 gd (.slice (some ⟨b, 0, none⟩) m.pend.length pc) vl m.calls vu m.time false) (by simp) ?_; intro w5 hg5 hgr5)
                | (refine store_field rfl 100 (.tmp 92) _ rfl g 3 rfl (.slice none 0 0) rfl rfl _ _ hg5 (Nat.le_of_ble_eq_true rfl) size_chs (fsCells m.room g2 gd (.slice none 0 0) vl m.calls vu m.time false) (by simp) ?_; intro w6 hg6 hgr6)
                | (refine store_field rfl 4 (.tmp 95) _ rfl g 8 rfl (.bool true) rfl rfl _ _ hg6 (Nat.le_of_ble_eq_true rfl) size_bool (fsCells m.room g2 gd (.slice none 0 0) vl m.calls vu m.time true) (by simp) ?_; intro w7 hg7 hgr7))
              go_end0
              rw [HDD.out, HFA.out, FA.out]
              exact ⟨rfl, crash_done hO HG.out HP.out FW.out FF.out hx4 hge hf4 hg4 hgr5 hg5 hgr6 hg6 hgr7 hg7 HPL.out hc0⟩
        · have FF : Hid (IsFiles (On R w.heap.size) wr gd ((m.pend.take k).foldl ap m.sure)) := HFS.out.mono (fun k hk => .inl hk)
          have FW : Hid _ := HGW.out
          have FG : Hid _ := HGG.out
          have FL : Hid (((m.pend.take k).foldl ap m.sure).length ≤ 10000000) := by unfold Hid; omega
          have FA : Hid (torn1 ((m.pend.take k).foldl ap m.sure) torn m.pend[k]? = ((m.pend.take k).foldl ap m.sure)) := by
            have : m.pend[k]? = none := List.getElem?_eq_none (by omega)
            unfold Hid; rw [this]; rfl
          go_wp2_with (first
            | (go_at_call 75; go_must (refine (copied_any FF.out (by have := FL.out; omega)).mono ?_; rintro e w4 ⟨⟨g2, rfl, hge, hf4⟩, hx4⟩; have hg4 := Ext.row hx4 FG.out))
            | (refine store_field rfl 99 (.tmp 89) (.tmp 87) rfl g 1 rfl (.map (some g2)) rfl rfl _ _ hg4 (Nat.le_of_ble_eq_true rfl) size_map (fsCells m.room g2 gd (.slice pa m.pend.length pc) vl m.calls vu m.time false) (by simp) ?_; intro w5 hg5 hgr5)
            | (refine store_field rfl 100 (.tmp 92) _ rfl g 3 rfl (.slice none 0 0) rfl rfl _ _ hg5 (Nat.le_of_ble_eq_true rfl) size_chs (fsCells m.room g2 gd (.slice none 0 0) vl m.calls vu m.time false) (by simp) ?_; intro w6 hg6 hgr6)
            | (refine store_field rfl 4 (.tmp 95) _ rfl g 8 rfl (.bool true) rfl rfl _ _ hg6 (Nat.le_of_ble_eq_true rfl) size_bool (fsCells m.room g2 gd (.slice none 0 0) vl m.calls vu m.time true) (by simp) ?_; intro w7 hg7 hgr7))
          go_end0
          rw [HDD.out, HFA.out, FA.out]
          exact ⟨rfl, crash_done hO HG.out HP.out FW.out FF.out hx4 hge hf4 hg4 hgr5 hg5 hgr6 hg6 hgr7 hg7 HPL.out hc0⟩

end Go.Proofs.YtfimfbdlegookaaGreatDoor
