/- names.Name, names.Path: what they answer. Conditions: a text of fewer than 2^32 - 15 signs. -/
import Derived.Test.YthfkohppillflaaDoorSplit
namespace Go.Proofs.YthfkohppillflaaDoor
open Go Go.RowKit

def badC (c : UInt8) : Bool := decide (c.toNat < 33) || (decide (126 < c.toNat) || decide (c.toNat = 47))
def nameB (l : B8) : Bool := !(l.any badC) && (!l.isEmpty && (decide (l.length ≤ 64) && (!(l == [46]) && !(l == [46, 46]))))
def pathB (l : B8) : Bool := decide (l.length ≤ 200) && ((cut 47 l).all nameB && decide ((cut 47 l).length ≤ 8))

theorem badC_ok {c : UInt8} (h1 : ¬ (c.toNat : Int) < 33) (h2 : ¬ (126 : Int) < c.toNat) (h3 : ¬ (c.toNat : Int) = 47) : badC c = false := by
  unfold badC; simp only [Bool.or_eq_false_iff, decide_eq_false_iff_not]; omega
theorem badC_no {c : UInt8} (h : (c.toNat : Int) < 33 ∨ (126 : Int) < c.toNat ∨ (c.toNat : Int) = 47) : badC c = true := by
  unfold badC; simp only [Bool.or_eq_true, decide_eq_true_eq]; omega

theorem name_bad {s : ByteArray} {k : Nat} (h : k < s.size) (hb : badC s[k] = true) : nameB s.data.toList = false := by
  have : s.data.toList.any badC = true := List.any_eq_true.2 ⟨s[k], by
    have : s[k] = s.data[k]'h := rfl
    rw [this]; simp, hb⟩
  simp [nameB, this]

theorem take_snoc (s : ByteArray) (k : Nat) (h : k < s.size) : s.data.toList.take (k + 1) = s.data.toList.take k ++ [s[k]] := by
  rw [List.take_succ_eq_append_getElem (by simpa using h)]; rfl

theorem any_snoc {s : ByteArray} {k : Nat} (h : k < s.size) (h0 : (s.data.toList.take k).any badC = false) (h1 : badC s[k] = false) : (s.data.toList.take (k + 1)).any badC = false := by
  rw [take_snoc s k h]; simp only [List.any_append, h0, List.any_cons, h1, List.any_nil, Bool.or_false]

set_option maxHeartbeats 400000 in
theorem name_s (s : ByteArray) (w : World) (hs : s.size < 4294967281) :
    Calls Tryd.prog 81 #[.string s] w fun e w' => e = .returned (.bool (nameB s.data.toList)) ∧ w' = w := by
  go_enter Tryd.func81, Tryd.ntmps81
  go_wp2
  go_loop [6] (fun i => ∃ k : Nat, k ≤ s.size ∧ i = .int .i64 k ∧ (s.data.toList.take k).any badC = false) (fun i => s.size - (intOf i).toNat)
  case atStart => exact ⟨0, Nat.zero_le _, rfl, rfl⟩
  case round =>
    obtain ⟨k, hk, rfl, hn⟩ := hrel
    have HN : Hid _ := hn
    clear hn
    by_cases hlt : k < s.size
    · by_cases h1 : (s[k].toNat : Int) < 33
      · go_wp2
        go_ret
        exact ⟨ret_b (name_bad hlt (badC_no (by omega))).symm, rfl⟩
      · by_cases h2 : (126 : Int) < s[k].toNat
        · go_wp2
          go_ret
          exact ⟨ret_b (name_bad hlt (badC_no (by omega))).symm, rfl⟩
        · by_cases h3 : (s[k].toNat : Int) = 47
          · have h4 : ((s[k].toNat : Int) == 47) = true := beq_iff_eq.2 h3
            have H3 : Hid _ := h3
            clear h3
            go_wp2
            go_ret
            have h3 := H3.out
            exact ⟨ret_b (name_bad hlt (badC_no (by omega))).symm, rfl⟩
          · have h4 : ((s[k].toNat : Int) == 47) = false := beq_eq_false_iff_ne.2 h3
            have H3 : Hid _ := h3
            clear h3
            go_wp2
            go_round
            case rel =>
              have h3 := H3.out
              exact ⟨k + 1, by omega, by go_num, any_snoc hlt HN.out (badC_ok (by omega) (by omega) h3)⟩
            case measure => simp [intOf]; omega
    · have hkk : k = s.size := by omega
      have hall : s.data.toList.any badC = false := by
        have := HN.out
        rwa [hkk, List.take_of_length_le (by simp)] at this
      have HA : Hid _ := hall
      clear hall HN hkk
      go_wp2
      all_goals
        go_ret
        refine ⟨ret_b ?_, rfl⟩
        have hall := HA.out
        rw [Lib.toList_data] at *
        have hsz : s.data.toList.length = s.size := by simp
        unfold nameB
        rw [hall]
        by_cases h64 : s.size ≤ 64 <;> first | (exfalso; omega) | (simp_all [Bool.and_assoc]; done) | (simp_all; omega)

theorem name_any (l : B8) (w : World) (hs : l.length < 4294967281) :
    Calls Tryd.prog 81 #[S8 l] w fun e w' => e = .returned (.bool (nameB l)) ∧ w' = w := name_s ⟨l.toArray⟩ w hs

theorem path_all (s : ByteArray) : pathB s.data.toList = (decide (s.size ≤ 200) && ((cut 47 s.data.toList).all nameB && decide ((cut 47 s.data.toList).length ≤ 8))) := by simp [pathB]

theorem getD_mem {l : List B8} {k : Nat} (h : k < l.length) : l.getD k [] ∈ l := by
  simp [h]

theorem all_snoc {l : List B8} {k : Nat} (h : k < l.length) (h0 : (l.take k).all nameB = true) (h1 : nameB (l.getD k []) = true) : (l.take (k + 1)).all nameB = true := by
  rw [List.take_succ_eq_append_getElem h]
  simp only [List.getD_eq_getElem?_getD, h, List.getElem?_eq_getElem, Option.getD_some] at h1
  simp only [List.all_append, h0, List.all_cons, h1, List.all_nil, Bool.and_true]

theorem all_no {l : List B8} {k : Nat} (h : k < l.length) (h1 : nameB (l.getD k []) = false) : l.all nameB = false := by
  rw [List.all_eq_false]
  exact ⟨_, getD_mem h, by rw [h1]; simp⟩

def PathPost (l : B8) (w : World) (e : Ending) (w' : World) : Prop := e = .returned (.bool (pathB l)) ∧ Ext w w'

set_option maxHeartbeats 400000 in
theorem path_any (s : ByteArray) (w : World) (hE : Env w) (hs : s.size < 4294967281) :
    Calls Tryd.prog 67 #[.string s] w (PathPost s.data.toList w) := by
  have hcl := (cut_length 47 s.data.toList).2
  have hsz : s.data.toList.length = s.size := by simp
  have hpc := fun x => @cut_piece 47 s.data.toList x
  rw [hsz] at hcl hpc
  by_cases h2 : (200 : Int) < (s.size : Int)
  · go_enter Tryd.func67, Tryd.ntmps67
    clear hcl hpc hsz
    go_wp2
    go_ret
    exact ⟨ret_b (by rw [path_all]; simp; omega), Ext.refl _⟩
  have H := path_all s
  have Hp : Hid _ := hpc
  have HH : Hid _ := H
  clear H hsz hpc
  go_enter Tryd.func67, Tryd.ntmps67
  go_wp2_with fail
  refine (split_any s 47 _ hE hs).mono ?_
  rintro e w1 ⟨v, rfl, hv, -, hx⟩
  obtain ⟨a, cap, rfl, h3, h4, h5, h6⟩ := hv.get
  generalize hL : cut 47 s.data.toList = L at *
  clear hv hL
  have H6 : Hid _ := h6
  have HE : Hid (Env w1) := hE.ext hx
  clear h6
  go_wp2_with fail
  go_loop [13] (fun i => ∃ k : Nat, k ≤ L.length ∧ i = .int .i64 k ∧ (L.take k).all nameB = true) (fun i => L.length - (intOf i).toNat)
  case atStart => exact ⟨0, Nat.zero_le _, rfl, rfl⟩
  case round =>
    obtain ⟨k, hk, rfl, hn⟩ := hrel
    have HN : Hid _ := hn
    clear hn
    by_cases hlt : k < L.length
    · obtain ⟨b, o, rfl, hc⟩ := H6.out k hlt
      have hck := hc k hlt
      clear hc
      have hm := Hp.out _ (getD_mem hlt)
      obtain ⟨x, hxx⟩ : ∃ x, x = L.getD k [] := ⟨_, rfl⟩
      rw [← hxx] at hm hck
      have HX : Hid _ := hxx
      clear hxx
      cases hB : nameB x with
      | true =>
        have HB : Hid _ := hB
        go_wp2_with (go_at_call 81; go_must (refine (name_any _ _ ?_).mono ?_; omega; rintro e w' ⟨rfl, rfl⟩))
        go_round
        case rel => exact ⟨k + 1, by omega, by go_num, all_snoc hlt HN.out (by rw [← HX.out]; exact HB.out)⟩
        case measure => simp [intOf]; omega
      | false =>
        have HB : Hid _ := hB
        go_wp2_with (go_at_call 81; go_must (refine (name_any _ _ ?_).mono ?_; omega; rintro e w' ⟨rfl, rfl⟩))
        go_ret
        exact ⟨ret_b (by rw [HH.out, all_no hlt (by rw [← HX.out]; exact HB.out)]; simp), hx⟩
    · go_wp2_with fail
      go_ret
      refine ⟨ret_b ?_, hx⟩
      have := HN.out
      rw [List.take_of_length_le (by omega)] at this
      rw [HH.out, this]
      have h9 : decide (s.size ≤ 200) = true := by rw [decide_eq_true_eq]; omega
      rw [h9, Bool.true_and, Bool.true_and, decide_eq_decide]
      omega

theorem path_l (l : B8) (w : World) (hE : Env w) (hs : l.length < 4294967281) :
    Calls Tryd.prog 67 #[S8 l] w fun e w' => e = .returned (.bool (pathB l)) ∧ Ext w w' := path_any ⟨l.toArray⟩ w hE hs

end Go.Proofs.YthfkohppillflaaDoor
