/- marref24's small functions: none, path, list, words. Conditions: as each theorem states. -/
import Derived.Test.YthfkohppillflaaDoorEvent
import Derived.Test.YthfkohppillflaaDoorUndig
import Derived.Test.YthfkohppillflaaDoorSmall
import Derived.Test.YthfkohppillflaaDoorRnames
namespace Go.Proofs.YthfkohppillflaaDoor
open Go Go.RowKit

set_option maxRecDepth 100000 in
set_option maxHeartbeats 400000 in
theorem rnone_any (l : B8) (w : World) :
    Calls Tryd.prog 38 #[S8 l] w fun e w' => e = .returned (S8 (orL l)) ∧ w' = w := by
  by_cases h : l = []
  · subst h
    go_enter Tryd.func38, Tryd.ntmps38
    go_wp2
    go_ret
    exact ⟨rfl, rfl⟩
  · have h2 : ((⟨l.toArray⟩ : ByteArray).toList == []) = false := by rw [Lib.toList_data]; simpa using h
    have H : Hid _ := h
    have HO : Hid (orL l = l) := if_neg h
    clear h
    go_enter Tryd.func38, Tryd.ntmps38
    go_wp2
    · rename_i h3
      exact (H.out (List.isEmpty_iff.1 h3)).elim
    · go_ret
      rw [HO.out]
      exact ⟨rfl, rfl⟩

def rwordsL : List B8 := [] :: wordsL
set_option maxRecDepth 100000 in
theorem rwords_any (w : World) :
    Calls Tryd.prog 24 #[] w fun e w' => (∃ g, e = .returned (.slice (some ⟨g, 0, none⟩) 9 9) ∧ w.heap.size ≤ g ∧ w'.heap[g]? = some (.cells (rwordsL.map S8).toArray 9 (0, 0))) ∧ Ext w w' := by
  go_enter Tryd.func24, Tryd.ntmps24
  go_wp2
  go_ret
  exact ⟨⟨_, rfl, Nat.le_refl _, alloc_at _ _⟩, (Ext.refl _).alloc _⟩

set_option maxRecDepth 100000 in
set_option maxHeartbeats 400000 in
theorem rpath24_any (l : B8) (w : World) (hl : l.length ≤ 1000000) :
    Calls Tryd.prog 35 #[S8 l] w fun e w' => e = .returned (.bool (plainB l)) ∧ Ext w w' := by
  by_cases h : l = []
  · subst h
    go_enter Tryd.func35, Tryd.ntmps35
    go_wp2
    go_ret
    exact ⟨rfl, Ext.refl _⟩
  · have h2 : l.isEmpty = false := by cases l <;> simp_all
    have hb : plainB l = (pathB l && !(l == [45])) := by simp [plainB, h]
    have hd : (⟨l.toArray⟩ : ByteArray).toList = l := Lib.toList_data _
    by_cases h45 : l = [45]
    · subst h45
      have HB : Hid _ := hb
      clear h hb
      go_enter Tryd.func35, Tryd.ntmps35
      go_wp2
      go_ret
      exact ⟨ret_b (by rw [HB.out]; simp), Ext.refl _⟩
    · have h3 : (l == [45]) = false := by simpa using h45
      rw [h3] at hb
      have HB : Hid _ := hb
      clear h hb h45
      go_enter Tryd.func35, Tryd.ntmps35
      cases hp : pathB l with
      | true =>
        go_wp2_with (go_at_call 58; go_must (refine (rpath_any l _ hl).mono ?_; rw [hp]; rintro e w' ⟨rfl, hx⟩))
        go_ret
        exact ⟨ret_b (by rw [HB.out, hp]; rfl), hx⟩
      | false =>
        go_wp2_with (go_at_call 58; go_must (refine (rpath_any l _ hl).mono ?_; rw [hp]; rintro e w' ⟨rfl, hx⟩))
        go_ret
        exact ⟨ret_b (by rw [HB.out, hp]; rfl), hx⟩

set_option maxRecDepth 100000 in
set_option maxHeartbeats 400000 in
theorem rlist_any (l : B8) (w : World) (hl : l.length ≤ 1000000) :
    Calls Tryd.prog 27 #[S8 l] w fun e w' => (∃ v, e = .returned v ∧ IsStrs w' v (listL l) ∧ Typed 9 w' v) ∧ Ext w w' := by
  have hd : (⟨l.toArray⟩ : ByteArray).toList = l := Lib.toList_data _
  by_cases h : l = [45]
  · subst h
    go_enter Tryd.func27, Tryd.ntmps27
    go_wp2
    go_ret
    exact ⟨⟨_, rfl, Row.nil _, Typed.nil _ _ _ _⟩, Ext.refl _⟩
  · have h2 : (l == [45]) = false := by simpa using h
    have hL : listL l = cut 44 l := if_neg h
    have HL : Hid _ := hL
    clear hL h
    go_enter Tryd.func27, Tryd.ntmps27
    go_wp2_with (go_at_call 23; go_must (refine (rsplit_any ⟨l.toArray⟩ 44 _ hl).mono ?_; rintro e w' ⟨v, rfl, hv, hf, hx⟩))
    go_ret
    exact ⟨⟨_, rfl, by rw [HL.out]; exact hv, hf⟩, hx⟩

def digV (c : UInt8) : Int := if 48 ≤ c.toNat ∧ c.toNat ≤ 57 then c.toNat - 48 else if 97 ≤ c.toNat ∧ c.toNat ≤ 102 then c.toNat - 87 else -1
theorem digV_dig : ∀ n : Fin 256, 0 ≤ digV (UInt8.ofNat n.val) → digV (UInt8.ofNat n.val) = dig (UInt8.ofNat n.val) := by decide +kernel
theorem digV_hex : ∀ c ∈ hexs, 0 ≤ digV c := by decide +kernel
theorem digV_lt (c : UInt8) : -1 ≤ digV c ∧ digV c ≤ 15 := by unfold digV; split <;> (try split) <;> omega
theorem digV_eq {c : UInt8} (h : 0 ≤ digV c) : digV c = dig c := by
  have := digV_dig ⟨c.toNat, c.toNat_lt⟩
  simp only [UInt8.ofNat_toNat] at this
  exact this h

set_option maxRecDepth 100000 in
set_option maxHeartbeats 400000 in
theorem digit_any (c : UInt8) (w : World) :
    Calls Tryd.prog 66 #[.int .u8 c.toNat] w fun e w' => e = .returned (.int .i64 (digV c)) ∧ w' = w := by
  have hc := c.toNat_lt
  by_cases h1 : 48 ≤ c.toNat
  · by_cases h2 : c.toNat ≤ 57
    · have HD : Hid (digV c = (c.toNat : Int) - 48) := by unfold Hid digV; rw [if_pos ⟨h1, h2⟩]
      have i1 : (48 : Int) ≤ c.toNat := by omega
      have i2 : (c.toNat : Int) ≤ 57 := by omega
      go_enter Tryd.func66, Tryd.ntmps66
      go_wp2
      go_ret
      exact ⟨by rw [HD.out]; first | rfl | (congr 2; omega), rfl⟩
    · by_cases h3 : 97 ≤ c.toNat
      · by_cases h4 : c.toNat ≤ 102
        · have HD : Hid (digV c = (c.toNat : Int) - 97 + 10) := by unfold Hid digV; rw [if_neg (show ¬(48 ≤ c.toNat ∧ c.toNat ≤ 57) by omega), if_pos ⟨h3, h4⟩]; omega
          have i1 : (48 : Int) ≤ c.toNat := by omega
          have i2 : ¬ (c.toNat : Int) ≤ 57 := by omega
          have i3 : (97 : Int) ≤ c.toNat := by omega
          have i4 : (c.toNat : Int) ≤ 102 := by omega
          go_enter Tryd.func66, Tryd.ntmps66
          go_wp2
          go_ret
          exact ⟨by rw [HD.out]; first | rfl | (congr 2; omega), rfl⟩
        · have HD : Hid (digV c = -1) := by unfold Hid digV; rw [if_neg (show ¬(48 ≤ c.toNat ∧ c.toNat ≤ 57) by omega), if_neg (show ¬(97 ≤ c.toNat ∧ c.toNat ≤ 102) by omega)]
          have i1 : (48 : Int) ≤ c.toNat := by omega
          have i2 : ¬ (c.toNat : Int) ≤ 57 := by omega
          have i3 : (97 : Int) ≤ c.toNat := by omega
          have i4 : ¬ (c.toNat : Int) ≤ 102 := by omega
          go_enter Tryd.func66, Tryd.ntmps66
          go_wp2
          go_ret
          exact ⟨by rw [HD.out]; rfl, rfl⟩
      · have HD : Hid (digV c = -1) := by unfold Hid digV; rw [if_neg (show ¬(48 ≤ c.toNat ∧ c.toNat ≤ 57) by omega), if_neg (show ¬(97 ≤ c.toNat ∧ c.toNat ≤ 102) by omega)]
        have i1 : (48 : Int) ≤ c.toNat := by omega
        have i2 : ¬ (c.toNat : Int) ≤ 57 := by omega
        have i3 : ¬ (97 : Int) ≤ c.toNat := by omega
        go_enter Tryd.func66, Tryd.ntmps66
        go_wp2
        go_ret
        exact ⟨by rw [HD.out]; rfl, rfl⟩
  · have HD : Hid (digV c = -1) := by unfold Hid digV; rw [if_neg (show ¬(48 ≤ c.toNat ∧ c.toNat ≤ 57) by omega), if_neg (show ¬(97 ≤ c.toNat ∧ c.toNat ≤ 102) by omega)]
    have i1 : ¬ (48 : Int) ≤ c.toNat := by omega
    have i3 : ¬ (97 : Int) ≤ c.toNat := by omega
    go_enter Tryd.func66, Tryd.ntmps66
    go_wp2
    go_ret
    exact ⟨by rw [HD.out]; rfl, rfl⟩

end Go.Proofs.YthfkohppillflaaDoor
