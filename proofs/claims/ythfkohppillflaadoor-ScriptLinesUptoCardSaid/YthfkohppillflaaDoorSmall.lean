/- script: words, plain, number, none, list. Conditions: as each theorem states. -/
import Derived.Test.YthfkohppillflaaDoorDigits
namespace Go.Proofs.YthfkohppillflaaDoor
open Go Go.RowKit

def wordsL : List B8 := [[101, 100, 105, 116], [101, 114, 97, 115, 101], [115, 97, 118, 101], [115, 121, 110, 99], [114, 101, 99, 111, 118, 101, 114], [103, 99], [112, 108, 97, 110], [102, 97, 108, 108]]

set_option maxRecDepth 100000 in
set_option maxHeartbeats 400000 in
theorem words_any (w : World) :
    Calls Tryd.prog 21 #[] w fun e w' => (∃ v, e = .returned v ∧ IsStrs w' v wordsL) ∧ Ext w w' := by
  go_enter Tryd.func21, Tryd.ntmps21
  go_wp2
  go_ret
  exact ⟨⟨_, rfl, Row.new (alloc_at _ _) (by omega) _ rfl⟩, (Ext.refl w).alloc _⟩

def plainB (l : B8) : Bool := l.isEmpty || (pathB l && !(l == [45]))

set_option maxRecDepth 100000 in
set_option maxHeartbeats 400000 in
theorem plain_any (l : B8) (w : World) (hE : Env w) (hl : l.length < 4294967281) :
    Calls Tryd.prog 52 #[S8 l] w fun e w' => e = .returned (.bool (plainB l)) ∧ Ext w w' := by
  by_cases h : l = []
  · subst h
    go_enter Tryd.func52, Tryd.ntmps52
    go_wp2
    go_ret
    exact ⟨rfl, Ext.refl _⟩
  · have h2 : l.isEmpty = false := by cases l <;> simp_all
    have hb : plainB l = (pathB l && !(l == [45])) := by simp [plainB, h]
    have HB : Hid _ := hb
    have hd : (⟨l.toArray⟩ : ByteArray).toList = l := Lib.toList_data _
    clear h hb
    have HE : Hid _ := hE
    clear hE
    go_enter Tryd.func52, Tryd.ntmps52
    cases hp : pathB l with
    | true =>
      go_wp2_with (go_at_call 67; go_must (refine (path_l l _ HE.out hl).mono ?_; rintro e w' ⟨rfl, hx⟩))
      go_ret
      exact ⟨ret_b (by rw [HB.out, hp]; rfl), hx⟩
    | false =>
      go_wp2_with (go_at_call 67; go_must (refine (path_l l _ HE.out hl).mono ?_; rintro e w' ⟨rfl, hx⟩))
      go_ret
      exact ⟨ret_b (by rw [HB.out, hp]; rfl), hx⟩

set_option maxRecDepth 100000 in
set_option maxHeartbeats 400000 in
theorem number_any (l : B8) (w : World) (hE : Env w) (hl : l.length ≤ 140737488355328) :
    Calls Tryd.prog 46 #[S8 l] w fun e w' => e = .returned (.int .i64 (numV l)) ∧ Ext w w' := by
  go_enter Tryd.func46, Tryd.ntmps46
  have HE : Hid _ := hE
  clear hE
  go_wp2_with (go_at_call 64; go_must (refine (atoi_any ⟨l.toArray⟩ _ HE.out hl).mono ?_; rintro e w' ⟨⟨u, rfl⟩, hx⟩))
  go_ret
  exact ⟨rfl, hx⟩

set_option maxRecDepth 100000 in
set_option maxHeartbeats 400000 in
theorem none_any (l : B8) (w : World) :
    Calls Tryd.prog 47 #[S8 l] w fun e w' => e = .returned (S8 (if l = [45] then [] else l)) ∧ w' = w := by
  have hd : (⟨l.toArray⟩ : ByteArray).toList = l := Lib.toList_data _
  by_cases h : l = [45]
  · subst h
    go_enter Tryd.func47, Tryd.ntmps47
    go_wp2
    go_ret
    exact ⟨rfl, rfl⟩
  · have h2 : (l == [45]) = false := by simpa using h
    go_enter Tryd.func47, Tryd.ntmps47
    go_wp2
    go_ret
    exact ⟨rfl, rfl⟩

def listL (l : B8) : List B8 := if l = [45] then [] else cut 44 l

set_option maxRecDepth 100000 in
set_option maxHeartbeats 400000 in
theorem list_any (l : B8) (w : World) (hE : Env w) (hl : l.length < 4294967281) :
    Calls Tryd.prog 49 #[S8 l] w fun e w' => (∃ v, e = .returned v ∧ IsStrs w' v (listL l) ∧ Typed 9 w' v) ∧ Ext w w' := by
  have hd : (⟨l.toArray⟩ : ByteArray).toList = l := Lib.toList_data _
  by_cases h : l = [45]
  · subst h
    go_enter Tryd.func49, Tryd.ntmps49
    go_wp2
    go_ret
    exact ⟨⟨_, rfl, Row.nil _, Typed.nil _ _ _ _⟩, Ext.refl _⟩
  · have h2 : (l == [45]) = false := by simpa using h
    have hL : listL l = cut 44 l := if_neg h
    have HL : Hid _ := hL
    have HE : Hid _ := hE
    clear hL hE h
    go_enter Tryd.func49, Tryd.ntmps49
    go_wp2_with (go_at_call 20; go_must (refine (split_any ⟨l.toArray⟩ 44 _ HE.out hl).mono ?_; rintro e w' ⟨v, rfl, hv, hf, hx⟩))
    go_ret
    exact ⟨⟨_, rfl, by rw [HL.out]; exact hv, hf⟩, hx⟩

end Go.Proofs.YthfkohppillflaaDoor
