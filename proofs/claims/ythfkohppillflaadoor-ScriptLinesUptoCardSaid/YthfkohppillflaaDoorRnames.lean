/- marref.Split, marref1.Name, marref1.Path: what they answer. Conditions: a text of at most 1000000 signs. -/
import Derived.Test.YthfkohppillflaaDoorApp
namespace Go.Proofs.YthfkohppillflaaDoor
open Go Go.RowKit

theorem cut_none {c : UInt8} : ∀ {l : B8}, (∀ x ∈ l, x ≠ c) → cut c l = [l]
  | [], _ => rfl
  | x :: l, h => by
    have hx : (x == c) = false := by simpa using h x (by simp)
    unfold cut
    rw [if_neg (by simp [hx]), cut_none (fun y hy => h y (by simp [hy]))]

theorem cut_at {c : UInt8} : ∀ {p q : B8}, (∀ x ∈ p, x ≠ c) → cut c (p ++ c :: q) = p :: cut c q
  | [], q, _ => by simp [cut]
  | x :: p, q, h => by
    have hx : (x == c) = false := by simpa using h x (by simp)
    have ih := cut_at (p := p) (q := q) (fun y hy => h y (by simp [hy]))
    show cut c (x :: (p ++ c :: q)) = _
    rw [cut, if_neg (by simp [hx]), ih]

/-- How far a text is cut: pieces in L, the next one begins at j. -/
def Cutting (c : UInt8) (l : B8) (k j : Nat) (L : List B8) : Prop := j ≤ k ∧ cut c l = L ++ cut c (l.drop j) ∧ ∀ x ∈ (l.drop j).take (k - j), x ≠ c

theorem Cutting.start (c : UInt8) (l : B8) : Cutting c l 0 0 [] := ⟨Nat.le_refl _, rfl, by simp⟩
theorem Cutting.step {c : UInt8} {l : B8} {k j : Nat} {L : List B8} (h : Cutting c l k j L) (hk : k < l.length) (hc : l[k] ≠ c) : Cutting c l (k + 1) j L := by
  obtain ⟨h1, h2, h3⟩ := h
  refine ⟨by omega, h2, fun x hx => ?_⟩
  rw [show k + 1 - j = (k - j) + 1 by omega, List.take_add_one] at hx
  rcases List.mem_append.1 hx with hx | hx
  · exact h3 x hx
  · rw [List.getElem?_drop, show j + (k - j) = k by omega, List.getElem?_eq_getElem hk] at hx
    have : x = l[k] := by simpa using hx
    rw [this]; exact hc
theorem Cutting.piece {c : UInt8} {l : B8} {k j : Nat} {L : List B8} (h : Cutting c l k j L) (hk : k < l.length) (hc : l[k] = c) : Cutting c l (k + 1) (k + 1) (L ++ [(l.drop j).take (k - j)]) := by
  obtain ⟨h1, h2, h3⟩ := h
  refine ⟨Nat.le_refl _, ?_, by simp⟩
  have hs : l.drop j = (l.drop j).take (k - j) ++ c :: l.drop (k + 1) := by
    have e := (List.take_append_drop (k - j) (l.drop j)).symm
    rw [List.drop_drop, show j + (k - j) = k by omega, List.drop_eq_getElem_cons hk, hc] at e
    exact e
  rw [h2, List.append_assoc]
  congr 1
  rw [List.singleton_append, ← cut_at h3]
  exact congrArg (cut c) hs
theorem Cutting.last {c : UInt8} {l : B8} {j : Nat} {L : List B8} (h : Cutting c l l.length j L) : cut c l = L ++ [(l.drop j).take (l.length - j)] := by
  obtain ⟨h1, h2, h3⟩ := h
  have hl : (l.drop j).take (l.length - j) = l.drop j := List.take_of_length_le (by simp)
  rw [hl] at h3 ⊢
  rw [h2, cut_none h3]

theorem extract_list (s : ByteArray) (i j : Nat) (h : i ≤ j) (hj : j ≤ s.size) : s.extract i j = ⟨((s.data.toList.drop i).take (j - i)).toArray⟩ := by
  apply ByteArray.ext
  apply Array.toList_inj.1
  simp [ByteArray.data_extract]

def SplitRel (c : UInt8) (l : B8) (k j : Nat) (L : List B8) : Prop := (k ≤ l.length ∧ Cutting c l k j L) ∨ (k = l.length + 1 ∧ L = cut c l)

set_option maxRecDepth 100000 in
set_option maxHeartbeats 1000000 in
theorem rsplit_any (s : ByteArray) (c : UInt8) (w : World) (hs : s.size ≤ 1000000) :
    Calls Tryd.prog 23 #[.string s, .int .u8 c.toNat] w fun e w' => ∃ v, e = .returned v ∧ IsStrs w' v (cut c s.data.toList) ∧ Typed 9 w' v ∧ Ext w w' := by
  have hsz : s.data.toList.length = s.size := by simp
  have HSZ : Hid _ := hsz
  clear hsz
  go_enter Tryd.func23, Tryd.ntmps23
  go_wp2
  go_loopw [5, 6, 7] (fun v f i wr => ∃ (k j : Nat) (L : List B8), i = .int .i64 k ∧ f = .int .i64 j ∧ k ≤ s.size + 1 ∧ j ≤ k ∧ L.length ≤ k ∧ SplitRel c s.data.toList k j L ∧ wr.ownsRow w.heap.size 9 1 v L.length (L.map S8) ∧ Ext w wr) (fun _ _ i _ => s.size + 1 - (intOf i).toNat)
  case atStart => exact ⟨0, 0, [], rfl, rfl, by omega, by omega, Nat.le_refl _, .inl ⟨Nat.zero_le _, Cutting.start _ _⟩, World.ownsRow_nil _ _ _ _, Ext.refl _⟩
  case round =>
    obtain ⟨k, j, L, rfl, rfl, hk, hjk, hLk, hrel, hown, hx⟩ := hrel
    have HR : Hid _ := hrel
    clear hrel
    have hxs := hx.size
    by_cases hlast : k = s.size + 1
    · have hres : IsStrs wr u5 (cut c s.data.toList) ∧ Typed 9 wr u5 := by
        rcases HR.out with ⟨h1, _⟩ | ⟨_, h2⟩
        · have := HSZ.out; omega
        · rw [← h2]
          exact ⟨Row.of_owns hown (by omega), Typed.of_owns hown⟩
      have HRES : Hid _ := hres
      have hno : ¬ (k : Int) ≤ (s.size : Int) := by omega
      clear hres hown hlast
      go_wp2
      go_ret
      exact ⟨_, rfl, HRES.out.1, HRES.out.2, hx⟩
    · have hkl : k ≤ s.size := by omega
      have hC : Cutting c s.data.toList k j L := by
        rcases HR.out with ⟨_, h⟩ | ⟨h, _⟩
        · exact h
        · have := HSZ.out; omega
      have HC : Hid _ := hC
      have hex := extract_list s j k hjk hkl
      clear hC hlast HR
      by_cases hend : k = s.size
      · subst hend
        go_wp2_with (at_builtin; go_must (refine app_str rfl _ _ rfl w.heap.size _ L.length L rfl (hown.alloc _) wr.heap.size 1 1 [(s.data.toList.drop j).take (s.size - j)] rfl rfl (alloc_at _ _) (by omega) (by simp; omega) ?_; intro v' w3 hown3 hg3))
        go_roundw
        case rel =>
          refine ⟨s.size + 1, s.size + 1, L ++ [(s.data.toList.drop j).take (s.size - j)], by go_num, by go_num, by omega, by omega, by simp; omega, .inr ⟨by rw [HSZ.out], ?_⟩, by simpa using hown3, owns_ext_app (hx.alloc _) (hown.alloc _) hg3⟩
          have := HC.out
          rw [← HSZ.out] at this
          rw [Cutting.last this, HSZ.out]
        case measure => simp [intOf]
      · have hlt : k < s.size := by omega
        have hki : ((k : Int) == (s.size : Int)) = false := by simp; omega
        have hgk : s.data.toList[k]'(by rw [HSZ.out]; exact hlt) = s[k] := rfl
        have HGK : Hid _ := hgk
        clear hgk
        by_cases hc : s[k] = c
        · have hci : ((s[k].toNat : Int) == (c.toNat : Int)) = true := by simp [hc]
          have HH : Hid _ := hc
          clear hc
          go_wp2_with (at_builtin; go_must (refine app_str rfl _ _ rfl w.heap.size _ L.length L rfl (hown.alloc _) wr.heap.size 1 1 [(s.data.toList.drop j).take (k - j)] rfl rfl (alloc_at _ _) (by omega) (by simp; omega) ?_; intro v' w3 hown3 hg3))
          go_roundw
          case rel =>
            exact ⟨k + 1, k + 1, L ++ [(s.data.toList.drop j).take (k - j)], by go_num, by go_num, by omega, by omega, by simp; omega, .inl ⟨by rw [HSZ.out]; exact hlt, Cutting.piece HC.out (by rw [HSZ.out]; exact hlt) (HGK.out.trans HH.out)⟩, by simpa using hown3, owns_ext_app (hx.alloc _) (hown.alloc _) hg3⟩
          case measure => simp [intOf]; omega
        · have hci : ((s[k].toNat : Int) == (c.toNat : Int)) = false := by
            rw [beq_eq_false_iff_ne]
            intro h
            exact hc (UInt8.toNat_inj.1 (by omega))
          have HH : Hid _ := hc
          clear hc
          go_wp2
          go_roundw
          case rel =>
            exact ⟨k + 1, j, L, by go_num, rfl, by omega, by omega, by omega, .inl ⟨by rw [HSZ.out]; exact hlt, Cutting.step HC.out (by rw [HSZ.out]; exact hlt) (by rw [HGK.out]; exact HH.out)⟩, hown, hx⟩
          case measure => simp [intOf]; omega

set_option maxRecDepth 100000 in
set_option maxHeartbeats 1000000 in
theorem rname_s (s : ByteArray) (w : World) (hs : s.size ≤ 1000000) :
    Calls Tryd.prog 71 #[.string s] w fun e w' => e = .returned (.bool (nameB s.data.toList)) ∧ w' = w := by
  have hsz : s.data.toList.length = s.size := by simp
  by_cases h0 : s.size < 1
  · have HN : Hid (nameB s.data.toList = false) := by
      have : s.data.toList = [] := List.eq_nil_of_length_eq_zero (by omega)
      unfold Hid; rw [this]; decide
    have h0i : (s.size : Int) < 1 := by omega
    clear hsz
    go_enter Tryd.func71, Tryd.ntmps71
    go_wp2
    go_ret
    exact ⟨ret_b HN.out.symm, rfl⟩
  by_cases h64 : 64 < s.size
  · have HN : Hid (nameB s.data.toList = false) := by
      unfold Hid nameB
      rw [hsz]
      simp; omega
    have h0i : ¬ (s.size : Int) < 1 := by omega
    have h64i : 64 < (s.size : Int) := by omega
    clear hsz
    go_enter Tryd.func71, Tryd.ntmps71
    go_wp2
    go_ret
    exact ⟨ret_b HN.out.symm, rfl⟩
  have h0i : ¬ (s.size : Int) < 1 := by omega
  have h64i : ¬ 64 < (s.size : Int) := by omega
  cases hd : (s.toList == [46]) with
  | true =>
    have HN : Hid (nameB s.data.toList = false) := by
      rw [Lib.toList_data] at hd
      have : s.data.toList = [46] := by simpa using hd
      unfold Hid; rw [this]; decide
    clear hsz
    go_enter Tryd.func71, Tryd.ntmps71
    go_wp2
    go_ret
    exact ⟨ret_b HN.out.symm, rfl⟩
  | false =>
    cases hdd : (s.toList == [46, 46]) with
    | true =>
      have HN : Hid (nameB s.data.toList = false) := by
        rw [Lib.toList_data] at hdd
        have : s.data.toList = [46, 46] := by simpa using hdd
        unfold Hid; rw [this]; decide
      clear hsz
      go_enter Tryd.func71, Tryd.ntmps71
      go_wp2
      go_ret
      exact ⟨ret_b HN.out.symm, rfl⟩
    | false =>
      have HN : Hid (s.data.toList.any badC = false → nameB s.data.toList = true) := by
        intro hall
        rw [Lib.toList_data] at hd hdd
        unfold nameB
        rw [hall, hd, hdd, hsz]
        have : s.data.toList ≠ [] := fun h => by rw [h] at hsz; simp at hsz; omega
        have h3 : s.data.toList.isEmpty = false := by cases h : s.data.toList <;> simp_all
        have h4 : decide (s.size ≤ 64) = true := by simp; omega
        rw [h3, h4]; rfl
      clear hsz
      go_enter Tryd.func71, Tryd.ntmps71
      go_wp2
      go_loop [3] (fun i => ∃ k : Nat, k ≤ s.size ∧ i = .int .i64 k ∧ (s.data.toList.take k).any badC = false) (fun i => s.size - (intOf i).toNat)
      case atStart => exact ⟨0, Nat.zero_le _, rfl, rfl⟩
      case round =>
        obtain ⟨k, hk, rfl, hn⟩ := hrel
        have HA : Hid _ := hn
        clear hn
        by_cases hlt : k < s.size
        · by_cases h1 : (s[k].toNat : Int) < 33
          · go_wp2
            go_ret
            exact ⟨ret_b (name_bad hlt (badC_no (by omega))).symm, rfl⟩
          · by_cases h2 : (126 : Int) < s[k].toNat
            · go_wp2
              go_ret
              exact ⟨ret_b (name_bad hlt (badC_no (by omega))).symm, rfl⟩
            · by_cases h3 : (s[k].toNat : Int) = 47
              · have h4 : ((s[k].toNat : Int) == 47) = true := beq_iff_eq.2 h3
                have H3 : Hid _ := h3
                clear h3
                go_wp2
                go_ret
                have h3 := H3.out
                exact ⟨ret_b (name_bad hlt (badC_no (by omega))).symm, rfl⟩
              · have h4 : ((s[k].toNat : Int) == 47) = false := beq_eq_false_iff_ne.2 h3
                have H3 : Hid _ := h3
                clear h3
                go_wp2
                go_round
                case rel =>
                  have h3 := H3.out
                  exact ⟨k + 1, by omega, by go_num, any_snoc hlt HA.out (badC_ok (by omega) (by omega) h3)⟩
                case measure => simp [intOf]; omega
        · have hkk : k = s.size := by omega
          have hall : s.data.toList.any badC = false := by
            have := HA.out
            rwa [hkk, List.take_of_length_le (by simp)] at this
          have HT : Hid _ := HN.out hall
          clear hall
          go_wp2
          go_ret
          exact ⟨ret_b HT.out.symm, rfl⟩

theorem rname_any (l : B8) (w : World) (hs : l.length ≤ 1000000) :
    Calls Tryd.prog 71 #[S8 l] w fun e w' => e = .returned (.bool (nameB l)) ∧ w' = w := rname_s ⟨l.toArray⟩ w hs

set_option maxRecDepth 100000 in
set_option maxHeartbeats 1000000 in
theorem rpath_s (s : ByteArray) (w : World) (hs : s.size ≤ 1000000) :
    Calls Tryd.prog 58 #[.string s] w (PathPost s.data.toList w) := by
  have hcl := (cut_length 47 s.data.toList).2
  have hsz : s.data.toList.length = s.size := by simp
  have hpc := fun x => @cut_piece 47 s.data.toList x
  rw [hsz] at hcl hpc
  by_cases h2 : (200 : Int) < (s.size : Int)
  · go_enter Tryd.func58, Tryd.ntmps58
    clear hcl hpc hsz
    go_wp2
    go_ret
    exact ⟨ret_b (by rw [path_all]; simp; omega), Ext.refl _⟩
  have H := path_all s
  have Hp : Hid _ := hpc
  have HH : Hid _ := H
  clear H hsz hpc
  go_enter Tryd.func58, Tryd.ntmps58
  go_wp2_with fail
  go_at_call 23
  refine (rsplit_any s 47 _ hs).mono ?_
  rintro e w1 ⟨v, rfl, hv, -, hx⟩
  obtain ⟨a, cap, rfl, h3, h4, h5, h6⟩ := hv.get
  generalize hL : cut 47 s.data.toList = L at *
  clear hv hL
  have H6 : Hid _ := h6
  clear h6
  go_wp2_with fail
  go_loop [4] (fun i => ∃ k : Nat, k ≤ L.length ∧ i = .int .i64 k ∧ (L.take k).all nameB = true) (fun i => L.length - (intOf i).toNat)
  case atStart => exact ⟨0, Nat.zero_le _, rfl, rfl⟩
  case round =>
    obtain ⟨k, hk, rfl, hn⟩ := hrel
    have HN : Hid _ := hn
    clear hn
    by_cases hlt : k < L.length
    · obtain ⟨b, o, rfl, hc⟩ := H6.out k hlt
      have hck := hc k hlt
      clear hc
      have hm := Hp.out _ (getD_mem hlt)
      obtain ⟨x, hxx⟩ : ∃ x, x = L.getD k [] := ⟨_, rfl⟩
      rw [← hxx] at hm hck
      have HX : Hid _ := hxx
      clear hxx
      cases hB : nameB x with
      | true =>
        have HB : Hid _ := hB
        go_wp2_with (go_at_call 71; go_must (refine (rname_any _ _ ?_).mono ?_; omega; rintro e w' ⟨rfl, rfl⟩))
        go_round
        case rel => exact ⟨k + 1, by omega, by go_num, all_snoc hlt HN.out (by rw [← HX.out]; exact HB.out)⟩
        case measure => simp [intOf]; omega
      | false =>
        have HB : Hid _ := hB
        go_wp2_with (go_at_call 71; go_must (refine (rname_any _ _ ?_).mono ?_; omega; rintro e w' ⟨rfl, rfl⟩))
        go_ret
        exact ⟨ret_b (by rw [HH.out, all_no hlt (by rw [← HX.out]; exact HB.out)]; simp), hx⟩
    · go_wp2_with fail
      go_ret
      refine ⟨ret_b ?_, hx⟩
      have := HN.out
      rw [List.take_of_length_le (by omega)] at this
      rw [HH.out, this]
      have h9 : decide (s.size ≤ 200) = true := by rw [decide_eq_true_eq]; omega
      rw [h9, Bool.true_and, Bool.true_and, decide_eq_decide]
      omega

theorem rpath_any (l : B8) (w : World) (hs : l.length ≤ 1000000) :
    Calls Tryd.prog 58 #[S8 l] w fun e w' => e = .returned (.bool (pathB l)) ∧ Ext w w' := rpath_s ⟨l.toArray⟩ w hs

end Go.Proofs.YthfkohppillflaaDoor
