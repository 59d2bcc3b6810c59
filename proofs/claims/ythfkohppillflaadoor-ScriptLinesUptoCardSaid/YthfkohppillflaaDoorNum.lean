/- marref.Num: the number that a text is: complete on what is printed. Conditions: a text of at most 3000000 signs. -/
import Derived.Test.YthfkohppillflaaDoorDec
import Derived.Test.YthfkohppillflaaDoorPureBack
import Derived.Test.YthfkohppillflaaDoorRnames
namespace Go.Proofs.YthfkohppillflaaDoor
open Go Go.RowKit

def valL (l : B8) : Nat := l.foldl (fun a c => a * 10 + (c.toNat - 48)) 0
theorem val_snoc (l : B8) (c : UInt8) : valL (l ++ [c]) = valL l * 10 + (c.toNat - 48) := by simp [valL]
theorem val_mono : ∀ (r l : B8), valL l ≤ valL (l ++ r)
  | [], l => by simp
  | c :: r, l => by
    have h1 := val_snoc l c
    have h2 := val_mono r (l ++ [c])
    rw [List.append_assoc] at h2
    simp only [List.cons_append, List.nil_append] at h2
    omega
theorem val_dec : ∀ u : Nat, valL (Lib.decDigits u) = u := by
  intro u
  induction u using Nat.strongRecOn with
  | ind u ih =>
    by_cases h : u < 10
    · rw [dec_small h]
      simp only [valL, List.foldl_cons, List.foldl_nil, UInt8.toNat_ofNat']
      omega
    · rw [dec_big h, val_snoc, ih (u / 10) (by omega)]
      simp only [UInt8.toNat_ofNat']
      omega
theorem dec_len : ∀ (k u : Nat), u < 10 ^ (k + 1) → (Lib.decDigits u).length ≤ k + 1
  | 0, u, h => by rw [dec_small (by simpa using h)]; simp
  | k + 1, u, h => by
    by_cases h10 : u < 10
    · rw [dec_small h10]; simp
    · rw [dec_big h10]
      have := dec_len k (u / 10) (by rw [Nat.pow_succ] at h; omega)
      simp only [List.length_append, List.length_cons, List.length_nil]
      omega

/-- What a text that is printed looks like: its digits d behind the sign. -/
theorem itoa_parts {m : Int} (h : I64 m) : (m < 0 ∧ Lib.itoa m = 45 :: Lib.decDigits m.natAbs ∨ 0 ≤ m ∧ Lib.itoa m = Lib.decDigits m.natAbs ∧ ∀ r, Lib.itoa m ≠ 45 :: r) ∧ (Lib.decDigits m.natAbs).length ≤ 19 ∧ 1 ≤ (Lib.decDigits m.natAbs).length := by
  obtain ⟨h1, h2⟩ := h
  refine ⟨?_, ?_, ?_⟩
  · by_cases h0 : m < 0
    · exact .inl ⟨h0, by unfold Lib.itoa; rw [if_pos h0]⟩
    · have e : Lib.itoa m = Lib.decDigits m.natAbs := by
        unfold Lib.itoa
        rw [if_neg h0]
        congr 1
        omega
      refine .inr ⟨by omega, e, fun r hr => ?_⟩
      have := dec_chars m.natAbs 45 (by rw [← e, hr]; simp)
      simp at this
  · exact dec_len 18 _ (by omega)
  · have := dec_ne m.natAbs
    cases hd : Lib.decDigits m.natAbs with
    | nil => exact (this hd).elim
    | cons c r => simp

theorem num_step {V x : Int} (h : ¬ -V < Int.tdiv (-9223372036854775808 + x) 10) (hx : 0 ≤ x) (hx9 : x ≤ 9) : 10 * V + x ≤ 9223372036854775808 := by
  have e : (-9223372036854775808 + x) = -(9223372036854775808 - x) := by omega
  rw [e, Int.neg_tdiv, Int.tdiv_eq_ediv_of_nonneg (by omega)] at h
  omega
theorem num_over {V x : Int} (h : -V < Int.tdiv (-9223372036854775808 + x) 10) (hx : 0 ≤ x) (hx9 : x ≤ 9) : 9223372036854775808 < 10 * V + x := by
  have e : (-9223372036854775808 + x) = -(9223372036854775808 - x) := by omega
  rw [e, Int.neg_tdiv, Int.tdiv_eq_ediv_of_nonneg (by omega)] at h
  omega

/-- A reader of a number: complete on what is printed. -/
structure Numbered (l : B8) (e : Ending) : Prop where
  out : ∃ n ok, e = .returned (.tuple #[.int .i64 n, .bool ok]) ∧ I64 n ∧ ∀ m, I64 m → l = Lib.itoa m → ok = true ∧ n = m
theorem Numbered.no {l : B8} (h : ∀ m, I64 m → l ≠ Lib.itoa m) : Numbered l (.returned (.tuple #[.int .i64 0, .bool false])) := ⟨_, _, rfl, by unfold I64; omega, fun m hm e => (h m hm e).elim⟩

theorem num_neg {d : B8} {m : Int} (hm : I64 m) (h : 45 :: d = Lib.itoa m) : d = Lib.decDigits m.natAbs ∧ m < 0 ∧ d.length ≤ 19 ∧ 1 ≤ d.length := by
  obtain ⟨h1, h2, h3⟩ := itoa_parts hm
  rcases h1 with ⟨h0, e⟩ | ⟨h0, e, hne⟩
  · rw [e] at h
    have := (List.cons.inj h).2
    rw [this]
    exact ⟨rfl, h0, h2, h3⟩
  · exact (hne d h.symm).elim
theorem num_pos {c : UInt8} {r : B8} {m : Int} (hm : I64 m) (hc : c ≠ 45) (h : c :: r = Lib.itoa m) : c :: r = Lib.decDigits m.natAbs ∧ 0 ≤ m ∧ (c :: r).length ≤ 19 ∧ 1 ≤ (c :: r).length := by
  obtain ⟨h1, h2, h3⟩ := itoa_parts hm
  rcases h1 with ⟨h0, e⟩ | ⟨h0, e, hne⟩
  · rw [e] at h
    exact (hc (List.cons.inj h).1).elim
  · rw [e] at h
    rw [h]
    exact ⟨rfl, h0, h2, h3⟩

theorem take_val {d : B8} {k V : Nat} {c : UInt8} (hk : d[k]? = some c) (hv : valL (d.take k) = V) : valL (d.take (k + 1)) = V * 10 + (c.toNat - 48) := by
  obtain ⟨hlt, rfl⟩ := List.getElem?_eq_some_iff.1 hk
  rw [List.take_succ_eq_append_getElem hlt, val_snoc, hv]
theorem take_val_le {d : B8} (k : Nat) : valL (d.take k) ≤ valL d := by
  have := val_mono (d.drop k) (d.take k)
  rwa [List.take_append_drop] at this

set_option maxRecDepth 100000 in
set_option maxHeartbeats 2000000 in
theorem num_minus (d l : B8) (w : World) (hl : l.length ≤ 1000000) (hld : l = 45 :: d) :
    Calls Tryd.prog 25 #[S8 l] w fun e w' => Numbered l e ∧ Ext w w' := by
  have HD : Hid (∀ m, I64 m → l = Lib.itoa m → d = Lib.decDigits m.natAbs ∧ m < 0 ∧ d.length ≤ 19 ∧ 1 ≤ d.length) := fun m hm e => num_neg hm (by rw [← hld]; exact e)
  have hdl : (⟨l.toArray⟩ : ByteArray).toList = l := Lib.toList_data _
  have hlen : l.length = d.length + 1 := by rw [hld]; rfl
  have hi0 : ∀ h : 0 < (⟨l.toArray⟩ : ByteArray).size, ((⟨l.toArray⟩ : ByteArray)[0]'h) = 45 := fun h => by
    show l.toArray[0]'h = 45
    simp [hld]
  have hex : (⟨l.toArray⟩ : ByteArray).extract 1 (d.length + 1) = (⟨d.toArray⟩ : ByteArray) := by
    rw [extract_list _ 1 _ (by omega) (by rw [size8]; omega)]
    simp [hld]
  have hll : (0 : Int) < (l.length : Int) := by omega
  have HLD : Hid _ := hld
  clear hld
  go_enter Tryd.func25, Tryd.ntmps25
  by_cases hd1 : d.length < 1
  · have HN : Hid (∀ m, I64 m → l ≠ Lib.itoa m) := fun m hm e => by have := HD.out m hm e; omega
    have hd1i : (d.length : Int) < 1 := by omega
    go_wp2
    go_ret2
    exact ⟨Numbered.no HN.out, Ext.refl _⟩
  · by_cases hd19 : 19 < d.length
    · have HN : Hid (∀ m, I64 m → l ≠ Lib.itoa m) := fun m hm e => by have := HD.out m hm e; omega
      have hd1i : ¬ (d.length : Int) < 1 := by omega
      have hd2i : (19 : Int) < (d.length : Int) := by omega
      go_wp2
      go_ret2
      exact ⟨Numbered.no HN.out, Ext.refl _⟩
    · have hd1i : ¬ (d.length : Int) < 1 := by omega
      have hd2i : ¬ (19 : Int) < (d.length : Int) := by omega
      go_wp2
      go_loop [6, 7] (fun n i => ∃ k V : Nat, k ≤ d.length ∧ i = .int .i64 k ∧ n = .int .i64 (-(V : Int)) ∧ V ≤ 9223372036854775808 ∧ valL (d.take k) = V) (fun _ i => d.length - (intOf i).toNat)
      case atStart => exact ⟨0, 0, Nat.zero_le _, rfl, rfl, by omega, rfl⟩
      case round =>
        obtain ⟨k, V, hk, rfl, rfl, hV, hval⟩ := hrel
        have HV : Hid _ := hval
        clear hval
        by_cases hlt : k < d.length
        · obtain ⟨c, hcc⟩ : ∃ c, d[k]? = some c := ⟨_, List.getElem?_eq_getElem hlt⟩
          have hix : ∀ h : k < (⟨d.toArray⟩ : ByteArray).size, ((⟨d.toArray⟩ : ByteArray)[k]'h) = c := fun h => by
            show d.toArray[k]'h = c
            obtain ⟨h2, h3⟩ := List.getElem?_eq_some_iff.1 hcc
            simpa using h3
          have HCC : Hid _ := hcc
          have hc256 := c.toNat_lt
          clear hcc
          by_cases hlo : c.toNat < 48
          · have HN : Hid (∀ m, I64 m → l ≠ Lib.itoa m) := fun m hm e => by
              have := dec_chars m.natAbs c (by rw [← (HD.out m hm e).1]; exact List.mem_of_getElem? HCC.out)
              omega
            have hx1 : (c.toNat : Int) - 48 < 0 := by omega
            go_wp2
            go_ret2
            exact ⟨Numbered.no HN.out, Ext.refl _⟩
          · by_cases hhi : 57 < c.toNat
            · have HN : Hid (∀ m, I64 m → l ≠ Lib.itoa m) := fun m hm e => by
                have := dec_chars m.natAbs c (by rw [← (HD.out m hm e).1]; exact List.mem_of_getElem? HCC.out)
                omega
              have hx1 : ¬ (c.toNat : Int) - 48 < 0 := by omega
              have hx2 : 9 < (c.toNat : Int) - 48 := by omega
              go_wp2
              go_ret2
              exact ⟨Numbered.no HN.out, Ext.refl _⟩
            · obtain ⟨x, hx⟩ : ∃ x : Nat, c.toNat = 48 + x := ⟨c.toNat - 48, by omega⟩
              have hsub : (c.toNat : Int) - 48 = (x : Int) := by omega
              have hx9 : x ≤ 9 := by omega
              obtain ⟨q, hq⟩ : ∃ q, Int.tdiv (-9223372036854775808 + (x : Int)) 10 = q := ⟨_, rfl⟩
              have hqb : -922337203685477580 ≤ q ∧ q ≤ 0 := by
                have e : (-9223372036854775808 + (x : Int)) = -(9223372036854775808 - (x : Int)) := by omega
                rw [e, Int.neg_tdiv, Int.tdiv_eq_ediv_of_nonneg (by omega)] at hq
                omega
              by_cases hov : -(V : Int) < q
              · have HN : Hid (∀ m, I64 m → l ≠ Lib.itoa m) := fun m hm e => by
                  have h1 := HD.out m hm e
                  have h2 := take_val HCC.out HV.out
                  have h3 := take_val_le (d := d) (k + 1)
                  have h4 := num_over (V := (V : Int)) (x := (x : Int)) (by rw [hq]; exact hov) (by omega) (by omega)
                  rw [h1.1, val_dec] at h3
                  rw [h1.1] at h2
                  have := hm.1
                  have := hm.2
                  omega
                clear hx
                go_wp2
                go_ret2
                exact ⟨Numbered.no HN.out, Ext.refl _⟩
              · have hst := num_step (V := (V : Int)) (x := (x : Int)) (by rw [hq]; exact hov) (by omega) (by omega)
                have hm1 : 10 * -(V : Int) = -((10 * V : Nat) : Int) := by omega
                have hm2 : -((10 * V : Nat) : Int) - (x : Int) = -((10 * V + x : Nat) : Int) := by omega
                have HT : Hid (valL (d.take (k + 1)) = 10 * V + x) := by unfold Hid; rw [take_val HCC.out HV.out]; omega
                clear hx
                go_wp2
                go_round
                case rel => exact ⟨k + 1, 10 * V + x, by omega, by go_num, by first | rfl | (congr 1), by omega, HT.out⟩
                case measure => simp [intOf]; omega
        · have hkk : k = d.length := by omega
          subst hkk
          have hval := HV.out
          rw [List.take_length] at hval
          have HVV : Hid _ := hval
          clear hval
          have hI : I64 (-(V : Int)) := by unfold I64; omega
          have HR : Hid (∀ m, I64 m → l = Lib.itoa m → -(V : Int) = m) := fun m hm e => by
            have h1 := HD.out m hm e
            have h2 := HVV.out
            rw [h1.1, val_dec] at h2
            omega
          obtain ⟨T, hT⟩ : ∃ T, Lib.itoa (-(V : Int)) = T := ⟨_, rfl⟩
          have HTT : Hid _ := hT
          obtain ⟨ok, hok⟩ : ∃ ok, (T == l) = ok := ⟨_, rfl⟩
          have HOK : Hid _ := hok
          have hdT : (⟨T.toArray⟩ : ByteArray).toList = T := Lib.toList_data _
          have HI : Hid _ := hI
          clear hT hI
          go_wp2_with (go_at_call 36; go_must (refine (dec_any _ _ HI.out).mono ?_; rw [HTT.out]; rintro e w2 ⟨rfl, hx2⟩))
          go_ret2
          refine ⟨⟨_, _, rfl, HI.out, fun m hm e => ?_⟩, hx2⟩
          have h1 := HR.out m hm e
          refine ⟨?_, h1⟩
          have h2 := HTT.out
          rw [h1, ← e] at h2
          have h3 := HOK.out
          rw [← h2] at h3
          first | exact h3.symm.trans (by simp) | (rw [← h2]; simp)

set_option maxRecDepth 100000 in
set_option maxHeartbeats 2000000 in
theorem num_plain (c0 : UInt8) (r0 d : B8) (w : World) (hl : d.length ≤ 1000000) (hld : d = c0 :: r0) (hc0 : c0 ≠ 45) :
    Calls Tryd.prog 25 #[S8 d] w fun e w' => Numbered d e ∧ Ext w w' := by
  have HD : Hid (∀ m, I64 m → d = Lib.itoa m → d = Lib.decDigits m.natAbs ∧ 0 ≤ m ∧ d.length ≤ 19 ∧ 1 ≤ d.length) := fun m hm e => by rw [hld] at e ⊢; exact num_pos hm hc0 e
  have hdl : (⟨d.toArray⟩ : ByteArray).toList = d := Lib.toList_data _
  have hi0 : ∀ h : 0 < (⟨d.toArray⟩ : ByteArray).size, ((⟨d.toArray⟩ : ByteArray)[0]'h) = c0 := fun h => by
    show d.toArray[0]'h = c0
    simp [hld]
  have hc45 : ((c0.toNat : Int) == 45) = false := by
    simp only [beq_eq_false_iff_ne]
    intro h
    exact hc0 (UInt8.toNat_inj.1 (by simp; omega))
  have hlen : 1 ≤ d.length := by rw [hld]; simp
  have hll : (0 : Int) < (d.length : Int) := by omega
  have HLD : Hid _ := hld
  clear hld
  go_enter Tryd.func25, Tryd.ntmps25
  by_cases hd1 : d.length < 1
  · have HN : Hid (∀ m, I64 m → d ≠ Lib.itoa m) := fun m hm e => by have := HD.out m hm e; omega
    omega
  · by_cases hd19 : 19 < d.length
    · have HN : Hid (∀ m, I64 m → d ≠ Lib.itoa m) := fun m hm e => by have := HD.out m hm e; omega
      have hd1i : ¬ (d.length : Int) < 1 := by omega
      have hd2i : (19 : Int) < (d.length : Int) := by omega
      go_wp2
      go_ret2
      exact ⟨Numbered.no HN.out, Ext.refl _⟩
    · have hd1i : ¬ (d.length : Int) < 1 := by omega
      have hd2i : ¬ (19 : Int) < (d.length : Int) := by omega
      go_wp2
      go_loop [6, 7] (fun n i => ∃ k V : Nat, k ≤ d.length ∧ i = .int .i64 k ∧ n = .int .i64 (-(V : Int)) ∧ V ≤ 9223372036854775808 ∧ valL (d.take k) = V) (fun _ i => d.length - (intOf i).toNat)
      case atStart => exact ⟨0, 0, Nat.zero_le _, rfl, rfl, by omega, rfl⟩
      case round =>
        obtain ⟨k, V, hk, rfl, rfl, hV, hval⟩ := hrel
        have HV : Hid _ := hval
        clear hval
        by_cases hlt : k < d.length
        · obtain ⟨c, hcc⟩ : ∃ c, d[k]? = some c := ⟨_, List.getElem?_eq_getElem hlt⟩
          have hix : ∀ h : k < (⟨d.toArray⟩ : ByteArray).size, ((⟨d.toArray⟩ : ByteArray)[k]'h) = c := fun h => by
            show d.toArray[k]'h = c
            obtain ⟨h2, h3⟩ := List.getElem?_eq_some_iff.1 hcc
            simpa using h3
          have HCC : Hid _ := hcc
          have hc256 := c.toNat_lt
          clear hcc
          by_cases hlo : c.toNat < 48
          · have HN : Hid (∀ m, I64 m → d ≠ Lib.itoa m) := fun m hm e => by
              have := dec_chars m.natAbs c (by rw [← (HD.out m hm e).1]; exact List.mem_of_getElem? HCC.out)
              omega
            have hx1 : (c.toNat : Int) - 48 < 0 := by omega
            go_wp2
            go_ret2
            exact ⟨Numbered.no HN.out, Ext.refl _⟩
          · by_cases hhi : 57 < c.toNat
            · have HN : Hid (∀ m, I64 m → d ≠ Lib.itoa m) := fun m hm e => by
                have := dec_chars m.natAbs c (by rw [← (HD.out m hm e).1]; exact List.mem_of_getElem? HCC.out)
                omega
              have hx1 : ¬ (c.toNat : Int) - 48 < 0 := by omega
              have hx2 : 9 < (c.toNat : Int) - 48 := by omega
              go_wp2
              go_ret2
              exact ⟨Numbered.no HN.out, Ext.refl _⟩
            · obtain ⟨x, hx⟩ : ∃ x : Nat, c.toNat = 48 + x := ⟨c.toNat - 48, by omega⟩
              have hsub : (c.toNat : Int) - 48 = (x : Int) := by omega
              have hx9 : x ≤ 9 := by omega
              obtain ⟨q, hq⟩ : ∃ q, Int.tdiv (-9223372036854775808 + (x : Int)) 10 = q := ⟨_, rfl⟩
              have hqb : -922337203685477580 ≤ q ∧ q ≤ 0 := by
                have e : (-9223372036854775808 + (x : Int)) = -(9223372036854775808 - (x : Int)) := by omega
                rw [e, Int.neg_tdiv, Int.tdiv_eq_ediv_of_nonneg (by omega)] at hq
                omega
              by_cases hov : -(V : Int) < q
              · have HN : Hid (∀ m, I64 m → d ≠ Lib.itoa m) := fun m hm e => by
                  have h1 := HD.out m hm e
                  have h2 := take_val HCC.out HV.out
                  have h3 := take_val_le (d := d) (k + 1)
                  have h4 := num_over (V := (V : Int)) (x := (x : Int)) (by rw [hq]; exact hov) (by omega) (by omega)
                  rw [h1.1, val_dec] at h3
                  rw [h1.1] at h2
                  have := hm.1
                  have := hm.2
                  omega
                clear hx
                go_wp2
                go_ret2
                exact ⟨Numbered.no HN.out, Ext.refl _⟩
              · have hst := num_step (V := (V : Int)) (x := (x : Int)) (by rw [hq]; exact hov) (by omega) (by omega)
                have hm1 : 10 * -(V : Int) = -((10 * V : Nat) : Int) := by omega
                have hm2 : -((10 * V : Nat) : Int) - (x : Int) = -((10 * V + x : Nat) : Int) := by omega
                have HT : Hid (valL (d.take (k + 1)) = 10 * V + x) := by unfold Hid; rw [take_val HCC.out HV.out]; omega
                clear hx
                go_wp2
                go_round
                case rel => exact ⟨k + 1, 10 * V + x, by omega, by go_num, by first | rfl | (congr 1), by omega, HT.out⟩
                case measure => simp [intOf]; omega
        · have hkk : k = d.length := by omega
          subst hkk
          have hval := HV.out
          rw [List.take_length] at hval
          have HVV : Hid _ := hval
          clear hval
          by_cases hV63 : V = 9223372036854775808
          · have HN : Hid (∀ m, I64 m → d ≠ Lib.itoa m) := fun m hm e => by
              have h1 := HD.out m hm e
              have h2 := HVV.out
              rw [h1.1, val_dec] at h2
              have := hm.2
              omega
            subst hV63
            go_wp2
            go_ret2
            exact ⟨Numbered.no HN.out, Ext.refl _⟩
          · have hI : I64 (V : Int) := by unfold I64; omega
            have hne : (-(V : Int) == -9223372036854775808) = false := by simp; omega
            have hVI : (V : Int) ≤ 9223372036854775807 := by omega
            have HR : Hid (∀ m, I64 m → d = Lib.itoa m → (V : Int) = m) := fun m hm e => by
              have h1 := HD.out m hm e
              have h2 := HVV.out
              rw [h1.1, val_dec] at h2
              omega
            obtain ⟨T, hT⟩ : ∃ T, Lib.itoa (V : Int) = T := ⟨_, rfl⟩
            have HTT : Hid _ := hT
            obtain ⟨ok, hok⟩ : ∃ ok, (T == d) = ok := ⟨_, rfl⟩
            have HOK : Hid _ := hok
            have hdT : (⟨T.toArray⟩ : ByteArray).toList = T := Lib.toList_data _
            have HI : Hid _ := hI
            clear hT hI
            go_wp2_with (go_at_call 36; go_must (refine (dec_any _ _ HI.out).mono ?_; rw [HTT.out]; rintro e w2 ⟨rfl, hx2⟩))
            go_ret2
            refine ⟨⟨_, _, rfl, HI.out, fun m hm e => ?_⟩, hx2⟩
            have h1 := HR.out m hm e
            refine ⟨?_, h1⟩
            have h2 := HTT.out
            rw [h1, ← e] at h2
            have h3 := HOK.out
            rw [← h2] at h3
            first | exact h3.symm.trans (by simp) | (rw [← h2]; simp)

set_option maxRecDepth 100000 in
theorem num_any (l : B8) (w : World) (hl : l.length ≤ 1000000) :
    Calls Tryd.prog 25 #[S8 l] w fun e w' => Numbered l e ∧ Ext w w' := by
  cases l with
  | nil =>
    have HN : Hid (∀ m, I64 m → ([] : B8) ≠ Lib.itoa m) := fun m _ e => (itoa_ne m).1 e.symm
    go_enter Tryd.func25, Tryd.ntmps25
    go_wp2
    go_ret2
    exact ⟨Numbered.no HN.out, Ext.refl _⟩
  | cons c d =>
    by_cases h : c = 45
    · subst h
      exact num_minus d _ w hl rfl
    · exact num_plain c d _ w hl rfl h

end Go.Proofs.YthfkohppillflaaDoor
