/- marref1.Unhex, marref24.unhex: hexadecimal digits read. Conditions: a text of at most 3000000 signs. -/
import Derived.Test.YthfkohppillflaaDoorRsmall
import Derived.Test.YthfkohppillflaaDoorPureBack
namespace Go.Proofs.YthfkohppillflaaDoor
open Go Go.RowKit

/-- A reader of bytes: complete on what is printed. -/
structure Hexed (n : Nat) (G : B8 → Prop) (e : Ending) (w' : World) : Prop where
  out : ∃ v ok b, e = .returned (.tuple #[v, .bool ok]) ∧ IsBytes w' v b ∧ Typed 5 w' v ∧ b.length ≤ n ∧ ∀ d, G d → ok = true ∧ b = d

set_option maxRecDepth 100000 in
set_option maxHeartbeats 800000 in
theorem runhex_any (l : B8) (w : World) (hl : l.length ≤ 3000000) :
    Calls Tryd.prog 51 #[S8 l] w fun e w' => Hexed l.length (fun d => l = hexL d) e w' ∧ Ext w w' := by
  have hd : (⟨l.toArray⟩ : ByteArray).toList = l := Lib.toList_data _
  by_cases hodd : l.length % 2 = 0
  · obtain ⟨m, hm⟩ : ∃ m, l.length = 2 * m := ⟨l.length / 2, by omega⟩
    have hmod : (l.length : Int).tmod 2 = 0 := by
      rw [hm]
      exact Int.tmod_eq_zero_of_dvd ⟨(m : Int), by push_cast; rfl⟩
    have HM : Hid _ := hm
    clear hodd
    go_enter Tryd.func51, Tryd.ntmps51
    go_wp2
    clear hmod
    go_loopw [4, 5] (fun v i wr => ∃ k : Nat, 2 * k ≤ l.length ∧ i = .int .i64 (2 * k) ∧ wr.ownsRow w.heap.size 5 1 v k (((undig l).take k).map fun x => .int .u8 x.toNat) ∧ Ext w wr) (fun _ i _ => l.length - (intOf i).toNat)
    case atStart => exact ⟨0, Nat.zero_le _, rfl, World.ownsRow_nil _ _ _ _, Ext.refl _⟩
    case round =>
      obtain ⟨k, hk, rfl, hown, hx⟩ := hrel
      have hm := HM.out
      by_cases hlt : 2 * k < l.length
      · have hlt1 : 2 * k + 1 < l.length := by omega
        have hl1 : 2 * (k : Int) < (l.length : Int) := by omega
        have hl2 : (2 * (k : Int) + 1) < (l.length : Int) := by omega
        have hwr : IntKind.i64.wrap (2 * (k : Int) + 1) = 2 * (k : Int) + 1 := IntWalk.i64_in _ (by omega)
        have HW : Hid _ := hwr
        obtain ⟨x, hxe⟩ : ∃ x, l.getD (2 * k) 0 = x := ⟨_, rfl⟩
        obtain ⟨y, hye⟩ : ∃ y, l.getD (2 * k + 1) 0 = y := ⟨_, rfl⟩
        have HX : Hid _ := hxe
        have HY : Hid _ := hye
        clear hwr hm
        go_wp2
        apply wp_region_mix 9 [_, _, .int .u8 x.toNat, .int .i64 (digV x), _, _, _, .int .u8 y.toNat, .int .i64 (digV y)] [none, none, none, none, none, none, none, none, none] [[], [], [0, 1], [2], [], [], [5], [4, 6], [7]] (by kernel_rfl) (by kernel_rfl) (by simp [mixV])
        · trivial
        · simp (maxSteps := 1000000) only [List.take_succ_cons, List.take_zero, oblFrom, stepObl, fillFrom, Act.put, List.setIfInBounds_toArray, List.set_cons_zero, List.set_cons_succ, knows, getV, mixV, List.getD_cons_zero, List.getD_cons_succ, and_true, true_and, forall_const]
          refine ⟨?_, ?_, ?_, ?_, ?_, ?_, ?_, ?_, ?_⟩
          · intro xs wq hq R hR
            go_simp
            exact hR _ _ (Ext.refl _) rfl
          · intro xs wq hq R hR
            go_simp
            exact hR _ _ (Ext.refl _) rfl
          · intro xs wq hq hk R hR
            obtain ⟨hk0, hk1⟩ := hk
            go_simp
            rw [dif_pos (by omega)]
            exact hR _ _ (Ext.refl _) (idx_val (by omega) HX.out (by show (2 * (k : Int)).toNat < l.length; omega))
          · intro xs wq hq hk R hR
            go_simp
            exact (digit_any x _).mono (by rintro e w8 ⟨rfl, rfl⟩; exact ⟨_, rfl, hR _ _ (Ext.refl _) rfl⟩)
          · intro xs wq hq R hR
            go_simp
            exact hR _ _ (Ext.refl _) rfl
          · intro xs wq hq R hR
            go_simp
            exact hR _ _ (Ext.refl _) rfl
          · intro xs wq hq hk R hR
            go_simp
            exact hR _ _ (Ext.refl _) rfl
          · intro xs wq hq hk R hR
            obtain ⟨hk0, hk1⟩ := hk
            go_simp
            simp only [HW.out]
            rw [dif_pos ⟨by omega, by omega⟩]
            exact hR _ _ (Ext.refl _) (idx_val (by omega) HY.out (by show (2 * (k : Int) + 1).toNat < l.length; omega))
          · intro xs wq hq hk R hR
            go_simp
            exact (digit_any y _).mono (by rintro e w8 ⟨rfl, rfl⟩; exact ⟨_, rfl, hR _ _ (Ext.refl _) rfl⟩)
        intro xs w2 hx2 hk
        simp only [heldV, Nat.zero_add, Nat.reduceAdd, and_true] at hk
        obtain ⟨q0, q1, q2, q3, q4, q5, q6, q7, q8⟩ := hk
        simp (maxSteps := 1000000) only [List.take_succ_cons, List.take_zero, List.drop_succ_cons, List.drop_zero, fillFrom, Act.put, List.setIfInBounds_toArray, List.set_cons_zero, List.set_cons_succ, Nat.zero_add, Nat.reduceAdd, q0, q1, q2, q3, q4, q5, q6, q7, q8]
        clear q0 q1 q2 q3 q4 q5 q6 q7 q8
        have hxl := digV_lt x
        have hyl := digV_lt y
        by_cases hxd : digV x < 0
        · have HN : Hid (∀ d, l ≠ hexL d) := fun d e => by
            have := digV_hex x (hex_chars (l := d) (by rw [← e, ← HX.out, List.getD_eq_getElem?_getD, List.getElem?_eq_getElem hlt]; exact List.getElem_mem _))
            omega
          go_wp2
          go_ret2
          exact ⟨⟨⟨_, _, [], rfl, Row.nil _, Typed.nil _ _ _ _, Nat.zero_le _, fun d e => (HN.out d e).elim⟩⟩, hx.trans hx2⟩
        · by_cases hyd : digV y < 0
          · have HN : Hid (∀ d, l ≠ hexL d) := fun d e => by
              have := digV_hex y (hex_chars (l := d) (by rw [← e, ← HY.out, List.getD_eq_getElem?_getD, List.getElem?_eq_getElem hlt1]; exact List.getElem_mem _))
              omega
            go_wp2
            go_ret2
            exact ⟨⟨⟨_, _, [], rfl, Row.nil _, Typed.nil _ _ _ _, Nat.zero_le _, fun d e => (HN.out d e).elim⟩⟩, hx.trans hx2⟩
          · obtain ⟨z, hz⟩ : ∃ z, UInt8.ofNat (dig x * 16 + dig y) = z := ⟨_, rfl⟩
            have HZ : Hid _ := hz
            have hxv : digV x = dig x := digV_eq (by omega)
            have hyv : digV y = dig y := digV_eq (by omega)
            have hdx := dig_lt x
            have hdy := dig_lt y
            have hw3 : IntKind.i64.wrap (16 * digV x) = 16 * digV x := IntWalk.i64_in _ (by omega)
            have hw4 : IntKind.i64.wrap (16 * digV x + digV y) = 16 * digV x + digV y := IntWalk.i64_in _ (by omega)
            have hzv : 16 * digV x + digV y = (z.toNat : Int) := by
              rw [← hz, hxv, hyv]
              simp only [UInt8.toNat_ofNat']
              omega
            rw [hzv] at hw4
            have hz256 := z.toNat_lt
            have hown2 := owns_ext hown hx2
            have hsz := (hx.trans hx2).size
            clear hz hxv hyv hdx hdy
            go_wp2_with (at_builtin; refine app_u8 rfl _ _ rfl w.heap.size _ k _ rfl (hown2.alloc _) w2.heap.size 1 1 [z] rfl rfl (alloc_at _ _) (by omega) (by simp; omega) ?_; intro v' w3 hown3 hg3)
            go_roundw
            case rel => exact ⟨k + 1, by omega, by simp; omega, by rw [undig_snoc hlt1 HX.out HY.out HZ.out]; exact hown3, owns_ext_app ((hx.trans hx2).alloc _) (hown2.alloc _) hg3⟩
            case measure => simp [intOf]; omega
      · have hlen := undig_length l
        have hk2 : k = (undig l).length := by omega
        have hg : ¬ 2 * (k : Int) < (l.length : Int) := by omega
        have hb : IsBytes wr u4 (undig l) := by
          unfold IsBytes
          rw [← hk2]
          have h3 := Row.of_owns hown (by omega)
          rwa [List.take_of_length_le (by omega)] at h3
        have HB : Hid _ := hb
        have HT : Hid _ := Typed.of_owns hown
        clear hb hown hm
        go_wp2
        go_ret2
        exact ⟨⟨⟨_, _, undig l, rfl, HB.out, HT.out, by omega, fun d e => ⟨rfl, by rw [e, undig_hex]⟩⟩⟩, hx⟩
  · have hm1 : (l.length : Int) = 2 * ((l.length / 2 : Nat) : Int) + 1 := by omega
    have hmod : (l.length : Int).tmod 2 = 1 := by
      rw [Int.tmod_eq_emod_of_nonneg (by omega)]
      omega
    have HN : Hid (∀ d, l ≠ hexL d) := fun d e => by
      have := hexL_length d
      rw [← e] at this
      omega
    clear hodd hm1
    go_enter Tryd.func51, Tryd.ntmps51
    go_wp2
    go_ret2
    exact ⟨⟨⟨_, _, [], rfl, Row.nil _, Typed.nil _ _ _ _, Nat.zero_le _, fun d e => (HN.out d e).elim⟩⟩, Ext.refl _⟩

set_option maxRecDepth 100000 in
set_option maxHeartbeats 400000 in
theorem runhex24_any (l : B8) (w : World) (hl : l.length ≤ 3000000) :
    Calls Tryd.prog 26 #[S8 l] w fun e w' => Hexed l.length (fun d => l = orL (hexL d)) e w' ∧ Ext w w' := by
  have hd : (⟨l.toArray⟩ : ByteArray).toList = l := Lib.toList_data _
  by_cases h : l = [45]
  · subst h
    go_enter Tryd.func26, Tryd.ntmps26
    go_wp2
    go_ret2
    refine ⟨⟨⟨_, _, [], rfl, Row.nil _, Typed.nil _ _ _ _, Nat.zero_le _, fun d e => ⟨rfl, ?_⟩⟩⟩, Ext.refl _⟩
    have := und_or d
    rw [← e] at this
    rw [← this]
    rfl
  · have h2 : (l == [45]) = false := by simpa using h
    have HOR : Hid (∀ d, l = orL (hexL d) → l = hexL d ∧ d ≠ []) := fun d e => by
      unfold orL at e
      split at e
      · exact (h e).elim
      · rename_i hne
        exact ⟨e, fun hd => hne (by rw [hd]; rfl)⟩
    clear h
    go_enter Tryd.func26, Tryd.ntmps26
    go_wp2_with fail
    go_at_call 51
    refine (runhex_any l _ hl).mono ?_
    rintro e w2 ⟨⟨⟨v, ok, b, rfl, hb, ht, hbl, hc⟩⟩, hx2⟩
    have HB : Hid _ := hb
    have HT : Hid _ := ht
    have HC : Hid _ := hc
    obtain ⟨a, cap, rfl, -⟩ := id hb
    clear hb ht hc
    cases ok with
    | false =>
      go_wp2
      go_ret2
      exact ⟨⟨⟨_, _, b, rfl, HB.out, HT.out, hbl, fun d e => by
        have := (HC.out d (HOR.out d e).1).1
        cases this⟩⟩, hx2⟩
    | true =>
      by_cases hb0 : (0 : Int) < (b.length : Int)
      · go_wp2
        go_ret2
        exact ⟨⟨⟨_, _, b, rfl, HB.out, HT.out, hbl, fun d e => ⟨by first | rfl | exact decide_eq_true (by omega), (HC.out d (HOR.out d e).1).2⟩⟩⟩, hx2⟩
      · go_wp2
        go_ret2
        refine ⟨⟨⟨_, _, b, rfl, HB.out, HT.out, hbl, fun d e => ?_⟩⟩, hx2⟩
        have h1 := (HC.out d (HOR.out d e).1).2
        have h2 := (HOR.out d e).2
        rw [← h1] at h2
        have : b.length ≠ 0 := fun h0 => h2 (List.eq_nil_of_length_eq_zero h0)
        omega

end Go.Proofs.YthfkohppillflaaDoor
