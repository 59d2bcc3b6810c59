/- sha.Hasher.Write: a piece is taken. Conditions: at most 10000000 bytes. -/
import Derived.Test.YtalpfoomkhhgnaaGreatDoorZab
import Derived.Test.YtalpfoomkhhgnaaGreatDoorZaa
import Derived.Test.YtalpfoomkhhgnaaGreatDoorZad
import Derived.Deep.QuietTactic
import Derived.Lib.QuietBelow
import Derived.Test.YtalpfoomkhhgnaaGreatDoorZac
import Derived.BigQuiet
import Derived.Deep.MidRow
import Derived.Deep.Upon

set_option linter.unusedVariables false
set_option linter.unusedSimpArgs false

/-! sha.Hex, Unhex, Valid: bytes as hexadecimal digits, and back. Conditions: at most 30000000 of them. -/
namespace Go.Proofs.YtalpfoomkhhgnaaGreatDoor
open Go Go.RowKit

theorem and15 : ∀ n : Nat, n < 256 → bits BinOp.and IntKind.u8 (n : Int) 15 = ((n % 16 : Nat) : Int) := by decide +kernel
theorem hex_hi (y : UInt8) (h : (y.toNat : Int) / 16 < 16) : Value.int .u8 ((digitsB.toArray[((y.toNat : Int) / 16).toNat]'(by simp [digitsB]; omega)).toNat : Int) = .int .u8 (digitsB.getD (y.toNat / 16) 0).toNat := by
  have e : ((y.toNat : Int) / 16).toNat = y.toNat / 16 := by omega
  have h16 : y.toNat / 16 < digitsB.length := by have := y.toNat_lt; simp [digitsB]; omega
  simp only [e, List.getElem_toArray, List.getD_eq_getElem?_getD, h16, List.getElem?_eq_getElem, Option.getD_some]
theorem hex_lo (y : UInt8) (h : ((y.toNat % 16 : Nat) : Int) < 16) : Value.int .u8 ((digitsB.toArray[(((y.toNat % 16 : Nat) : Int)).toNat]'(by simp [digitsB]; omega)).toNat : Int) = .int .u8 (digitsB.getD (y.toNat % 16) 0).toNat := by
  have e : (((y.toNat % 16 : Nat) : Int)).toNat = y.toNat % 16 := by omega
  have h16 : y.toNat % 16 < digitsB.length := by simp [digitsB]; omega
  simp only [e, List.getElem_toArray, List.getD_eq_getElem?_getD, h16, List.getElem?_eq_getElem, Option.getD_some]
theorem hex_snoc {l : B8} {k : Nat} (h : k < l.length) {y : UInt8} (hy : l.getD k 0 = y) : hexM (l.take (k + 1)) = hexM (l.take k) ++ [digitsB.getD (y.toNat / 16) 0, digitsB.getD (y.toNat % 16) 0] := by
  rw [List.take_succ_eq_append_getElem h]
  have : l[k] = y := by rw [← hy]; simp [h]
  simp [hexM, this]

set_option maxRecDepth 100000 in
set_option maxHeartbeats 400000 in
theorem hex_any (v : Value) (l : B8) (w : World) (hv : IsBytes w v l) (hl : l.length ≤ 30000000) :
    Calls Tryz.prog 41 #[v] w fun e w' => e = .returned (S8 (hexM l)) ∧ Ext w w' := by
  obtain ⟨a, cap, rfl, h1, h2, h3, h4⟩ := hv.get
  have H4 : Hid _ := h4
  clear h4 hv
  go_enter Tryz.func41, Tryz.ntmps41
  go_wp2
  go_loopw [3, 8] (fun v i wr => ∃ k : Nat, k ≤ l.length ∧ i = .int .i64 k ∧ wr.ownsRow w.heap.size 5 1 v (2 * k) ((hexM (l.take k)).map fun x => .int .u8 x.toNat) ∧ Ext w wr) (fun _ i _ => l.length - (intOf i).toNat)
  case atStart => exact ⟨0, Nat.zero_le _, rfl, World.ownsRow_nil _ _ _ _, Ext.refl _⟩
  case round =>
    obtain ⟨k, hk, rfl, hown, hx⟩ := hrel
    by_cases hlt : k < l.length
    · obtain ⟨b, o, rfl, hc⟩ := H4.out k hlt
      have hck := hx.cell (hc k hlt)
      clear hc
      generalize hy : l.getD k 0 = y at hck
      have HY : Hid _ := hy
      clear hy
      have hy256 : y.toNat < 256 := y.toNat_lt
      have ha : bits BinOp.and IntKind.u8 (y.toNat : Int) 15 = ((y.toNat % 16 : Nat) : Int) := and15 _ hy256
      have HA : Hid _ := ha
      clear ha
      go_wp2
      apply wp_region_mix 8 [_, _, _, .int .u8 (digitsB.getD (y.toNat / 16) 0).toNat, _, _, .int .u8 (digitsB.getD (y.toNat % 16) 0).toNat, undef] [none, none, none, none, none, none, none, some (fun u w' => ∃ g, u = .slice (some ⟨g, 0, none⟩) 2 2 ∧ wr.heap.size ≤ g ∧ w'.heap[g]? = some (.cells #[.int .u8 (digitsB.getD (y.toNat / 16) 0).toNat, .int .u8 (digitsB.getD (y.toNat % 16) 0).toNat] 5 (0, 0)))] [[], [], [1], [2], [], [4], [5], [3, 6]] (by kernel_rfl) (by kernel_rfl) (by simp [mixV])
      · refine ⟨?_, trivial⟩
        · exact fun u w w' he ⟨g, h1, h2, h3⟩ => ⟨g, h1, h2, (he.block g (Array.getElem?_eq_some_iff.1 h3).1).trans h3⟩
      · simp (maxSteps := 1000000) only [List.take_succ_cons, List.take_zero, oblFrom, stepObl, fillFrom, Act.put, List.setIfInBounds_toArray, List.set_cons_zero, List.set_cons_succ, knows, getV, mixV, List.getD_cons_zero, List.getD_cons_succ, and_true, true_and, forall_const]
        refine ⟨?_, ?_, ?_, ?_, ?_, ?_, ?_, ?_⟩
        · intro xs wq hq R hR
          go_simp
          exact hR _ _ (Ext.refl _) rfl
        · intro xs wq hq R hR
          go_simp
          exact hR _ _ (Ext.refl _) rfl
        · intro xs wq hq hk R hR
          go_simp
          exact hR _ _ (Ext.refl _) rfl
        · intro xs wq hq hk R hR
          go_simp
          rw [dif_pos ⟨by omega, by omega⟩]
          exact hR _ _ (Ext.refl _) (hex_hi y (by omega))
        · intro xs wq hq R hR
          go_simp
          exact hR _ _ (Ext.refl _) rfl
        · intro xs wq hq hk R hR
          go_simp
          exact hR _ _ (Ext.refl _) rfl
        · intro xs wq hq hk R hR
          go_simp
          rw [HA.out, dif_pos ⟨by omega, by omega⟩]
          exact hR _ _ (Ext.refl _) (hex_lo y (by omega))
        · intro xs wq hq hk R hR
          obtain ⟨hk0, hk1⟩ := hk
          go_simp
          exact hR _ _ ((Ext.refl _).alloc _) ⟨_, rfl, hq.size, alloc_at _ _⟩
      intro xs w2 hx2 hk
      simp only [heldV, Nat.zero_add, Nat.reduceAdd, and_true] at hk
      obtain ⟨q0, q1, q2, q3, q4, q5, q6, q7⟩ := hk
      simp (maxSteps := 1000000) only [List.take_succ_cons, List.take_zero, List.drop_succ_cons, List.drop_zero, fillFrom, Act.put, List.setIfInBounds_toArray, List.set_cons_zero, List.set_cons_succ, Nat.zero_add, Nat.reduceAdd, q0, q1, q2, q3, q4, q5, q6]
      clear q0 q1 q2 q3 q4 q5 q6
      generalize xs 7 = x7 at *
      obtain ⟨g, rfl, hg1, hg2⟩ := q7
      have hown2 := owns_ext hown hx2
      have hlen := hex_len (l.take k)
      go_wp2_with (at_builtin; refine app_u8 rfl _ _ rfl w.heap.size _ (2 * k) _ rfl hown2 g 2 2 [digitsB.getD (y.toNat / 16) 0, digitsB.getD (y.toNat % 16) 0] rfl rfl hg2 (by omega) (by have := (hx.trans hx2).size; exact this) ?_; intro v' w3 hown3 hg3)
      go_roundw
      case rel => exact ⟨k + 1, by omega, by go_num, by rw [hex_snoc hlt HY.out]; exact hown3, owns_ext_app (hx.trans hx2) hown2 hg3⟩
      case measure => simp [intOf]; omega
    · have hkk : k = l.length := by omega
      subst hkk
      rw [List.take_length] at hown
      have hlen := hex_len l
      have hcv := conv_bytes (l := hexM l) (by unfold IsBytes; rw [hlen]; exact Row.of_owns hown (by omega))
      clear hlen
      go_wp2
      go_ret
      exact ⟨rfl, hx⟩

/-! ### Unhex -/
theorem index_dig : ∀ n : Fin 256, Lib.indexByte digitsB (UInt8.ofNat n) = if digM (UInt8.ofNat n) < 16 then (digM (UInt8.ofNat n) : Int) else -1 := by decide +kernel
theorem index_digM (c : UInt8) : Lib.indexByte digitsB c = if digM c < 16 then (digM c : Int) else -1 := by
  have := index_dig ⟨c.toNat, c.toNat_lt⟩
  simpa using this
theorem or16 : ∀ a b : Fin 16, bits BinOp.or IntKind.i64 ((a.val : Int) * 16) (b.val : Int) = (a.val : Int) * 16 + b.val := by decide +kernel
theorem idx_val {l : B8} {i : Int} {n : Nat} {x : UInt8} (hi : i = n) (hx : l.getD n 0 = x) (h : i.toNat < (⟨l.toArray⟩ : ByteArray).size) : Value.int .u8 (((⟨l.toArray⟩ : ByteArray)[i.toNat]).toNat : Int) = .int .u8 x.toNat := by
  subst hi
  have h' : n < l.length := h
  have : (⟨l.toArray⟩ : ByteArray)[(n : Int).toNat] = l[n] := rfl
  rw [this, ← hx]
  simp [h']
theorem ix_val (l : B8) (x : UInt8) {r : Int} (hr : Lib.indexByte l x = r) : Value.int .i64 (Lib.indexByte l ((x.toNat : Int).toNat.toUInt8)) = .int .i64 r := by
  rw [← hr]; simp
theorem unhex_two (x y : UInt8) (l : B8) : unhexM (x :: y :: l) = if digM x < 16 ∧ digM y < 16 then (unhexM l).map (UInt8.ofNat (16 * digM x + digM y) :: ·) else none := rfl
theorem unhex_append : ∀ (a b : B8), a.length % 2 = 0 → unhexM (a ++ b) = (unhexM a).bind fun x => (unhexM b).map (x ++ ·)
  | [], b, _ => by simp [unhexM]
  | [x], b, h => by simp at h
  | x :: y :: a, b, h => by
    have ih := unhex_append a b (by simp only [List.length_cons] at h; omega)
    rw [List.cons_append, List.cons_append, unhex_two, unhex_two, ih]
    by_cases hd : digM x < 16 ∧ digM y < 16
    · rw [if_pos hd, if_pos hd]
      cases unhexM a with
      | none => rfl
      | some r => cases unhexM b <;> rfl
    · rw [if_neg hd, if_neg hd]
      rfl
theorem unhex_odd {l : B8} (h : l.length % 2 = 1) : unhexM l = none := by
  cases hu : unhexM l with
  | none => rfl
  | some b => have := (unhex_len l hu).1; omega
theorem unhex_snoc {l bs : B8} {k : Nat} {x y : UInt8} (h : 2 * k + 1 < l.length) (hx : l.getD (2 * k) 0 = x) (hy : l.getD (2 * k + 1) 0 = y) (hu : unhexM (l.take (2 * k)) = some bs) :
    l.take (2 * (k + 1)) = l.take (2 * k) ++ [x, y] ∧ unhexM (l.take (2 * (k + 1))) = (if digM x < 16 ∧ digM y < 16 then some (bs ++ [UInt8.ofNat (16 * digM x + digM y)]) else none) := by
  have he : l.take (2 * (k + 1)) = l.take (2 * k) ++ [x, y] := by
    have h1 : l[2 * k]? = some x := by rw [← hx]; simp [List.getD_eq_getElem?_getD, show 2 * k < l.length by omega]
    have h2 : l[2 * k + 1]? = some y := by rw [← hy]; simp [List.getD_eq_getElem?_getD, h]
    rw [show 2 * (k + 1) = 2 * k + 1 + 1 by omega, List.take_add_one, List.take_add_one, h1, h2, List.append_assoc]
    rfl
  refine ⟨he, ?_⟩
  rw [he, unhex_append _ _ (by rw [List.length_take]; omega), hu]
  by_cases hd : digM x < 16 ∧ digM y < 16
  · rw [if_pos hd]
    simp [unhexM, hd.1, hd.2]
  · rw [if_neg hd]
    simp only [unhexM, if_neg hd]
    rfl
theorem unhex_none {l bs : B8} {k : Nat} {x y : UInt8} (h : 2 * k + 1 < l.length) (hx : l.getD (2 * k) 0 = x) (hy : l.getD (2 * k + 1) 0 = y) (hu : unhexM (l.take (2 * k)) = some bs) (hd : ¬ (digM x < 16 ∧ digM y < 16)) : unhexM l = none := by
  obtain ⟨h1, h2⟩ := unhex_snoc h hx hy hu
  rw [if_neg hd] at h2
  have := unhex_append (l.take (2 * (k + 1))) (l.drop (2 * (k + 1))) (by rw [List.length_take]; omega)
  rw [List.take_append_drop, h2] at this
  exact this
def UnhexPost (l : B8) (w : World) (e : Ending) (w' : World) : Prop :=
  (match unhexM l with
    | some b => ∃ v, e = .returned (.tuple #[v, .bool true]) ∧ IsBytes w' v b
    | none => e = .returned (.tuple #[.slice none 0 0, .bool false])) ∧ Ext w w'

set_option maxRecDepth 100000 in
set_option maxHeartbeats 800000 in
theorem unhex_any (l : B8) (w : World) (hl : l.length ≤ 140737488355328) :
    Calls Tryz.prog 49 #[S8 l] w (UnhexPost l w) := by
  have hd : (⟨l.toArray⟩ : ByteArray).toList = l := Lib.toList_data _
  by_cases hodd : l.length % 2 = 0
  · obtain ⟨m, hm⟩ : ∃ m, l.length = 2 * m := ⟨l.length / 2, by omega⟩
    have hmod : (l.length : Int).tmod 2 = 0 := by
      rw [hm]
      exact Int.tmod_eq_zero_of_dvd ⟨(m : Int), by push_cast; rfl⟩
    have HM : Hid _ := hm
    clear hodd
    go_enter Tryz.func49, Tryz.ntmps49
    go_wp2
    clear hmod
    go_loopw [4, 5] (fun v i wr => ∃ (k : Nat) (bs : B8), 2 * k ≤ l.length ∧ i = .int .i64 (2 * k) ∧ bs.length = k ∧ Hid (unhexM (l.take (2 * k)) = some bs) ∧ wr.ownsRow w.heap.size 5 1 v k (bs.map fun x => .int .u8 x.toNat) ∧ Ext w wr) (fun _ i _ => l.length - (intOf i).toNat)
    case atStart => exact ⟨0, [], Nat.zero_le _, rfl, rfl, rfl, World.ownsRow_nil _ _ _ _, Ext.refl _⟩
    case round =>
      obtain ⟨k, bs, hk, rfl, hbl, HU, hown, hx⟩ := hrel
      have hm := HM.out
      by_cases hlt : 2 * k < l.length
      · have hlt1 : 2 * k + 1 < l.length := by omega
        have hl1 : 2 * (k : Int) < (l.length : Int) := by omega
        have hl2 : (2 * (k : Int) + 1) < (l.length : Int) := by omega
        have hwr : IntKind.i64.wrap (2 * (k : Int) + 1) = 2 * (k : Int) + 1 := IntWalk.i64_in _ (by omega)
        have HW : Hid _ := hwr
        obtain ⟨x, hxe⟩ : ∃ x, l.getD (2 * k) 0 = x := ⟨_, rfl⟩
        obtain ⟨y, hye⟩ : ∃ y, l.getD (2 * k + 1) 0 = y := ⟨_, rfl⟩
        have HX : Hid _ := hxe
        have HY : Hid _ := hye
        obtain ⟨r, hr⟩ : ∃ r, Lib.indexByte digitsB x = r := ⟨_, rfl⟩
        obtain ⟨s, hs⟩ : ∃ s, Lib.indexByte digitsB y = s := ⟨_, rfl⟩
        have HRX : Hid _ := hr
        have HSY : Hid _ := hs
        have hrv := index_digM x
        have hsv := index_digM y
        rw [hr] at hrv
        rw [hs] at hsv
        have HRV : Hid _ := hrv
        have HSV : Hid _ := hsv
        clear hwr hm hxe hye hr hs hrv hsv
        go_wp2
        apply wp_region_mix 9 [_, _, .int .u8 x.toNat, .int .i64 r, _, _, _, .int .u8 y.toNat, .int .i64 s] [none, none, none, none, none, none, none, none, none] [[], [], [0, 1], [2], [], [], [5], [4, 6], [7]] (by kernel_rfl) (by kernel_rfl) (by simp [mixV])
        · trivial
        · simp (maxSteps := 1000000) only [List.take_succ_cons, List.take_zero, oblFrom, stepObl, fillFrom, Act.put, List.setIfInBounds_toArray, List.set_cons_zero, List.set_cons_succ, knows, getV, mixV, List.getD_cons_zero, List.getD_cons_succ, and_true, true_and, forall_const]
          refine ⟨?_, ?_, ?_, ?_, ?_, ?_, ?_, ?_, ?_⟩
          · intro xs wq hq R hR
            go_simp
            exact hR _ _ (Ext.refl _) rfl
          · intro xs wq hq R hR
            go_simp
            exact hR _ _ (Ext.refl _) rfl
          · intro xs wq hq hk R hR
            obtain ⟨hk0, hk1⟩ := hk
            go_simp
            rw [dif_pos (by omega)]
            exact hR _ _ (Ext.refl _) (idx_val (by omega) HX.out (by show (2 * (k : Int)).toNat < l.length; omega))
          · intro xs wq hq hk R hR
            go_simp
            refine (Tryz.strings_IndexByte ⟨digitsB.toArray⟩ x.toNat _).mono ?_
            rintro e w2 ⟨rfl, rfl⟩
            exact ⟨_, rfl, hR _ _ (Ext.refl _) (ix_val _ x HRX.out)⟩
          · intro xs wq hq R hR
            go_simp
            exact hR _ _ (Ext.refl _) rfl
          · intro xs wq hq R hR
            go_simp
            exact hR _ _ (Ext.refl _) rfl
          · intro xs wq hq hk R hR
            go_simp
            exact hR _ _ (Ext.refl _) rfl
          · intro xs wq hq hk R hR
            obtain ⟨hk0, hk1⟩ := hk
            go_simp
            simp only [HW.out]
            rw [dif_pos ⟨by omega, by omega⟩]
            exact hR _ _ (Ext.refl _) (idx_val (by omega) HY.out (by show (2 * (k : Int) + 1).toNat < l.length; omega))
          · intro xs wq hq hk R hR
            go_simp
            refine (Tryz.strings_IndexByte ⟨digitsB.toArray⟩ y.toNat _).mono ?_
            rintro e w2 ⟨rfl, rfl⟩
            exact ⟨_, rfl, hR _ _ (Ext.refl _) (ix_val _ y HSY.out)⟩
        intro xs w2 hx2 hk
        simp only [heldV, Nat.zero_add, Nat.reduceAdd, and_true] at hk
        obtain ⟨q0, q1, q2, q3, q4, q5, q6, q7, q8⟩ := hk
        simp (maxSteps := 1000000) only [List.take_succ_cons, List.take_zero, List.drop_succ_cons, List.drop_zero, fillFrom, Act.put, List.setIfInBounds_toArray, List.set_cons_zero, List.set_cons_succ, Nat.zero_add, Nat.reduceAdd, q0, q1, q2, q3, q4, q5, q6, q7, q8]
        clear q0 q1 q2 q3 q4 q5 q6 q7 q8
        have hrv := HRV.out
        have hsv := HSV.out
        have hx2' := Ext.trans hx hx2
        by_cases hxd : digM x < 16
        · rw [if_pos hxd] at hrv
          by_cases hyd : digM y < 16
          · rw [if_pos hyd] at hsv
            obtain ⟨z, hz⟩ : ∃ z, UInt8.ofNat (16 * digM x + digM y) = z := ⟨_, rfl⟩
            have hbv : bits BinOp.or IntKind.i64 (r * 16) s % 256 = (z.toNat : Int) := by
              have := or16 ⟨digM x, hxd⟩ ⟨digM y, hyd⟩
              simp only at this
              rw [hrv, hsv, this, ← hz]
              simp only [UInt8.toNat_ofNat']
              omega
            have HZ : Hid _ := hz
            have hr0 : ¬ r < 0 := by omega
            have hs0 : ¬ s < 0 := by omega
            have hr16 : r < 16 := by omega
            have hs16 : s < 16 := by omega
            have HXD : Hid _ := hxd
            have HYD : Hid _ := hyd
            have hown2 := owns_ext hown hx2
            have hsz := hx2'.size
            clear hrv hsv hz hxd hyd hown
            go_wp2_with (at_builtin; go_must (refine app_u8 rfl _ _ rfl w.heap.size _ k _ rfl (hown2.alloc _) w2.heap.size 1 1 [z] rfl rfl (alloc_at _ _) (by omega) (by simp; omega) ?_; intro v' w3 hown3 hg3))
            go_roundw
            case rel => exact ⟨k + 1, bs ++ [z], by omega, by go_num, by simp [hbl], by unfold Hid; rw [(unhex_snoc hlt1 HX.out HY.out HU.out).2, if_pos ⟨HXD.out, HYD.out⟩, HZ.out], by simpa using hown3, owns_ext_app (hx2'.alloc _) (hown2.alloc _) hg3⟩
            case measure => simp [intOf]; omega
          · rw [if_neg hyd] at hsv
            have HN : Hid _ := unhex_none hlt1 HX.out HY.out HU.out (fun h => hyd h.2)
            have hr0 : ¬ r < 0 := by omega
            have hs0 : s < 0 := by omega
            clear hrv hsv hxd hyd
            go_wp2
            go_ret2
            unfold UnhexPost
            rw [HN.out]
            exact ⟨rfl, hx2'⟩
        · rw [if_neg hxd] at hrv
          have HN : Hid _ := unhex_none hlt1 HX.out HY.out HU.out (fun h => hxd h.1)
          have hr0 : r < 0 := by omega
          clear hrv hsv hxd
          go_wp2
          go_ret2
          unfold UnhexPost
          rw [HN.out]
          exact ⟨rfl, hx2'⟩
      · have hg : ¬ (2 * (k : Int)) < (l.length : Int) := by omega
        have hlk : 2 * k = l.length := by omega
        have hu := HU.out
        rw [hlk, List.take_length] at hu
        have HUL : Hid _ := hu
        have hb : IsBytes wr u4 bs := by
          unfold IsBytes
          rw [hbl]
          exact Row.of_owns hown (by omega)
        have HBS : Hid _ := hb
        clear hb hown hu hlk hm
        go_wp2
        go_ret2
        unfold UnhexPost
        rw [HUL.out]
        exact ⟨⟨_, rfl, HBS.out⟩, hx⟩
  · have ho : l.length % 2 = 1 := by omega
    have hmod : (l.length : Int).tmod 2 = 1 := by rw [Int.tmod_eq_emod_of_nonneg (by omega)]; omega
    have HN : Hid _ := unhex_odd ho
    clear hodd ho
    go_enter Tryz.func49, Tryz.ntmps49
    go_wp2
    go_ret2
    unfold UnhexPost
    rw [HN.out]
    exact ⟨rfl, Ext.refl _⟩

set_option maxRecDepth 100000 in
theorem valid_any (l : B8) (w : World) (hl : l.length ≤ 140737488355328) :
    Calls Tryz.prog 18 #[S8 l] w fun e w' => e = .returned (.bool (validB l)) ∧ Ext w w' := by
  go_enter Tryz.func18, Tryz.ntmps18
  go_wp2_with fail
  go_at_call 49
  refine (unhex_any l w hl).mono ?_
  rintro e w1 ⟨h, hx⟩
  have HV : Hid (validB l = match unhexM l with | some b => b.length == 32 | none => false) := rfl
  cases hu : unhexM l with
  | none =>
    rw [hu] at h
    have HV2 : Hid (validB l = false) := by unfold Hid; rw [HV.out, hu]
    subst h
    clear hu HV
    go_wp2
    go_ret
    exact ⟨by rw [HV2.out]; rfl, hx⟩
  | some b =>
    rw [hu] at h
    obtain ⟨v, rfl, hb⟩ := h
    obtain ⟨s1, s2, rfl, -⟩ := id hb
    have hv : validB l = (b.length == 32) := by rw [HV.out, hu]
    have hlen := (unhex_len l hu).1
    have hbe : (((b.length : Nat) : Int) == 32) = validB l := by
      rw [hv]
      by_cases h32 : b.length = 32
      · rw [h32]; rfl
      · have h1 : (b.length == 32) = false := by simpa using h32
        rw [h1]
        simp only [beq_eq_false_iff_ne, ne_eq]
        omega
    have HBE : Hid _ := hbe
    clear hu HV hv hb hbe hlen
    go_wp2
    go_ret
    exact ⟨by rw [← HBE.out]; rfl, hx⟩

end Go.Proofs.YtalpfoomkhhgnaaGreatDoor

/-! A region that draws its order and only reads, walked once: each step's rest behind a structure, so that nothing of it is unfolded ahead of its turn. Conditions: as each theorem states. -/
namespace Go.Proofs.YtalpfoomkhhgnaaGreatDoor
open Go Go.RowKit Go.Sort

structure QW (p : Prop) : Prop where
  out : p
section
variable {P : Program} {ops : Array Oper} {C : World → Prop}
theorem qw_nil {Q : Act → Prop} {a : Act} (h : Q a) : QW (wpQuiet P ops C Q [] a) := ⟨wpQuiet_nil h⟩
theorem qw_step {Q : Act → Prop} {a : Act} {o : Oper} {rest : List Oper}
    (h : ∀ K : Act → Prop, (∀ a, QW (wpQuiet P ops C Q rest a) → K a) → if Region.wanted o (yielded ops a.tmps) then o.quiet P a C K else K (a.put o.dst undef)) : QW (wpQuiet P ops C Q (o :: rest) a) :=
  ⟨wpQuiet_step fun K hK => h K (fun a ha => hK a ha.out)⟩
/-- .. where calls may lay blocks. -/
theorem qw_below {id : Nat} {Q : Exit → Act → World → Prop} {a : Act} {w : World} {l : List Oper} (hm : P.follows .mixedOrders = true) (hB : Region.lexB .any l.toArray = true)
    (h : QW (wpQuiet P l.toArray (fun w' => ∃ p : Regrown, w' = grow (redrawn w p.d) p.os) (fun a' => ∀ w', (∃ p : Regrown, w' = grow (redrawn w p.d) p.os) → Q .normal a' w') l a)) : (Code.region id l.toArray true).wp P Q a w :=
  wp_region_quiet_below hm hB h.out
end
theorem Ext.drawn (w : World) (n : Nat) : Ext w (w.drewN n) := ⟨rfl, rfl, rfl, Nat.le_refl _, fun _ _ => rfl⟩
theorem Ext.regrown (w : World) (d : Nat) (os : Array Obj) : Ext w (grow (redrawn w d) os) := below_regrown w d os

end Go.Proofs.YtalpfoomkhhgnaaGreatDoor

/-! A region that draws its order and whose calls make blocks of their own: that the blocks of two of them differ is known behind it. Conditions: each operation of the head leaves what was there as it was. -/
namespace Go.Proofs.YtalpfoomkhhgnaaGreatDoor
open Go Go.RowKit

/-- The block that a map or a slice lies in. -/
def blkOf : Value → Option Nat
  | .map (some g) => some g
  | .slice (some a) _ _ => some a.block
  | .pointer (some a) => some a.block
  | _ => none
/-- What an operation hands back lies in a block that it made. -/
def FreshIn (u : Value) (w w' : World) : Prop := ∀ b, blkOf u = some b → w.heap.size ≤ b ∧ b < w'.heap.size
def Dis (F : List Nat) (xs : Nat → Value) (i j : Nat) : Prop := i ∈ F → j ∈ F → i ≠ j → ∀ b, blkOf (xs i) = some b → blkOf (xs j) = some b → False

section
variable {P : Program} {C : World → Prop} {le : World → World → Prop}
def stepDis (P : Program) (C : World → Prop) (le : World → World → Prop) (F : List Nat) (ops : Array Oper) (V : List (Value → World → Prop)) (head : List Oper) (a0 : Act) (k : Nat) (d : List Nat) (o : Oper) : Prop :=
  ∀ (xs : Nat → Value) (w : World), C w → knows V xs w d → ∀ R : Value → World → Prop, (∀ u w', le w w' → getV V k u w' → (k ∈ F → FreshIn u w w') → R u w') →
    if Region.wanted o (yielded ops (fillFrom xs head 0 a0).tmps) then relUpon P R ((execOp (fillFrom xs head 0 a0).eval o).run P w) else R undef w
def oblDis (P : Program) (C : World → Prop) (le : World → World → Prop) (F : List Nat) (ops : Array Oper) (V : List (Value → World → Prop)) (D : List (List Nat)) (head : List Oper) (a0 : Act) : List Oper → Nat → Prop
  | [], _ => True
  | o :: l, k => stepDis P C le F ops V head a0 k (D.getD k []) o ∧ oblDis P C le F ops V D head a0 l (k + 1)
structure RDis (C : World → Prop) (F : List Nat) (ops : Array Oper) (n : Nat) (V : List (Value → World → Prop)) (a0 : Act) (listed : Array Bool) (a : Act) (w : World) : Prop where
  head : HeadInv .any ops n listed
  ext : C w
  fill : ∃ xs : Nat → Value, a = fillFrom xs (ops.toList.take n) 0 a0 ∧ (∀ j, j < n → listed.getD j false = true → getV V j (xs j) w) ∧ (∀ i j, i < n → j < n → listed.getD i false = true → listed.getD j false = true → Dis F xs i j) ∧ (∀ j, j < n → listed.getD j false = true → j ∈ F → ∀ b, blkOf (xs j) = some b → b < w.heap.size)

end

end Go.Proofs.YtalpfoomkhhgnaaGreatDoor

/-! fsim.FS: Copy. Conditions: what holds of a file system at all times. -/
namespace Go.Proofs.YtalpfoomkhhgnaaGreatDoor
open Go Go.RowKit

theorem owns_low {w : World} {base base' : Nat} {e : TypeId} {size : Nat} {v : Value} {n : Nat} {xs : List Value} (h : w.ownsRow base e size v n xs) (hb : base' ≤ base) : w.ownsRow base' e size v n xs := by
  refine ⟨h.1, h.2.imp id ?_⟩
  rintro ⟨g, cap, cur, h1, h2, h3⟩
  exact ⟨g, cap, cur, h1, Nat.le_trans hb h2, h3⟩
end Go.Proofs.YtalpfoomkhhgnaaGreatDoor

/-! sha: words turned; the schedule of a block. Conditions: as each theorem states. -/
namespace Go.Proofs.YtalpfoomkhhgnaaGreatDoor
open Go Go.RowKit

theorem sub_of (s : Nat) (hs : s < 32) : (32 : UInt32) - UInt32.ofNat s = UInt32.ofNat (32 - s) := by
  apply UInt32.toNat_inj.1
  have h1 : (UInt32.ofNat s).toNat = s := by simp; omega
  have h2 : (UInt32.ofNat (32 - s)).toNat = 32 - s := by simp; omega
  rw [UInt32.toNat_sub_of_le _ _ (by rw [UInt32.le_iff_toNat_le, h1]; show s ≤ 32; omega), h1, h2]
  rfl
set_option maxRecDepth 100000 in
theorem rotl_any (x : UInt32) (k s : Nat) (w : World) (hs0 : 0 < s) (hs : s < 32) (hb : bits BinOp.and IntKind.u64 (IntKind.u64.wrap (-(k : Int))) 31 = (s : Int)) :
    Calls Tryz.prog 164 #[U32 x, .int .i64 (-(k : Int))] w fun e w' => e = .returned (U32 (rotl x (UInt32.ofNat s))) ∧ w' = w := by
  have h1 : (0 : Int) ≤ (s : Int) := by omega
  have h2 : (s : Int) ≤ 32 := by omega
  have h3 : IntKind.u64.wrap (32 - (s : Int)) = ((32 - s : Nat) : Int) := by rw [IntWalk.u64_in _ (by omega)]; omega
  have h4 : (0 : Int) ≤ ((32 - s : Nat) : Int) := by omega
  have h5 : ((32 - s : Nat) : Int) ≤ 32 := by omega
  have HV : Hid (Value.int IntKind.u32 (bits BinOp.or IntKind.u32 (↑x.toNat * 2 ^ s % 4294967296) (↑x.toNat / 2 ^ (32 - s))) = U32 (rotl x (UInt32.ofNat s))) := by
    unfold Hid rotl
    rw [shl32 x s hs, shr32 x (32 - s) (by omega), bits_or32, sub_of s hs]
  go_enter Tryz.func164, Tryz.ntmps164
  go_wp2
  go_ret
  exact ⟨congrArg Ending.returned HV.out, rfl⟩
theorem rot6 (x : UInt32) (w : World) : Calls Tryz.prog 164 #[U32 x, .int .i64 (-6)] w fun e w' => e = .returned (U32 (rotl x 26)) ∧ w' = w := rotl_any x 6 26 w (by decide) (by decide) (by decide +kernel)
theorem rot11 (x : UInt32) (w : World) : Calls Tryz.prog 164 #[U32 x, .int .i64 (-11)] w fun e w' => e = .returned (U32 (rotl x 21)) ∧ w' = w := rotl_any x 11 21 w (by decide) (by decide) (by decide +kernel)
theorem rot25 (x : UInt32) (w : World) : Calls Tryz.prog 164 #[U32 x, .int .i64 (-25)] w fun e w' => e = .returned (U32 (rotl x 7)) ∧ w' = w := rotl_any x 25 7 w (by decide) (by decide) (by decide +kernel)
theorem rot2 (x : UInt32) (w : World) : Calls Tryz.prog 164 #[U32 x, .int .i64 (-2)] w fun e w' => e = .returned (U32 (rotl x 30)) ∧ w' = w := rotl_any x 2 30 w (by decide) (by decide) (by decide +kernel)
theorem rot13 (x : UInt32) (w : World) : Calls Tryz.prog 164 #[U32 x, .int .i64 (-13)] w fun e w' => e = .returned (U32 (rotl x 19)) ∧ w' = w := rotl_any x 13 19 w (by decide) (by decide) (by decide +kernel)
theorem rot22 (x : UInt32) (w : World) : Calls Tryz.prog 164 #[U32 x, .int .i64 (-22)] w fun e w' => e = .returned (U32 (rotl x 10)) ∧ w' = w := rotl_any x 22 10 w (by decide) (by decide) (by decide +kernel)
theorem rot7 (x : UInt32) (w : World) : Calls Tryz.prog 164 #[U32 x, .int .i64 (-7)] w fun e w' => e = .returned (U32 (rotl x 25)) ∧ w' = w := rotl_any x 7 25 w (by decide) (by decide) (by decide +kernel)
theorem rot18 (x : UInt32) (w : World) : Calls Tryz.prog 164 #[U32 x, .int .i64 (-18)] w fun e w' => e = .returned (U32 (rotl x 14)) ∧ w' = w := rotl_any x 18 14 w (by decide) (by decide) (by decide +kernel)
theorem rot17 (x : UInt32) (w : World) : Calls Tryz.prog 164 #[U32 x, .int .i64 (-17)] w fun e w' => e = .returned (U32 (rotl x 15)) ∧ w' = w := rotl_any x 17 15 w (by decide) (by decide) (by decide +kernel)
theorem rot19 (x : UInt32) (w : World) : Calls Tryz.prog 164 #[U32 x, .int .i64 (-19)] w fun e w' => e = .returned (U32 (rotl x 13)) ∧ w' = w := rotl_any x 19 13 w (by decide) (by decide) (by decide +kernel)

end Go.Proofs.YtalpfoomkhhgnaaGreatDoor

/-! sha.schedule: a block's words, spread over the rounds. Conditions: a block of 64 bytes. -/
namespace Go.Proofs.YtalpfoomkhhgnaaGreatDoor
open Go Go.RowKit

/-- A block of n cells that hold words. -/
def wordsC (l : List UInt32) (n : Nat) : Array Value := ((l ++ List.replicate (n - l.length) 0).map U32).toArray
theorem wordsC_size {l : List UInt32} {n : Nat} (h : l.length ≤ n) : (wordsC l n).size = n := by
  unfold wordsC
  simp
  omega
theorem wordsC_get {l : List UInt32} {n i : Nat} (h : i < l.length) : (wordsC l n)[i]? = some (U32 (l.getD i 0)) := by
  unfold wordsC
  simp [List.getElem?_append, h, List.getD_eq_getElem?_getD]
theorem wordsC_put {l : List UInt32} {n : Nat} (x : UInt32) (h : l.length < n) : wordsC (l ++ [x]) n = ((wordsC l n).toList.take l.length ++ [U32 x] ++ (wordsC l n).toList.drop (l.length + 1)).toArray := by
  unfold wordsC
  apply Array.ext'
  simp only [List.toList_toArray, List.map_append, List.map_cons, List.map_nil]
  rw [List.take_left' (by simp), show n - l.length = (n - (l ++ [x]).length) + 1 by simp; omega, List.replicate_succ, List.map_cons, List.append_assoc, List.append_assoc]
  congr 1
  rw [List.drop_append, List.length_map, show l.length + 1 - l.length = 1 by omega, List.drop_eq_nil_of_le (by simp)]
  simp
theorem wordsC_full {l : List UInt32} {n : Nat} (h : l.length = n) : wordsC l n = (l.map U32).toArray := by
  unfold wordsC
  rw [show n - l.length = 0 by omega]
  simp
theorem words_cell {w : World} {g : Nat} {l : List UInt32} {n i : Nat} {t : TypeId} {fr : Nat × Nat} (hg : w.heap[g]? = some (.cells (wordsC l n) t fr)) (h : i < l.length) : w.cell? ⟨g, i, none⟩ = some (U32 (l.getD i 0)) :=
  (cell_of_row w g i _ _ _ hg).trans (wordsC_get h)
theorem info_u32 : (Tryz.prog.info? 139).map (·.size) = some 1 := by kernel_rfl
theorem conv_u32 (y : UInt8) : Value.int .u32 (IntKind.u32.wrap (y.toNat : Int)) = U32 y.toUInt32 := by
  have := y.toNat_lt
  rw [wrap_u32 _ (by omega)]
  simp [U32]
theorem shl24 (x : UInt32) : Value.int .u32 (IntKind.u32.wrap ((x.toNat : Int) * 16777216)) = U32 (x <<< 24) := by
  have h := shl32 x 24 (by decide)
  have e : IntKind.u32.wrap ((x.toNat : Int) * 16777216) = ((x.toNat : Int) * 16777216) % 4294967296 := by rw [IntKind.wrap_u32]
  rw [e]
  exact congrArg _ h
theorem shl16 (x : UInt32) : Value.int .u32 (IntKind.u32.wrap ((x.toNat : Int) * 65536)) = U32 (x <<< 16) := by
  have h := shl32 x 16 (by decide)
  have e : IntKind.u32.wrap ((x.toNat : Int) * 65536) = ((x.toNat : Int) * 65536) % 4294967296 := by rw [IntKind.wrap_u32]
  rw [e]
  exact congrArg _ h
theorem shl8 (x : UInt32) : Value.int .u32 (IntKind.u32.wrap ((x.toNat : Int) * 256)) = U32 (x <<< 8) := by
  have h := shl32 x 8 (by decide)
  have e : IntKind.u32.wrap ((x.toNat : Int) * 256) = ((x.toNat : Int) * 256) % 4294967296 := by rw [IntKind.wrap_u32]
  rw [e]
  exact congrArg _ h
theorem or_u32 (x y : UInt32) : Value.int .u32 (bits .or .u32 (x.toNat : Int) (y.toNat : Int)) = U32 (x ||| y) := congrArg _ (bits_or32 x y)
theorem add_u32 (x y : UInt32) : Value.int .u32 (((x.toNat : Int) + (y.toNat : Int)) % 4294967296) = U32 (x + y) := congrArg _ (add32 x y)
theorem sched_snoc (b : B8) (k : Nat) : wSched b (k + 1) = wSched b k ++ [if k < 16 then be4 b k else wNext (wSched b k) k] := rfl

section
variable {ops : Array Oper} {rest : List Oper} {o : Oper} {a : Act} {Q : Exit → Act → World → Prop} {w : World}
/-- A store of all cells of a block known whole. -/
theorem store_all (hgd : o.guard = none) (ty : TypeId) (x y : Operand) (ho : o.op = .store ty x y) (g j : Nat) (hx : a.eval x = .pointer (some ⟨g, j, none⟩)) (vs : Array Value) (hy : a.eval y = .agg vs) (h1 : ∀ v ∈ vs.toList, v.oneCell' = true)
    (t : TypeId) (cur : Array Value) (hg : w.heap[g]? = some (.cells cur t (0, 0))) (hj : j + vs.size ≤ cur.size) (hi : (Tryz.prog.info? ty).map (·.size) = some vs.size) (new : Array Value) (hnew : new = (cur.toList.take j ++ vs.toList ++ cur.toList.drop (j + vs.size)).toArray)
    (h : ∀ w', w'.heap[g]? = some (.cells new t (0, 0)) → w.grownBy w' (some g) → wpList Tryz.prog ops Q rest (a.put o.dst undef) w') : wpList Tryz.prog ops Q (o :: rest) a w :=
  wpList_plain hgd fun _ hK => by
    have hs := run_storeCells_at (P := Tryz.prog) g j t vs.toList 0 cur w hg (by simpa using hj) h1
    have hr : (storeVar ty ⟨g, j, none⟩ (.agg vs)).run Tryz.prog w = .ok () (w.setRow g new) := by
      cases hq : Tryz.prog.info? ty with
      | none => simp [hq] at hi
      | some i =>
        have hs1 : i.size = vs.size := by simpa [hq] using hi
        simp only [Nat.add_zero, Array.length_toList] at hs
        rw [hnew]
        simp [storeVar, sizeOf, typeInfo, hq, Value.cells, hs1, hs]
    unfold Oper.wp execOp
    simp only [ho, hx, hy, Instr.storeAt, Instr.sureAddr, Sem.run_bind, Sem.run_pure, Result.andThen_ok, hr]
    exact hK _ _ (h _ (setRow_heap _ _ _ _ _ _ hg) (setRow_grown _ _ _))
end
theorem size_a64 : (Tryz.prog.info? 159).map (·.size) = some 64 := by kernel_rfl
theorem size_a8 : (Tryz.prog.info? 146).map (·.size) = some 8 := by kernel_rfl
theorem u32s_one (l : List UInt32) : ∀ v ∈ (l.map U32).toArray.toList, v.oneCell' = true := by
  intro v hv
  obtain ⟨x, -, rfl⟩ := List.mem_map.1 (by simpa using hv)
  rfl
theorem addw_u32 (x y : UInt32) : Value.int .u32 (IntKind.u32.wrap ((x.toNat : Int) + (y.toNat : Int))) = U32 (x + y) := by
  rw [IntKind.wrap_u32]
  exact add_u32 x y
/-- What the loop holds. -/
structure Sch (w wr : World) (b : B8) (k : Nat) : Prop where
  ext : Ext w wr
  now : wr.heap[w.heap.size + 1]? = some (.cells (wordsC (wSched b k) 64) 159 (0, 0))
  res : wr.heap[w.heap.size]? = some (.cells (wordsC [] 64) 159 (0, 0))
theorem Sch.more {w wr w2 : World} {b : B8} {k : Nat} (h : Sch w wr b k) (hx : Ext wr w2) : Sch w w2 b k := ⟨h.ext.trans hx, Ext.row hx h.now, Ext.row hx h.res⟩
theorem Sch.put {w wr w2 : World} {b : B8} {k : Nat} (h : Sch w wr b k) (hg : w2.heap[w.heap.size + 1]? = some (.cells (wordsC (wSched b (k + 1)) 64) 159 (0, 0))) (hgr : wr.grownBy w2 (some (w.heap.size + 1))) : Sch w w2 b (k + 1) :=
  ⟨Below.grown h.ext hgr h.ext.size (fun j hj => by cases hj; omega), hg, (hgr.block _ (Array.getElem?_eq_some_iff.1 h.res).1 (by simp)).trans h.res⟩

set_option maxRecDepth 100000 in
set_option maxHeartbeats 4000000 in
theorem schedule_any (v : Value) (b : B8) (w : World) (hv : IsBytes w v b) (hb : b.length = 64) :
    Calls Tryz.prog 163 #[v] w fun e w' => e = .returned (.agg ((wSched b 64).map U32).toArray) ∧ Ext w w' := by
  obtain ⟨a, cap, rfl, h1, h2, h3, h4⟩ := hv.get
  have H4 : Hid _ := h4
  have H64 : Hid _ := hb
  clear h4 hv hb
  go_enter Tryz.func163, Tryz.ntmps163
  go_wp2_with fail
  go_loopw [9] (fun i wr => ∃ k : Nat, k ≤ 64 ∧ i = .int .i64 k ∧ Sch w wr b k) (fun i _ => 64 - (intOf i).toNat)
  case atStart => exact ⟨0, by omega, rfl, ((Ext.refl _).alloc _).alloc _, by have h9 := alloc_at1 w (.cells (wordsC [] 64) 159) (.cells (wordsC [] 64) 159); exact h9, by have h9 := Ext.row ((Ext.refl _).alloc (.cells (wordsC [] 64) 159)) (alloc_at w (.cells (wordsC [] 64) 159)); exact h9⟩
  case round =>
    obtain ⟨k, hk, rfl, hS⟩ := hrel
    have HS : Hid _ := hS
    have hsl := sched_len b k
    clear hS
    by_cases hlt : k < 16
    · obtain ⟨bb, oo, rfl, hc⟩ := H4.out (4 * k) (by have := H64.out; omega)
      have hx := HS.out.ext
      have d0 := hx.cell (hc (4 * k) (by have := H64.out; omega))
      have d1 := hx.cell (hc (4 * k + 1) (by have := H64.out; omega))
      have d2 := hx.cell (hc (4 * k + 2) (by have := H64.out; omega))
      have d3 := hx.cell (hc (4 * k + 3) (by have := H64.out; omega))
      obtain ⟨y0, hy0⟩ : ∃ y, b.getD (4 * k) 0 = y := ⟨_, rfl⟩
      obtain ⟨y1, hy1⟩ : ∃ y, b.getD (4 * k + 1) 0 = y := ⟨_, rfl⟩
      obtain ⟨y2, hy2⟩ : ∃ y, b.getD (4 * k + 2) 0 = y := ⟨_, rfl⟩
      obtain ⟨y3, hy3⟩ : ∃ y, b.getD (4 * k + 3) 0 = y := ⟨_, rfl⟩
      rw [hy0] at d0
      rw [hy1] at d1
      rw [hy2] at d2
      rw [hy3] at d3
      have HSN : Hid (wSched b (k + 1) = wSched b k ++ [(((y0.toUInt32 <<< 24) ||| (y1.toUInt32 <<< 16)) ||| (y2.toUInt32 <<< 8)) ||| y3.toUInt32]) := by
        unfold Hid
        rw [sched_snoc, if_pos hlt]
        unfold be4
        rw [hy0, hy1, hy2, hy3]
      clear hy0 hy1 hy2 hy3 hc hx
      obtain ⟨x0, hx0⟩ : ∃ x, y0.toUInt32 = x := ⟨_, rfl⟩
      obtain ⟨x1, hx1⟩ : ∃ x, y1.toUInt32 = x := ⟨_, rfl⟩
      obtain ⟨x2, hx2⟩ : ∃ x, y2.toUInt32 = x := ⟨_, rfl⟩
      obtain ⟨x3, hx3⟩ : ∃ x, y3.toUInt32 = x := ⟨_, rfl⟩
      rw [hx0, hx1, hx2, hx3] at HSN
      have HX0 : Hid _ := hx0
      have HX1 : Hid _ := hx1
      have HX2 : Hid _ := hx2
      have HX3 : Hid _ := hx3
      clear hx0 hx1 hx2 hx3
      have n0 : 4 * (k : Int) < (b.length : Int) := by have := H64.out; omega
      have n1 : 4 * (k : Int) + 1 < (b.length : Int) := by have := H64.out; omega
      have n2 : 4 * (k : Int) + 2 < (b.length : Int) := by have := H64.out; omega
      have n3 : 4 * (k : Int) + 3 < (b.length : Int) := by have := H64.out; omega
      have W0 : Hid (IntKind.i64.wrap (4 * (k : Int)) = 4 * (k : Int) ∧ (4 * (k : Int)).toNat = 4 * k) := ⟨IntWalk.i64_in _ (by omega), by omega⟩
      have W1 : Hid (IntKind.i64.wrap (4 * (k : Int) + 1) = 4 * (k : Int) + 1 ∧ (4 * (k : Int) + 1).toNat = 4 * k + 1) := ⟨IntWalk.i64_in _ (by omega), by omega⟩
      have W2 : Hid (IntKind.i64.wrap (4 * (k : Int) + 2) = 4 * (k : Int) + 2 ∧ (4 * (k : Int) + 2).toNat = 4 * k + 2) := ⟨IntWalk.i64_in _ (by omega), by omega⟩
      have W3 : Hid (IntKind.i64.wrap (4 * (k : Int) + 3) = 4 * (k : Int) + 3 ∧ (4 * (k : Int) + 3).toNat = 4 * k + 3) := ⟨IntWalk.i64_in _ (by omega), by omega⟩
      go_wp2_with fail
      apply wp_region_mix 35 [_, _, _, _, .pointer (some ⟨bb, oo + 4 * k, none⟩), .int .u8 y0.toNat, U32 x0, U32 (x0 <<< 24), _, _, _, _, .pointer (some ⟨bb, oo + (4 * k + 1), none⟩), .int .u8 y1.toNat, U32 x1, U32 (x1 <<< 16), U32 ((x0 <<< 24) ||| (x1 <<< 16)), _, _, _, _, .pointer (some ⟨bb, oo + (4 * k + 2), none⟩), .int .u8 y2.toNat, U32 x2, U32 (x2 <<< 8), U32 (((x0 <<< 24) ||| (x1 <<< 16)) ||| (x2 <<< 8)), _, _, _, _, .pointer (some ⟨bb, oo + (4 * k + 3), none⟩), .int .u8 y3.toNat, U32 x3, U32 ((((x0 <<< 24) ||| (x1 <<< 16)) ||| (x2 <<< 8)) ||| x3), .pointer (some ⟨w.heap.size + 1, k, none⟩)] [none, none, none, none, none, none, none, none, none, none, none, none, none, none, none, none, none, none, none, none, none, none, none, none, none, none, none, none, none, none, none, none, none, none, none] [[], [], [], [2], [1, 3], [4], [5], [6], [], [], [9], [10], [8, 11], [12], [13], [14], [7, 15], [], [], [18], [19], [17, 20], [21], [22], [23], [16, 24], [], [], [27], [28], [26, 29], [30], [31], [25, 32], [0]] (by kernel_rfl) (by kernel_rfl) (by simp [mixV])
      · trivial
      · simp (maxSteps := 1000000) only [List.take_succ_cons, List.take_zero, oblFrom, stepObl, fillFrom, Act.put, List.setIfInBounds_toArray, List.set_cons_zero, List.set_cons_succ, knows, getV, mixV, List.getD_cons_zero, List.getD_cons_succ, and_true, true_and, forall_const]
        refine ⟨?_, ?_, ?_, ?_, ?_, ?_, ?_, ?_, ?_, ?_, ?_, ?_, ?_, ?_, ?_, ?_, ?_, ?_, ?_, ?_, ?_, ?_, ?_, ?_, ?_, ?_, ?_, ?_, ?_, ?_, ?_, ?_, ?_, ?_, ?_⟩
        · intro xs wq hq R hR
          go_simp
          exact hR _ _ (Ext.refl _) rfl
        · intro xs wq hq R hR
          go_simp
          exact hR _ _ (Ext.refl _) rfl
        · intro xs wq hq R hR
          go_simp
          exact hR _ _ (Ext.refl _) rfl
        · intro xs wq hq hk R hR
          go_simp
          exact hR _ _ (Ext.refl _) rfl
        · intro xs wq hq hk R hR
          obtain ⟨hk0, hk1⟩ := hk
          go_simp
          simp only [W0.out.1]
          rw [if_pos ⟨by omega, by omega⟩, W0.out.2]
          exact hR _ _ (Ext.refl _) rfl
        · intro xs wq hq hk R hR
          have f0 := hq.cell d0
          go_simp
          exact hR _ _ (Ext.refl _) rfl
        · intro xs wq hq hk R hR
          go_simp
          exact hR _ _ (Ext.refl _) (by rw [← HX0.out]; exact conv_u32 y0)
        · intro xs wq hq hk R hR
          go_simp
          exact hR _ _ (Ext.refl _) (shl24 x0)
        · intro xs wq hq R hR
          go_simp
          exact hR _ _ (Ext.refl _) rfl
        · intro xs wq hq R hR
          go_simp
          exact hR _ _ (Ext.refl _) rfl
        · intro xs wq hq hk R hR
          go_simp
          exact hR _ _ (Ext.refl _) rfl
        · intro xs wq hq hk R hR
          go_simp
          exact hR _ _ (Ext.refl _) rfl
        · intro xs wq hq hk R hR
          obtain ⟨hk0, hk1⟩ := hk
          go_simp
          simp only [W0.out.1, W1.out.1]
          rw [if_pos ⟨by omega, by omega⟩, W1.out.2]
          exact hR _ _ (Ext.refl _) rfl
        · intro xs wq hq hk R hR
          have f1 := hq.cell d1
          go_simp
          exact hR _ _ (Ext.refl _) rfl
        · intro xs wq hq hk R hR
          go_simp
          exact hR _ _ (Ext.refl _) (by rw [← HX1.out]; exact conv_u32 y1)
        · intro xs wq hq hk R hR
          go_simp
          exact hR _ _ (Ext.refl _) (shl16 x1)
        · intro xs wq hq hk R hR
          obtain ⟨hk0, hk1⟩ := hk
          go_simp
          exact hR _ _ (Ext.refl _) (or_u32 (x0 <<< 24) (x1 <<< 16))
        · intro xs wq hq R hR
          go_simp
          exact hR _ _ (Ext.refl _) rfl
        · intro xs wq hq R hR
          go_simp
          exact hR _ _ (Ext.refl _) rfl
        · intro xs wq hq hk R hR
          go_simp
          exact hR _ _ (Ext.refl _) rfl
        · intro xs wq hq hk R hR
          go_simp
          exact hR _ _ (Ext.refl _) rfl
        · intro xs wq hq hk R hR
          obtain ⟨hk0, hk1⟩ := hk
          go_simp
          simp only [W0.out.1, W2.out.1]
          rw [if_pos ⟨by omega, by omega⟩, W2.out.2]
          exact hR _ _ (Ext.refl _) rfl
        · intro xs wq hq hk R hR
          have f2 := hq.cell d2
          go_simp
          exact hR _ _ (Ext.refl _) rfl
        · intro xs wq hq hk R hR
          go_simp
          exact hR _ _ (Ext.refl _) (by rw [← HX2.out]; exact conv_u32 y2)
        · intro xs wq hq hk R hR
          go_simp
          exact hR _ _ (Ext.refl _) (shl8 x2)
        · intro xs wq hq hk R hR
          obtain ⟨hk0, hk1⟩ := hk
          go_simp
          exact hR _ _ (Ext.refl _) (or_u32 ((x0 <<< 24) ||| (x1 <<< 16)) (x2 <<< 8))
        · intro xs wq hq R hR
          go_simp
          exact hR _ _ (Ext.refl _) rfl
        · intro xs wq hq R hR
          go_simp
          exact hR _ _ (Ext.refl _) rfl
        · intro xs wq hq hk R hR
          go_simp
          exact hR _ _ (Ext.refl _) rfl
        · intro xs wq hq hk R hR
          go_simp
          exact hR _ _ (Ext.refl _) rfl
        · intro xs wq hq hk R hR
          obtain ⟨hk0, hk1⟩ := hk
          go_simp
          simp only [W0.out.1, W3.out.1]
          rw [if_pos ⟨by omega, by omega⟩, W3.out.2]
          exact hR _ _ (Ext.refl _) rfl
        · intro xs wq hq hk R hR
          have f3 := hq.cell d3
          go_simp
          exact hR _ _ (Ext.refl _) rfl
        · intro xs wq hq hk R hR
          go_simp
          exact hR _ _ (Ext.refl _) (by rw [← HX3.out]; exact conv_u32 y3)
        · intro xs wq hq hk R hR
          obtain ⟨hk0, hk1⟩ := hk
          go_simp
          exact hR _ _ (Ext.refl _) (or_u32 (((x0 <<< 24) ||| (x1 <<< 16)) ||| (x2 <<< 8)) x3)
        · intro xs wq hq hk R hR
          go_simp
          exact hR _ _ (Ext.refl _) rfl
      intro xs w2 hx2 hk
      simp only [heldV, Nat.zero_add, Nat.reduceAdd, and_true] at hk
      have q0 := hk.1
      replace hk := hk.2
      have q1 := hk.1
      replace hk := hk.2
      have q2 := hk.1
      replace hk := hk.2
      have q3 := hk.1
      replace hk := hk.2
      have q4 := hk.1
      replace hk := hk.2
      have q5 := hk.1
      replace hk := hk.2
      have q6 := hk.1
      replace hk := hk.2
      have q7 := hk.1
      replace hk := hk.2
      have q8 := hk.1
      replace hk := hk.2
      have q9 := hk.1
      replace hk := hk.2
      have q10 := hk.1
      replace hk := hk.2
      have q11 := hk.1
      replace hk := hk.2
      have q12 := hk.1
      replace hk := hk.2
      have q13 := hk.1
      replace hk := hk.2
      have q14 := hk.1
      replace hk := hk.2
      have q15 := hk.1
      replace hk := hk.2
      have q16 := hk.1
      replace hk := hk.2
      have q17 := hk.1
      replace hk := hk.2
      have q18 := hk.1
      replace hk := hk.2
      have q19 := hk.1
      replace hk := hk.2
      have q20 := hk.1
      replace hk := hk.2
      have q21 := hk.1
      replace hk := hk.2
      have q22 := hk.1
      replace hk := hk.2
      have q23 := hk.1
      replace hk := hk.2
      have q24 := hk.1
      replace hk := hk.2
      have q25 := hk.1
      replace hk := hk.2
      have q26 := hk.1
      replace hk := hk.2
      have q27 := hk.1
      replace hk := hk.2
      have q28 := hk.1
      replace hk := hk.2
      have q29 := hk.1
      replace hk := hk.2
      have q30 := hk.1
      replace hk := hk.2
      have q31 := hk.1
      replace hk := hk.2
      have q32 := hk.1
      replace hk := hk.2
      have q33 := hk.1
      replace hk := hk.2
      have q34 := hk
      clear hk
      simp (maxSteps := 1000000) only [List.take_succ_cons, List.take_zero, List.drop_succ_cons, List.drop_zero, fillFrom, Act.put, List.setIfInBounds_toArray, List.set_cons_zero, List.set_cons_succ, Nat.zero_add, Nat.reduceAdd, q0, q1, q2, q3, q4, q5, q6, q7, q8, q9, q10, q11, q12, q13, q14, q15, q16, q17, q18, q19, q20, q21, q22, q23, q24, q25, q26, q27, q28, q29, q30, q31, q32, q33, q34]
      clear q0 q1 q2 q3 q4 q5 q6 q7 q8 q9 q10 q11 q12 q13 q14 q15 q16 q17 q18 q19 q20 q21 q22 q23 q24 q25 q26 q27 q28 q29 q30 q31 q32 q33 q34
      have HS2 : Hid _ := Sch.more HS.out hx2
      have hnow := HS2.out.now
      have hsz := wordsC_size (l := wSched b k) (n := 64) (by omega)
      have hpt := wordsC_put (l := wSched b k) (n := 64) ((((x0 <<< 24) ||| (x1 <<< 16)) ||| (x2 <<< 8)) ||| x3) (by omega)
      rw [← HSN.out, hsl] at hpt
      go_wp2_with (refine store_field rfl 139 (.tmp 48) (.tmp 47) rfl (w.heap.size + 1) k rfl (U32 ((((x0 <<< 24) ||| (x1 <<< 16)) ||| (x2 <<< 8)) ||| x3)) rfl rfl _ (wordsC (wSched b k) 64) hnow (by omega) info_u32 (wordsC (wSched b (k + 1)) 64) hpt ?_; intro w3 hg3 hgr3)
      have HS3 : Hid _ := Sch.put HS2.out hg3 hgr3
      clear hg3 hgr3 hnow hsz hpt
      go_roundw
      case rel => exact ⟨k + 1, by omega, by go_num, HS3.out⟩
      case measure => simp [intOf]; omega
    · by_cases hlt2 : k < 64
      · have hnow := HS.out.now
        obtain ⟨X, hX⟩ : ∃ x, (wSched b k).getD (k - 15) 0 = x := ⟨_, rfl⟩
        obtain ⟨Y, hY⟩ : ∃ x, (wSched b k).getD (k - 2) 0 = x := ⟨_, rfl⟩
        obtain ⟨A0, hA⟩ : ∃ x, (wSched b k).getD (k - 16) 0 = x := ⟨_, rfl⟩
        obtain ⟨B0, hB⟩ : ∃ x, (wSched b k).getD (k - 7) 0 = x := ⟨_, rfl⟩
        have e15 := words_cell hnow (i := k - 15) (by omega)
        have e2 := words_cell hnow (i := k - 2) (by omega)
        have e16 := words_cell hnow (i := k - 16) (by omega)
        have e7 := words_cell hnow (i := k - 7) (by omega)
        rw [hX] at e15
        rw [hY] at e2
        rw [hA] at e16
        rw [hB] at e7
        obtain ⟨p1, hp1⟩ : ∃ x, rotl X 25 = x := ⟨_, rfl⟩
        obtain ⟨q1, hq1⟩ : ∃ x, rotl X 14 = x := ⟨_, rfl⟩
        obtain ⟨p2, hp2⟩ : ∃ x, p1 ^^^ q1 = x := ⟨_, rfl⟩
        obtain ⟨r1, hr1⟩ : ∃ x, X >>> 3 = x := ⟨_, rfl⟩
        obtain ⟨s1, hs1⟩ : ∃ x, p2 ^^^ r1 = x := ⟨_, rfl⟩
        obtain ⟨p3, hp3⟩ : ∃ x, rotl Y 15 = x := ⟨_, rfl⟩
        obtain ⟨q3, hq3⟩ : ∃ x, rotl Y 13 = x := ⟨_, rfl⟩
        obtain ⟨p4, hp4⟩ : ∃ x, p3 ^^^ q3 = x := ⟨_, rfl⟩
        obtain ⟨r2, hr2⟩ : ∃ x, Y >>> 10 = x := ⟨_, rfl⟩
        obtain ⟨s2, hs2⟩ : ∃ x, p4 ^^^ r2 = x := ⟨_, rfl⟩
        obtain ⟨z1, hz1⟩ : ∃ x, A0 + s1 = x := ⟨_, rfl⟩
        obtain ⟨z2, hz2⟩ : ∃ x, z1 + B0 = x := ⟨_, rfl⟩
        obtain ⟨z3, hz3⟩ : ∃ x, z2 + s2 = x := ⟨_, rfl⟩
        have HZ1 : Hid _ := hz1
        have HZ2 : Hid _ := hz2
        have HZ3 : Hid _ := hz3
        have HSN : Hid (wSched b (k + 1) = wSched b k ++ [z3]) := by
          unfold Hid
          rw [sched_snoc, if_neg hlt]
          unfold wNext
          rw [hX, hY, hA, hB, hp1, hq1, hp2, hr1, hs1, hp3, hq3, hp4, hr2, hs2, hz1, hz2, hz3]
        have f1 : bits BinOp.xor IntKind.u32 (p1.toNat : Int) (q1.toNat : Int) = (p2.toNat : Int) := by rw [← hp2]; exact bits_xor32 _ _
        have f2 : (X.toNat : Int) / 8 = (r1.toNat : Int) := by rw [← hr1]; exact shr32 X 3 (by decide)
        have f3 : bits BinOp.xor IntKind.u32 (p2.toNat : Int) (r1.toNat : Int) = (s1.toNat : Int) := by rw [← hs1]; exact bits_xor32 _ _
        have f4 : bits BinOp.xor IntKind.u32 (p3.toNat : Int) (q3.toNat : Int) = (p4.toNat : Int) := by rw [← hp4]; exact bits_xor32 _ _
        have f5 : (Y.toNat : Int) / 1024 = (r2.toNat : Int) := by rw [← hr2]; exact shr32 Y 10 (by decide)
        have f6 : bits BinOp.xor IntKind.u32 (p4.toNat : Int) (r2.toNat : Int) = (s2.toNat : Int) := by rw [← hs2]; exact bits_xor32 _ _
        have HP1 : Hid _ := hp1
        have HQ1 : Hid _ := hq1
        have HP3 : Hid _ := hp3
        have HQ3 : Hid _ := hq3
        have W15 : Hid (IntKind.i64.wrap ((k : Int) - 15) = ((k - 15 : Nat) : Int)) := by unfold Hid; rw [IntWalk.i64_in _ (by omega)]; omega
        have W2 : Hid (IntKind.i64.wrap ((k : Int) - 2) = ((k - 2 : Nat) : Int)) := by unfold Hid; rw [IntWalk.i64_in _ (by omega)]; omega
        have W16 : Hid (IntKind.i64.wrap ((k : Int) - 16) = ((k - 16 : Nat) : Int)) := by unfold Hid; rw [IntWalk.i64_in _ (by omega)]; omega
        have W7 : Hid (IntKind.i64.wrap ((k : Int) - 7) = ((k - 7 : Nat) : Int)) := by unfold Hid; rw [IntWalk.i64_in _ (by omega)]; omega
        clear hX hY hA hB hp1 hq1 hp2 hr1 hs1 hp3 hq3 hp4 hr2 hs2 hz1 hz2 hz3 hnow
        have w15 := W15.out
        have w2 := W2.out
        have n15 : ((k - 15 : Nat) : Int) < 64 := by omega
        have n2 : ((k - 2 : Nat) : Int) < 64 := by omega
        go_upto_region 7 with fail
        go_quiet (fail)
        have hx2 : Ext wr (wr.drewN nq) := Ext.drawn _ _
        have HS2 : Hid _ := Sch.more HS.out hx2
        clear w15 w2 n15 n2
        have g16 := hx2.cell e16
        have g7 := hx2.cell e7
        clear e15 e2 e16 e7 hx2
        go_wp2_with fail
        go_at_call 164
        refine (rot7 X _).mono ?_
        rw [HP1.out]
        rintro e w3 ⟨rfl, rfl⟩
        go_wp2_with fail
        go_at_call 164
        refine (rot18 X _).mono ?_
        rw [HQ1.out]
        rintro e w3 ⟨rfl, rfl⟩
        go_wp2_with fail
        go_at_call 164
        refine (rot17 Y _).mono ?_
        rw [HP3.out]
        rintro e w3 ⟨rfl, rfl⟩
        go_wp2_with fail
        go_at_call 164
        refine (rot19 Y _).mono ?_
        rw [HQ3.out]
        rintro e w3 ⟨rfl, rfl⟩
        go_wp2_with fail
        apply wp_region_mix 15 [_, _, _, .pointer (some ⟨w.heap.size + 1, k - 16, none⟩), U32 A0, _, U32 z1, _, _, .pointer (some ⟨w.heap.size + 1, k - 7, none⟩), U32 B0, U32 z2, _, U32 z3, .pointer (some ⟨w.heap.size + 1, k, none⟩)] [none, none, none, none, none, none, none, none, none, none, none, none, none, none, none] [[], [], [1], [2], [3], [], [4, 5], [], [7], [8], [9], [6, 10], [], [11, 12], [0]] (by kernel_rfl) (by kernel_rfl) (by simp [mixV])
        · trivial
        · simp (maxSteps := 1000000) only [List.take_succ_cons, List.take_zero, oblFrom, stepObl, fillFrom, Act.put, List.setIfInBounds_toArray, List.set_cons_zero, List.set_cons_succ, knows, getV, mixV, List.getD_cons_zero, List.getD_cons_succ, and_true, true_and, forall_const]
          refine ⟨?_, ?_, ?_, ?_, ?_, ?_, ?_, ?_, ?_, ?_, ?_, ?_, ?_, ?_, ?_⟩
          · intro xs wq hq R hR
            go_simp
            exact hR _ _ (Ext.refl _) rfl
          · intro xs wq hq R hR
            go_simp
            exact hR _ _ (Ext.refl _) rfl
          · intro xs wq hq hk R hR
            go_simp
            exact hR _ _ (Ext.refl _) rfl
          · intro xs wq hq hk R hR
            go_simp
            simp only [W16.out]
            rw [if_pos ⟨by omega, by omega⟩]
            exact hR _ _ (Ext.refl _) rfl
          · intro xs wq hq hk R hR
            have f0 := hq.cell g16
            go_simp
            exact hR _ _ (Ext.refl _) rfl
          · intro xs wq hq R hR
            go_simp
            exact hR _ _ (Ext.refl _) rfl
          · intro xs wq hq hk R hR
            obtain ⟨hk0, hk1⟩ := hk
            go_simp
            exact hR _ _ (Ext.refl _) (by rw [← HZ1.out]; exact addw_u32 A0 s1)
          · intro xs wq hq R hR
            go_simp
            exact hR _ _ (Ext.refl _) rfl
          · intro xs wq hq hk R hR
            go_simp
            exact hR _ _ (Ext.refl _) rfl
          · intro xs wq hq hk R hR
            go_simp
            simp only [W7.out]
            rw [if_pos ⟨by omega, by omega⟩]
            exact hR _ _ (Ext.refl _) rfl
          · intro xs wq hq hk R hR
            have f0 := hq.cell g7
            go_simp
            exact hR _ _ (Ext.refl _) rfl
          · intro xs wq hq hk R hR
            obtain ⟨hk0, hk1⟩ := hk
            go_simp
            exact hR _ _ (Ext.refl _) (by rw [← HZ2.out]; exact addw_u32 z1 B0)
          · intro xs wq hq R hR
            go_simp
            exact hR _ _ (Ext.refl _) rfl
          · intro xs wq hq hk R hR
            obtain ⟨hk0, hk1⟩ := hk
            go_simp
            exact hR _ _ (Ext.refl _) (by rw [← HZ3.out]; exact addw_u32 z2 s2)
          · intro xs wq hq hk R hR
            go_simp
            exact hR _ _ (Ext.refl _) rfl
        intro xs w4 hx4 hk
        simp only [heldV, Nat.zero_add, Nat.reduceAdd, and_true] at hk
        obtain ⟨q0, q1, q2, q3, q4, q5, q6, q7, q8, q9, q10, q11, q12, q13, q14⟩ := hk
        simp (maxSteps := 1000000) only [List.take_succ_cons, List.take_zero, List.drop_succ_cons, List.drop_zero, fillFrom, Act.put, List.setIfInBounds_toArray, List.set_cons_zero, List.set_cons_succ, Nat.zero_add, Nat.reduceAdd, q0, q1, q2, q3, q4, q5, q6, q7, q8, q9, q10, q11, q12, q13, q14]
        clear q0 q1 q2 q3 q4 q5 q6 q7 q8 q9 q10 q11 q12 q13 q14
        have HS4 : Hid _ := Sch.more HS2.out hx4
        have hnow := HS4.out.now
        have hsz := wordsC_size (l := wSched b k) (n := 64) (by omega)
        have hpt := wordsC_put (l := wSched b k) (n := 64) z3 (by omega)
        rw [← HSN.out, hsl] at hpt
        clear f1 f2 f3 f4 f5 f6 g16 g7 hx4
        go_wp2_with (refine store_field rfl 139 (.tmp 87) (.tmp 86) rfl (w.heap.size + 1) k rfl (U32 z3) rfl rfl _ (wordsC (wSched b k) 64) hnow (by omega) info_u32 (wordsC (wSched b (k + 1)) 64) hpt ?_; intro w5 hg5 hgr5)
        have HS5 : Hid _ := Sch.put HS4.out hg5 hgr5
        clear hg5 hgr5 hnow hsz hpt
        go_roundw
        case rel => exact ⟨k + 1, by omega, by go_num, HS5.out⟩
        case measure => simp [intOf]; omega
      · have hkk : k = 64 := by omega
        subst hkk
        have hnow := HS.out.now
        have hres := HS.out.res
        have hext := HS.out.ext
        have hful := wordsC_full (n := 64) hsl
        rw [hful] at hnow
        have hs64 : ((wSched b 64).map U32).toArray.size = 64 := by simp [hsl]
        obtain ⟨V, hV⟩ : ∃ V, ((wSched b 64).map U32).toArray = V := ⟨_, rfl⟩
        have hone := u32s_one (wSched b 64)
        rw [hV] at hnow hs64 hone
        have HV : Hid _ := hV
        have hr0 : (wordsC [] 64).size = 64 := wordsC_size (Nat.zero_le _)
        have hr1 : (wordsC [] 64).toList.drop (0 + V.size) = [] := by rw [hs64]; exact List.drop_eq_nil_of_le (by rw [Array.length_toList, hr0]; omega)
        have HEXT : Hid _ := hext
        clear hsl hful hV hext
        go_wp2_with (first
          | (refine wpList_load_row rfl 159 (.tmp 3) rfl (w.heap.size + 1) rfl 159 V (0, 0) _ hnow Tryz.underlying159 rfl (by rw [hs64]; exact size_a64) ?_)
          | (refine store_all rfl 159 (.tmp 2) (.tmp 89) rfl w.heap.size 0 rfl V rfl hone _ (wordsC [] 64) hres (by rw [hs64, hr0]; omega) (by rw [hs64]; exact size_a64) V (by rw [hr1]; simp) ?_; intro w5 hg5 hgr5))
        refine bodyPost_ret (results_cell_row rfl _ _ w.heap.size 159 V (0, 0) _ rfl hg5 Tryz.underlying159 rfl (by rw [hs64]; exact size_a64)) rfl ?_
        rw [HV.out]
        exact ⟨rfl, Below.grown HEXT.out hgr5 (HEXT.out).size (fun j hj => by cases hj; omega)⟩

end Go.Proofs.YtalpfoomkhhgnaaGreatDoor

/-! sha.Hasher.mix: a block is taken. Conditions: as each theorem states. -/
namespace Go.Proofs.YtalpfoomkhhgnaaGreatDoor
open Go Go.RowKit

/-- A hasher's cells; the constants' cells. -/
def hCells (cb : Nat) (st : List UInt32) (rest : Value) (n : Int) : Array Value := ((.pointer (some ⟨cb, 0, none⟩)) :: (st.map U32 ++ [rest, .int .i64 n])).toArray
def kCells (o : List Value) : Array Value := (o ++ (shaH.map U32 ++ shaK.map U32)).toArray
theorem hCells_st {cb : Nat} {st : List UInt32} {rest : Value} {n : Int} {j : Nat} (h : j < st.length) : (hCells cb st rest n)[1 + j]? = some (U32 (st.getD j 0)) := by
  unfold hCells
  simp [show 1 + j = j + 1 by omega, List.getElem?_append, h, List.getD_eq_getElem?_getD]
theorem kCells_each {o : List Value} {j : Nat} (ho : o.length = 3) (h : j < 64) : (kCells o)[11 + j]? = some (U32 (shaK.getD j 0)) := by
  unfold kCells
  rw [List.getElem?_toArray, List.getElem?_append_right (by omega), List.getElem?_append_right (by rw [ho, List.length_map]; show 8 ≤ _; omega), List.length_map, ho]
  rw [show 11 + j - 3 - shaH.length = j by show 11 + j - 3 - 8 = j; omega, List.getElem?_map, List.getElem?_eq_getElem (show j < shaK.length from h)]
  simp [List.getD_eq_getElem?_getD, show j < shaK.length from h]
theorem list8 {l : List UInt32} (h : l.length = 8) : ∃ a0 a1 a2 a3 a4 a5 a6 a7, l = [a0, a1, a2, a3, a4, a5, a6, a7] := by
  match l, h with
  | [a0, a1, a2, a3, a4, a5, a6, a7], _ => exact ⟨a0, a1, a2, a3, a4, a5, a6, a7, rfl⟩

/-- What the rounds hold. -/
structure MixR (w wr : World) (gw gs : Nat) (V : Array Value) (st W : List UInt32) (k : Nat) (c : List UInt32) : Prop where
  ext : Ext w wr
  now : wr.heap[gw]? = some (.cells V 159 (0, 0))
  cur : wr.heap[gs]? = some (.cells (c.map U32).toArray 146 (0, 0))
  eq : rnds st W k = c
  low : w.heap.size ≤ gw ∧ gw < gs
theorem MixR.more {w wr w2 : World} {gw gs : Nat} {V : Array Value} {st W : List UInt32} {k : Nat} {c : List UInt32} (h : MixR w wr gw gs V st W k c) (hx : Ext wr w2) : MixR w w2 gw gs V st W k c :=
  ⟨h.ext.trans hx, Ext.row hx h.now, Ext.row hx h.cur, h.eq, h.low⟩
theorem MixR.put {w wr w2 : World} {gw gs : Nat} {V : Array Value} {st W : List UInt32} {k : Nat} {c new : List UInt32} (h : MixR w wr gw gs V st W k c) (hg : w2.heap[gs]? = some (.cells (new.map U32).toArray 146 (0, 0))) (hgr : wr.grownBy w2 (some gs)) (he : rnd c (shaK.getD k 0) (W.getD k 0) = new) : MixR w w2 gw gs V st W (k + 1) new :=
  ⟨Below.grown h.ext hgr h.ext.size (fun j hj => by cases hj; have := h.low; omega), (hgr.block _ (Array.getElem?_eq_some_iff.1 h.now).1 (by have := h.low; simp; omega)).trans h.now, hg, by show rnd (rnds st W k) _ _ = _; rw [h.eq]; exact he, h.low⟩

def partM (st fin : List UInt32) (k : Nat) : List UInt32 := (List.zipWith (· + ·) st fin).take k ++ st.drop k
theorem partM_len {st fin : List UInt32} {k : Nat} (hs : st.length = 8) (hf : fin.length = 8) (hk : k ≤ 8) : (partM st fin k).length = 8 := by
  unfold partM
  simp [hs, hf]
  omega
theorem partM_get {st fin : List UInt32} {k : Nat} (hs : st.length = 8) (hf : fin.length = 8) (hk : k < 8) : (partM st fin k).getD k 0 = st.getD k 0 := by
  unfold partM
  rw [List.getD_eq_getElem?_getD, List.getElem?_append_right (by simp [hs, hf]; omega), List.getD_eq_getElem?_getD]
  simp [hs, hf, show min k 8 = k by omega]
theorem partM_set {st fin : List UInt32} {k : Nat} (hs : st.length = 8) (hf : fin.length = 8) (hk : k < 8) : partM st fin (k + 1) = (partM st fin k).set k (st.getD k 0 + fin.getD k 0) := by
  obtain ⟨i0, i1, i2, i3, i4, i5, i6, i7, rfl⟩ := list8 hs
  obtain ⟨j0, j1, j2, j3, j4, j5, j6, j7, rfl⟩ := list8 hf
  match k, hk with
  | 0, _ => rfl
  | 1, _ => rfl
  | 2, _ => rfl
  | 3, _ => rfl
  | 4, _ => rfl
  | 5, _ => rfl
  | 6, _ => rfl
  | 7, _ => rfl
theorem hCells_put {cb : Nat} {st : List UInt32} {rest : Value} {n : Int} {j : Nat} (x : UInt32) (h : j < st.length) : hCells cb (st.set j x) rest n = ((hCells cb st rest n).toList.take (1 + j) ++ [U32 x] ++ (hCells cb st rest n).toList.drop (1 + j + 1)).toArray := by
  unfold hCells
  apply Array.ext'
  simp only [List.toList_toArray, show 1 + j = j + 1 by omega, List.take_succ_cons, List.drop_succ_cons, List.cons_append]
  congr 1
  rw [List.map_set, List.take_append_of_le_length (by simp; omega), List.drop_append_of_le_length (by simp; omega), List.set_eq_take_append_cons_drop, if_pos (by simpa using h)]
  simp
theorem hCells_size {cb : Nat} {st : List UInt32} {rest : Value} {n : Int} : (hCells cb st rest n).size = st.length + 3 := by
  unfold hCells
  simp
theorem index_words {F : Array Value} {k : Nat} {v : Value} (w : World) (h : F[k]? = some v) (hk : k < 8) : (Instr.index 146 (.agg F) (.int .i64 (k : Int))).run Tryz.prog w = .ok v w := by
  simp [Instr.index, run_underlying Tryz.underlying146, asIntOf]
  rw [if_pos hk]
  simp [part, isAgg, run_underlying Tryz.underlying139, h]
structure Mix2 (w wr : World) (hb cb : Nat) (st fin : List UInt32) (rest : Value) (n : Int) (k : Nat) : Prop where
  fr : Fr (fun j => j = hb) w wr
  cells : wr.heap[hb]? = some (.cells (hCells cb (partM st fin k) rest n) 164 (0, 0))
theorem not_u8h {w : World} {hb : Nat} {cs : Array Value} {fr : Nat × Nat} (hg : w.heap[hb]? = some (.cells cs 164 fr)) : ¬ IsU8 w hb := cells_u8 hg (by kernel_rfl)

set_option maxRecDepth 100000 in
set_option maxHeartbeats 2000000 in
theorem mix_any (hb cb : Nat) (st : List UInt32) (rest v : Value) (n : Int) (b : B8) (o : List Value) (w : World) (hst : st.length = 8) (ho : o.length = 3)
    (hg : w.heap[hb]? = some (.cells (hCells cb st rest n) 164 (0, 0))) (hc : w.heap[cb]? = some (.cells (kCells o) 161 (0, 0))) (hv : IsBytes w v b) (hl : b.length = 64) :
    Calls Tryz.prog 109 #[.pointer (some ⟨hb, 0, none⟩), v] w fun e w' => e = .returned (.tuple #[]) ∧ w'.heap[hb]? = some (.cells (hCells cb (mixM st b) rest n) 164 (0, 0)) ∧ Fr (fun k => k = hb) w w' := by
  have HG : Hid _ := hg
  have HC : Hid _ := hc
  have HV : Hid _ := hv
  have HL : Hid _ := hl
  have hbl := (Array.getElem?_eq_some_iff.1 hg).1
  obtain ⟨a, cap, rfl, h1, h2, h3, -⟩ := hv.get
  obtain ⟨i0, i1, i2, i3, i4, i5, i6, i7, hse⟩ := list8 hst
  have HSE : Hid _ := hse
  have hrange : w.rangeAt hb 1 [U32 i0, U32 i1, U32 i2, U32 i3, U32 i4, U32 i5, U32 i6, U32 i7] := fun j u hu => by
    have hj := (List.getElem?_eq_some_iff.1 hu).1
    have hj8 : j < 8 := by simpa using hj
    rw [cell_of_row w hb (1 + j) _ _ _ hg, hCells_st (by omega), hse]
    have : ([U32 i0, U32 i1, U32 i2, U32 i3, U32 i4, U32 i5, U32 i6, U32 i7] : List Value) = [i0, i1, i2, i3, i4, i5, i6, i7].map U32 := rfl
    rw [this, List.getElem?_map] at hu
    rw [← hu, List.getD_eq_getElem?_getD]
    cases hx : ([i0, i1, i2, i3, i4, i5, i6, i7] : List UInt32)[j]? with
    | none => rw [List.getElem?_eq_none_iff] at hx; simp at hx; omega
    | some x => rfl
  have HRG : Hid _ := hrange
  have HST : Hid _ := hst
  have HO : Hid _ := ho
  clear hg hc hv hl hst ho hse hrange
  go_enter Tryz.func109, Tryz.ntmps109
  go_wp2_with fail
  go_at_call 163
  refine (schedule_any _ b w HV.out HL.out).mono ?_
  rintro e w1 ⟨rfl, hx1⟩
  have hsl := sched_len b 64
  have hs64 : ((wSched b 64).map U32).toArray.size = 64 := by simp [hsl]
  obtain ⟨V, hV⟩ : ∃ V, ((wSched b 64).map U32).toArray = V := ⟨_, rfl⟩
  have hone := u32s_one (wSched b 64)
  rw [hV] at hs64 hone ⊢
  have HVV : Hid _ := hV
  have hr0 : (wordsC [] 64).size = 64 := wordsC_size (Nat.zero_le _)
  have hr1 : (wordsC [] 64).toList.drop (0 + V.size) = [] := by rw [hs64]; exact List.drop_eq_nil_of_le (by rw [Array.length_toList, hr0]; omega)
  have hal : (w1.alloc (.cells (wordsC [] 64) 159)).heap[w1.heap.size]? = some (.cells (wordsC [] 64) 159 (0, 0)) := alloc_at _ _
  go_upto_region 1 with (refine store_all rfl 159 (.tmp 4) (.tmp 16) rfl w1.heap.size 0 rfl V rfl hone _ (wordsC [] 64) hal (by rw [hs64, hr0]; omega) (by rw [hs64]; exact size_a64) V (by rw [hr1]; simp) ?_; intro w2 hg2 hgr2)
  have hx2 : Ext w w2 := Below.grown (hx1.alloc _) hgr2 (by have := hx1.size; simp; omega) (fun j hj => by cases hj; exact hx1.size)
  have hrg2 : w2.rangeAt hb 1 [U32 i0, U32 i1, U32 i2, U32 i3, U32 i4, U32 i5, U32 i6, U32 i7] := fun j u hu => hx2.cell (HRG.out j u hu)
  have HG2 : Hid _ := hg2
  have HX2 : Hid _ := hx2
  have HX1 : Hid _ := hx1
  obtain ⟨gw, hgw⟩ : ∃ k, w1.heap.size = k := ⟨_, rfl⟩
  rw [hgw] at HG2 ⊢
  have hgwl : w.heap.size ≤ gw := by rw [← hgw]; exact hx1.size
  have hgw2 : gw < w2.heap.size := (Array.getElem?_eq_some_iff.1 HG2.out).1
  clear hone hr0 hr1 hal hg2 hgr2 hx1 hx2 hV hgw hsl
  go_upto_region 2 with (refine wpList_load_mid rfl 146 (.tmp 19) rfl hb 1 rfl [U32 i0, U32 i1, U32 i2, U32 i3, U32 i4, U32 i5, U32 i6, U32 i7] _ hrg2 Tryz.underlying146 rfl size_a8 ?_)
  obtain ⟨w3, hw3⟩ : ∃ wq, wq = w2.alloc (.cells #[U32 i0, U32 i1, U32 i2, U32 i3, U32 i4, U32 i5, U32 i6, U32 i7] 146) := ⟨_, rfl⟩
  have hw3' : w2.alloc (.cells #[U32 i0, U32 i1, U32 i2, U32 i3, U32 i4, U32 i5, U32 i6, U32 i7] 146) = w3 := hw3.symm
  rw [hw3']
  have hx3 : Ext w2 w3 := by rw [hw3]; exact (Ext.refl _).alloc _
  have HM0 : Hid (MixR w w3 gw w2.heap.size V st (wSched b 64) 0 [i0, i1, i2, i3, i4, i5, i6, i7]) := ⟨Ext.trans HX2.out hx3, Ext.row hx3 HG2.out, by rw [hw3]; exact alloc_at _ _, HSE.out, hgwl, hgw2⟩
  obtain ⟨gs, hgs⟩ : ∃ k, w2.heap.size = k := ⟨_, rfl⟩
  rw [hgs] at HM0 ⊢
  clear hw3 hw3' hx3 hrg2 hgs hgw2
  obtain ⟨W, hW⟩ : ∃ W, wSched b 64 = W := ⟨_, rfl⟩
  have HVG : Hid (∀ j, j < 64 → V[j]? = some (U32 (W.getD j 0))) := fun j hj => by
    rw [← hW, ← HVV.out, List.getElem?_toArray, List.getElem?_map, List.getElem?_eq_getElem (by rw [sched_len]; exact hj), List.getD_eq_getElem?_getD, List.getElem?_eq_getElem (by rw [sched_len]; exact hj)]
    rfl
  have HWE : Hid (mixM st b = List.zipWith (· + ·) st (rnds st W 64)) := by unfold Hid mixM; rw [hW]
  rw [hW] at HM0
  clear hW HVV
  go_wp2_with fail
  go_loopw [21] (fun i wr => ∃ (k : Nat) (a0 a1 a2 a3 a4 a5 a6 a7 : UInt32), k ≤ 64 ∧ i = .int .i64 k ∧ Hid (MixR w wr gw gs V st W k [a0, a1, a2, a3, a4, a5, a6, a7])) (fun i _ => 64 - (intOf i).toNat)
  case atStart => exact ⟨0, i0, i1, i2, i3, i4, i5, i6, i7, by omega, rfl, HM0.out⟩
  case round =>
    obtain ⟨k, a0, a1, a2, a3, a4, a5, a6, a7, hk, rfl, HM⟩ := hrel
    by_cases hlt : k < 64
    · obtain ⟨kk, hkk⟩ : ∃ x, shaK.getD k 0 = x := ⟨_, rfl⟩
      obtain ⟨ww, hww⟩ : ∃ x, W.getD k 0 = x := ⟨_, rfl⟩
      obtain ⟨x1, hx1⟩ : ∃ x, rotl a4 26 = x := ⟨_, rfl⟩
      obtain ⟨x2, hx2⟩ : ∃ x, rotl a4 21 = x := ⟨_, rfl⟩
      obtain ⟨x3, hx3⟩ : ∃ x, x1 ^^^ x2 = x := ⟨_, rfl⟩
      obtain ⟨x4, hx4⟩ : ∃ x, rotl a4 7 = x := ⟨_, rfl⟩
      obtain ⟨x5, hx5⟩ : ∃ x, x3 ^^^ x4 = x := ⟨_, rfl⟩
      obtain ⟨y1, hy1⟩ : ∃ x, a7 + x5 = x := ⟨_, rfl⟩
      obtain ⟨y2, hy2⟩ : ∃ x, a4 &&& a5 = x := ⟨_, rfl⟩
      obtain ⟨y3, hy3⟩ : ∃ x, ~~~a4 = x := ⟨_, rfl⟩
      obtain ⟨y4, hy4⟩ : ∃ x, y3 &&& a6 = x := ⟨_, rfl⟩
      obtain ⟨y5, hy5⟩ : ∃ x, y2 ^^^ y4 = x := ⟨_, rfl⟩
      obtain ⟨y6, hy6⟩ : ∃ x, y1 + y5 = x := ⟨_, rfl⟩
      obtain ⟨y7, hy7⟩ : ∃ x, y6 + kk = x := ⟨_, rfl⟩
      obtain ⟨tt, htt⟩ : ∃ x, y7 + ww = x := ⟨_, rfl⟩
      obtain ⟨z1, hz1⟩ : ∃ x, rotl a0 30 = x := ⟨_, rfl⟩
      obtain ⟨z2, hz2⟩ : ∃ x, rotl a0 19 = x := ⟨_, rfl⟩
      obtain ⟨z3, hz3⟩ : ∃ x, z1 ^^^ z2 = x := ⟨_, rfl⟩
      obtain ⟨z4, hz4⟩ : ∃ x, rotl a0 10 = x := ⟨_, rfl⟩
      obtain ⟨z5, hz5⟩ : ∃ x, z3 ^^^ z4 = x := ⟨_, rfl⟩
      obtain ⟨v1, hv1⟩ : ∃ x, a0 &&& a1 = x := ⟨_, rfl⟩
      obtain ⟨v2, hv2⟩ : ∃ x, a0 &&& a2 = x := ⟨_, rfl⟩
      obtain ⟨v3, hv3⟩ : ∃ x, v1 ^^^ v2 = x := ⟨_, rfl⟩
      obtain ⟨v4, hv4⟩ : ∃ x, a1 &&& a2 = x := ⟨_, rfl⟩
      obtain ⟨v5, hv5⟩ : ∃ x, v3 ^^^ v4 = x := ⟨_, rfl⟩
      obtain ⟨uu, huu⟩ : ∃ x, z5 + v5 = x := ⟨_, rfl⟩
      obtain ⟨n0, hn0⟩ : ∃ x, tt + uu = x := ⟨_, rfl⟩
      obtain ⟨n4, hn4⟩ : ∃ x, a3 + tt = x := ⟨_, rfl⟩
      have HX1 : Hid _ := hx1
      have HX2 : Hid _ := hx2
      have Gfx3 : Hid (bits BinOp.xor IntKind.u32 (x1.toNat : Int) (x2.toNat : Int) = (x3.toNat : Int)) := by unfold Hid; rw [← hx3]; exact bits_xor32 _ _
      have HX4 : Hid _ := hx4
      have Gfx5 : Hid (bits BinOp.xor IntKind.u32 (x3.toNat : Int) (x4.toNat : Int) = (x5.toNat : Int)) := by unfold Hid; rw [← hx5]; exact bits_xor32 _ _
      have Gfy1 : Hid (IntKind.u32.wrap ((a7.toNat : Int) + (x5.toNat : Int)) = (y1.toNat : Int)) := by unfold Hid; rw [← hy1, IntKind.wrap_u32]; exact add32 _ _
      have Gmy1 : Hid (((a7.toNat : Int) + (x5.toNat : Int)) % 4294967296 = (y1.toNat : Int)) := by unfold Hid; rw [← hy1]; exact add32 _ _
      have Gfy2 : Hid (bits BinOp.and IntKind.u32 (a4.toNat : Int) (a5.toNat : Int) = (y2.toNat : Int)) := by unfold Hid; rw [← hy2]; exact bits_and32 _ _
      have Gfy3 : Hid (bits BinOp.xor IntKind.u32 4294967295 (a4.toNat : Int) = (y3.toNat : Int)) := by unfold Hid; rw [← hy3]; exact bits_not32 _
      have Gfy4 : Hid (bits BinOp.and IntKind.u32 (y3.toNat : Int) (a6.toNat : Int) = (y4.toNat : Int)) := by unfold Hid; rw [← hy4]; exact bits_and32 _ _
      have Gfy5 : Hid (bits BinOp.xor IntKind.u32 (y2.toNat : Int) (y4.toNat : Int) = (y5.toNat : Int)) := by unfold Hid; rw [← hy5]; exact bits_xor32 _ _
      have Gfy6 : Hid (IntKind.u32.wrap ((y1.toNat : Int) + (y5.toNat : Int)) = (y6.toNat : Int)) := by unfold Hid; rw [← hy6, IntKind.wrap_u32]; exact add32 _ _
      have Gmy6 : Hid (((y1.toNat : Int) + (y5.toNat : Int)) % 4294967296 = (y6.toNat : Int)) := by unfold Hid; rw [← hy6]; exact add32 _ _
      have Gfy7 : Hid (IntKind.u32.wrap ((y6.toNat : Int) + (kk.toNat : Int)) = (y7.toNat : Int)) := by unfold Hid; rw [← hy7, IntKind.wrap_u32]; exact add32 _ _
      have Gmy7 : Hid (((y6.toNat : Int) + (kk.toNat : Int)) % 4294967296 = (y7.toNat : Int)) := by unfold Hid; rw [← hy7]; exact add32 _ _
      have Gftt : Hid (IntKind.u32.wrap ((y7.toNat : Int) + (ww.toNat : Int)) = (tt.toNat : Int)) := by unfold Hid; rw [← htt, IntKind.wrap_u32]; exact add32 _ _
      have Gmtt : Hid (((y7.toNat : Int) + (ww.toNat : Int)) % 4294967296 = (tt.toNat : Int)) := by unfold Hid; rw [← htt]; exact add32 _ _
      have HZ1 : Hid _ := hz1
      have HZ2 : Hid _ := hz2
      have Gfz3 : Hid (bits BinOp.xor IntKind.u32 (z1.toNat : Int) (z2.toNat : Int) = (z3.toNat : Int)) := by unfold Hid; rw [← hz3]; exact bits_xor32 _ _
      have HZ4 : Hid _ := hz4
      have Gfz5 : Hid (bits BinOp.xor IntKind.u32 (z3.toNat : Int) (z4.toNat : Int) = (z5.toNat : Int)) := by unfold Hid; rw [← hz5]; exact bits_xor32 _ _
      have Gfv1 : Hid (bits BinOp.and IntKind.u32 (a0.toNat : Int) (a1.toNat : Int) = (v1.toNat : Int)) := by unfold Hid; rw [← hv1]; exact bits_and32 _ _
      have Gfv2 : Hid (bits BinOp.and IntKind.u32 (a0.toNat : Int) (a2.toNat : Int) = (v2.toNat : Int)) := by unfold Hid; rw [← hv2]; exact bits_and32 _ _
      have Gfv3 : Hid (bits BinOp.xor IntKind.u32 (v1.toNat : Int) (v2.toNat : Int) = (v3.toNat : Int)) := by unfold Hid; rw [← hv3]; exact bits_xor32 _ _
      have Gfv4 : Hid (bits BinOp.and IntKind.u32 (a1.toNat : Int) (a2.toNat : Int) = (v4.toNat : Int)) := by unfold Hid; rw [← hv4]; exact bits_and32 _ _
      have Gfv5 : Hid (bits BinOp.xor IntKind.u32 (v3.toNat : Int) (v4.toNat : Int) = (v5.toNat : Int)) := by unfold Hid; rw [← hv5]; exact bits_xor32 _ _
      have Gfuu : Hid (IntKind.u32.wrap ((z5.toNat : Int) + (v5.toNat : Int)) = (uu.toNat : Int)) := by unfold Hid; rw [← huu, IntKind.wrap_u32]; exact add32 _ _
      have Gmuu : Hid (((z5.toNat : Int) + (v5.toNat : Int)) % 4294967296 = (uu.toNat : Int)) := by unfold Hid; rw [← huu]; exact add32 _ _
      have Gfn0 : Hid (IntKind.u32.wrap ((tt.toNat : Int) + (uu.toNat : Int)) = (n0.toNat : Int)) := by unfold Hid; rw [← hn0, IntKind.wrap_u32]; exact add32 _ _
      have Gmn0 : Hid (((tt.toNat : Int) + (uu.toNat : Int)) % 4294967296 = (n0.toNat : Int)) := by unfold Hid; rw [← hn0]; exact add32 _ _
      have Gfn4 : Hid (IntKind.u32.wrap ((a3.toNat : Int) + (tt.toNat : Int)) = (n4.toNat : Int)) := by unfold Hid; rw [← hn4, IntKind.wrap_u32]; exact add32 _ _
      have Gmn4 : Hid (((a3.toNat : Int) + (tt.toNat : Int)) % 4294967296 = (n4.toNat : Int)) := by unfold Hid; rw [← hn4]; exact add32 _ _
      have HNEW : Hid (rnd [a0, a1, a2, a3, a4, a5, a6, a7] (shaK.getD k 0) (W.getD k 0) = [n0, a0, a1, a2, n4, a4, a5, a6]) := by
        unfold Hid
        simp only [rnd, List.getD_cons_zero, List.getD_cons_succ]
        rw [hkk, hww, hx1, hx2, hx3, hx4, hx5, hy1, hy2, hy3, hy4, hy5, hy6, hy7, htt, hz1, hz2, hz3, hz4, hz5, hv1, hv2, hv3, hv4, hv5, huu, hn0, hn4]
      have HKC : Hid (w.cell? ⟨cb, 11 + k, none⟩ = some (U32 kk)) := (cell_of_row _ _ (11 + k) _ _ _ HC.out).trans ((kCells_each HO.out hlt).trans (by rw [hkk]))
      have HWC : Hid (V[k]? = some (U32 ww)) := (HVG.out k hlt).trans (by rw [hww])
      clear hx1 hx2 hx3 hx4 hx5 hy1 hy2 hy3 hy4 hy5 hy6 hy7 htt hz1 hz2 hz3 hz4 hz5 hv1 hv2 hv3 hv4 hv5 huu hn0 hn4 hkk hww
      have hcur := HM.out.cur
      have s0 : wr.cell? ⟨gs, 0, none⟩ = some (U32 a0) := (cell_of_row _ _ 0 _ _ _ hcur).trans rfl
      have s4 : wr.cell? ⟨gs, 4, none⟩ = some (U32 a4) := (cell_of_row _ _ 4 _ _ _ hcur).trans rfl
      clear hcur
      go_upto_region 5 with fail
      go_quiet (fail)
      obtain ⟨wq, hwq⟩ : ∃ wq, wq = wr.drewN nq := ⟨_, rfl⟩
      rw [← hwq]
      have HMq : Hid _ := MixR.more HM.out (show Ext wr wq by rw [hwq]; exact Ext.drawn _ _)
      clear s0 s4 hwq
      go_wp2_with fail
      go_at_call 164
      refine (rot6 a4 _).mono ?_
      rw [HX1.out]
      rintro e w9 ⟨rfl, rfl⟩
      go_wp2_with fail
      go_at_call 164
      refine (rot11 a4 _).mono ?_
      rw [HX2.out]
      rintro e w9 ⟨rfl, rfl⟩
      go_wp2_with fail
      go_at_call 164
      refine (rot25 a4 _).mono ?_
      rw [HX4.out]
      rintro e w9 ⟨rfl, rfl⟩
      have hcur := HMq.out.cur
      have hnow := HMq.out.now
      have hxq := HMq.out.ext
      have s5 : w9.cell? ⟨gs, 5, none⟩ = some (U32 a5) := (cell_of_row _ _ 5 _ _ _ hcur).trans rfl
      have s6 : w9.cell? ⟨gs, 6, none⟩ = some (U32 a6) := (cell_of_row _ _ 6 _ _ _ hcur).trans rfl
      have s7 : w9.cell? ⟨gs, 7, none⟩ = some (U32 a7) := (cell_of_row _ _ 7 _ _ _ hcur).trans rfl
      have sw : w9.cell? ⟨gw, k, none⟩ = some (U32 ww) := (cell_of_row _ _ k _ _ _ hnow).trans HWC.out
      have sc : w9.cell? ⟨hb, 0, none⟩ = some (.pointer (some ⟨cb, 0, none⟩)) := hxq.cell ((cell_of_row _ _ 0 _ _ _ HG.out).trans rfl)
      have sk : w9.cell? ⟨cb, 11 + k, none⟩ = some (U32 kk) := hxq.cell HKC.out
      clear hcur hnow hxq
      go_upto_region 7 with fail
      rw [Gfx3.out, Gfx5.out]
      go_wp2_with fail
      apply wp_region_mix 29 [_, U32 a7, _, U32 y1, _, _, U32 a5, U32 y2, _, U32 y3, _, U32 a6, U32 y4, U32 y5, U32 y6, _, _, _, .pointer (some ⟨cb, 0, none⟩), _, _, _, .pointer (some ⟨cb, 11 + k, none⟩), U32 kk, U32 y7, _, .pointer (some ⟨gw, k, none⟩), U32 ww, U32 tt] [none, none, none, none, none, none, none, none, none, none, none, none, none, none, none, none, none, none, none, none, none, none, none, none, none, none, none, none, none] [[], [0], [], [1, 2], [], [], [5], [4, 6], [], [8], [], [10], [9, 11], [7, 12], [3, 13], [], [15], [16], [17], [], [18], [20], [19, 21], [22], [14, 23], [], [25], [26], [24, 27]] (by kernel_rfl) (by kernel_rfl) (by simp [mixV])
      · trivial
      · simp (maxSteps := 1000000) only [List.take_succ_cons, List.take_zero, oblFrom, stepObl, fillFrom, Act.put, List.setIfInBounds_toArray, List.set_cons_zero, List.set_cons_succ, knows, getV, mixV, List.getD_cons_zero, List.getD_cons_succ, and_true, true_and, forall_const]
        refine ⟨?_, ?_, ?_, ?_, ?_, ?_, ?_, ?_, ?_, ?_, ?_, ?_, ?_, ?_, ?_, ?_, ?_, ?_, ?_, ?_, ?_, ?_, ?_, ?_, ?_, ?_, ?_, ?_, ?_⟩
        · intro xs wq hq R hR
          go_simp
          exact hR _ _ (Ext.refl _) rfl
        · intro xs wq hq hk R hR
          have f0 := hq.cell s7
          go_simp
          exact hR _ _ (Ext.refl _) rfl
        · intro xs wq hq R hR
          go_simp
          exact hR _ _ (Ext.refl _) rfl
        · intro xs wq hq hk R hR
          obtain ⟨hk0, hk1⟩ := hk
          go_simp
          exact hR _ _ (Ext.refl _) (congrArg _ Gfy1.out)
        · intro xs wq hq R hR
          go_simp
          exact hR _ _ (Ext.refl _) rfl
        · intro xs wq hq R hR
          go_simp
          exact hR _ _ (Ext.refl _) rfl
        · intro xs wq hq hk R hR
          have f0 := hq.cell s5
          go_simp
          exact hR _ _ (Ext.refl _) rfl
        · intro xs wq hq hk R hR
          obtain ⟨hk0, hk1⟩ := hk
          go_simp
          exact hR _ _ (Ext.refl _) (congrArg _ Gfy2.out)
        · intro xs wq hq R hR
          go_simp
          exact hR _ _ (Ext.refl _) rfl
        · intro xs wq hq hk R hR
          go_simp
          exact hR _ _ (Ext.refl _) (congrArg _ Gfy3.out)
        · intro xs wq hq R hR
          go_simp
          exact hR _ _ (Ext.refl _) rfl
        · intro xs wq hq hk R hR
          have f0 := hq.cell s6
          go_simp
          exact hR _ _ (Ext.refl _) rfl
        · intro xs wq hq hk R hR
          obtain ⟨hk0, hk1⟩ := hk
          go_simp
          exact hR _ _ (Ext.refl _) (congrArg _ Gfy4.out)
        · intro xs wq hq hk R hR
          obtain ⟨hk0, hk1⟩ := hk
          go_simp
          exact hR _ _ (Ext.refl _) (congrArg _ Gfy5.out)
        · intro xs wq hq hk R hR
          obtain ⟨hk0, hk1⟩ := hk
          go_simp
          exact hR _ _ (Ext.refl _) (congrArg _ Gfy6.out)
        · intro xs wq hq R hR
          go_simp
          exact hR _ _ (Ext.refl _) rfl
        · intro xs wq hq hk R hR
          go_simp
          exact hR _ _ (Ext.refl _) rfl
        · intro xs wq hq hk R hR
          go_simp
          exact hR _ _ (Ext.refl _) rfl
        · intro xs wq hq hk R hR
          have f0 := hq.cell sc
          go_simp
          exact hR _ _ (Ext.refl _) rfl
        · intro xs wq hq R hR
          go_simp
          exact hR _ _ (Ext.refl _) rfl
        · intro xs wq hq hk R hR
          go_simp
          exact hR _ _ (Ext.refl _) rfl
        · intro xs wq hq hk R hR
          go_simp
          exact hR _ _ (Ext.refl _) rfl
        · intro xs wq hq hk R hR
          obtain ⟨hk0, hk1⟩ := hk
          go_simp
          exact hR _ _ (Ext.refl _) rfl
        · intro xs wq hq hk R hR
          have f0 := hq.cell sk
          go_simp
          exact hR _ _ (Ext.refl _) rfl
        · intro xs wq hq hk R hR
          obtain ⟨hk0, hk1⟩ := hk
          go_simp
          exact hR _ _ (Ext.refl _) (congrArg _ Gfy7.out)
        · intro xs wq hq R hR
          go_simp
          exact hR _ _ (Ext.refl _) rfl
        · intro xs wq hq hk R hR
          go_simp
          exact hR _ _ (Ext.refl _) rfl
        · intro xs wq hq hk R hR
          have f0 := hq.cell sw
          go_simp
          exact hR _ _ (Ext.refl _) rfl
        · intro xs wq hq hk R hR
          obtain ⟨hk0, hk1⟩ := hk
          go_simp
          exact hR _ _ (Ext.refl _) (congrArg _ Gftt.out)
      intro xs wz hxz hk
      simp only [heldV, Nat.zero_add, Nat.reduceAdd, and_true] at hk
      have q0 := hk.1
      replace hk := hk.2
      have q1 := hk.1
      replace hk := hk.2
      have q2 := hk.1
      replace hk := hk.2
      have q3 := hk.1
      replace hk := hk.2
      have q4 := hk.1
      replace hk := hk.2
      have q5 := hk.1
      replace hk := hk.2
      have q6 := hk.1
      replace hk := hk.2
      have q7 := hk.1
      replace hk := hk.2
      have q8 := hk.1
      replace hk := hk.2
      have q9 := hk.1
      replace hk := hk.2
      have q10 := hk.1
      replace hk := hk.2
      have q11 := hk.1
      replace hk := hk.2
      have q12 := hk.1
      replace hk := hk.2
      have q13 := hk.1
      replace hk := hk.2
      have q14 := hk.1
      replace hk := hk.2
      have q15 := hk.1
      replace hk := hk.2
      have q16 := hk.1
      replace hk := hk.2
      have q17 := hk.1
      replace hk := hk.2
      have q18 := hk.1
      replace hk := hk.2
      have q19 := hk.1
      replace hk := hk.2
      have q20 := hk.1
      replace hk := hk.2
      have q21 := hk.1
      replace hk := hk.2
      have q22 := hk.1
      replace hk := hk.2
      have q23 := hk.1
      replace hk := hk.2
      have q24 := hk.1
      replace hk := hk.2
      have q25 := hk.1
      replace hk := hk.2
      have q26 := hk.1
      replace hk := hk.2
      have q27 := hk.1
      replace hk := hk.2
      have q28 := hk
      clear hk
      simp (maxSteps := 1000000) only [List.take_succ_cons, List.take_zero, List.drop_succ_cons, List.drop_zero, fillFrom, Act.put, List.setIfInBounds_toArray, List.set_cons_zero, List.set_cons_succ, Nat.zero_add, Nat.reduceAdd, q0, q1, q2, q3, q4, q5, q6, q7, q8, q9, q10, q11, q12, q13, q14, q15, q16, q17, q18, q19, q20, q21, q22, q23, q24, q25, q26, q27, q28]
      clear q0 q1 q2 q3 q4 q5 q6 q7 q8 q9 q10 q11 q12 q13 q14 q15 q16 q17 q18 q19 q20 q21 q22 q23 q24 q25 q26 q27 q28
      have HMz : Hid _ := MixR.more HMq.out hxz
      clear s5 s6 s7 sw sc sk hxz
      go_wp2_with fail
      go_at_call 164
      refine (rot2 a0 _).mono ?_
      rw [HZ1.out]
      rintro e w8 ⟨rfl, rfl⟩
      go_wp2_with fail
      go_at_call 164
      refine (rot13 a0 _).mono ?_
      rw [HZ2.out]
      rintro e w8 ⟨rfl, rfl⟩
      go_wp2_with fail
      go_at_call 164
      refine (rot22 a0 _).mono ?_
      rw [HZ4.out]
      rintro e w8 ⟨rfl, rfl⟩
      have hcur := HMz.out.cur
      have r0 : w8.cell? ⟨gs, 0, none⟩ = some (U32 a0) := (cell_of_row _ _ 0 _ _ _ hcur).trans rfl
      have r1 : w8.cell? ⟨gs, 1, none⟩ = some (U32 a1) := (cell_of_row _ _ 1 _ _ _ hcur).trans rfl
      have r2 : w8.cell? ⟨gs, 2, none⟩ = some (U32 a2) := (cell_of_row _ _ 2 _ _ _ hcur).trans rfl
      have r3 : w8.cell? ⟨gs, 3, none⟩ = some (U32 a3) := (cell_of_row _ _ 3 _ _ _ hcur).trans rfl
      have r4 : w8.cell? ⟨gs, 4, none⟩ = some (U32 a4) := (cell_of_row _ _ 4 _ _ _ hcur).trans rfl
      have r5 : w8.cell? ⟨gs, 5, none⟩ = some (U32 a5) := (cell_of_row _ _ 5 _ _ _ hcur).trans rfl
      have r6 : w8.cell? ⟨gs, 6, none⟩ = some (U32 a6) := (cell_of_row _ _ 6 _ _ _ hcur).trans rfl
      go_upto_region 9 with fail
      rw [Gfz3.out, Gfz5.out]
      go_upto_region 10 with fail
      rw [Gfv1.out, Gfv2.out, Gfv3.out, Gfv4.out, Gfv5.out, Gmuu.out]
      have HNV : Hid ((#[.int .u32 (((tt.toNat : Int) + (uu.toNat : Int)) % 4294967296), U32 a0, U32 a1, U32 a2, .int .u32 (((a3.toNat : Int) + (tt.toNat : Int)) % 4294967296), U32 a4, U32 a5, U32 a6] : Array Value) = #[U32 n0, U32 a0, U32 a1, U32 a2, U32 n4, U32 a4, U32 a5, U32 a6]) := by unfold Hid; rw [Gmn0.out, Gmn4.out]
      go_wp2_with (refine store_all rfl 146 (.tmp 5) (.tmp 109) rfl gs 0 rfl #[U32 n0, U32 a0, U32 a1, U32 a2, U32 n4, U32 a4, U32 a5, U32 a6] (congrArg Value.agg HNV.out) (by intro v hv; simp at hv; rcases hv with rfl | rfl | rfl | rfl | rfl | rfl | rfl | rfl <;> rfl) _ _ hcur (by simp) size_a8 #[U32 n0, U32 a0, U32 a1, U32 a2, U32 n4, U32 a4, U32 a5, U32 a6] (by simp) ?_; intro wn hgn hgrn)
      have HMn : Hid _ := MixR.put HMz.out (new := [n0, a0, a1, a2, n4, a4, a5, a6]) hgn hgrn HNEW.out
      clear r0 r1 r2 r3 r4 r5 r6 hcur hgn hgrn
      go_roundw
      case rel => exact ⟨k + 1, n0, a0, a1, a2, n4, a4, a5, a6, by omega, by go_num, HMn.out⟩
      case measure => simp [intOf]; omega
    · have hkk : k = 64 := by omega
      subst hkk
      have hcur := HM.out.cur
      have heq := HM.out.eq
      have hext := HM.out.ext
      obtain ⟨fin, hfin⟩ : ∃ l, [a0, a1, a2, a3, a4, a5, a6, a7] = l := ⟨_, rfl⟩
      have hfl : fin.length = 8 := by rw [← hfin]; rfl
      rw [hfin] at hcur heq
      have HEQ : Hid _ := heq
      have HFL : Hid _ := hfl
      obtain ⟨F, hF⟩ : ∃ F, (fin.map U32).toArray = F := ⟨_, rfl⟩
      have hF8 : F.size = 8 := by rw [← hF]; simp [hfl]
      have HFG : Hid (∀ j, j < 8 → F[j]? = some (U32 (fin.getD j 0))) := fun j hj => by
        rw [← hF, List.getElem?_toArray, List.getElem?_map, List.getElem?_eq_getElem (by omega), List.getD_eq_getElem?_getD, List.getElem?_eq_getElem (by omega)]
        rfl
      rw [hF] at hcur
      have H20 : Hid (Mix2 w wr hb cb st fin rest n 0) := ⟨Fr.of_ext hext, by show wr.heap[hb]? = some (.cells (hCells cb ([] ++ st.drop 0) rest n) _ _); rw [List.nil_append, List.drop_zero]; exact Ext.row hext HG.out⟩
      clear heq hfl hF hfin hext
      go_wp2_with (refine wpList_load_row rfl 146 (.tmp 5) rfl gs rfl 146 F (0, 0) _ hcur Tryz.underlying146 rfl (by rw [hF8]; exact size_a8) ?_)
      clear hcur
      go_loopw [112] (fun i wr => ∃ k : Nat, k ≤ 8 ∧ i = .int .i64 k ∧ Hid (Mix2 w wr hb cb st fin rest n k)) (fun i _ => 8 - (intOf i).toNat)
      case atStart => exact ⟨0, by omega, rfl, H20.out⟩
      case round =>
        obtain ⟨k, hk, rfl, H2⟩ := hrel
        by_cases hlt : k < 8
        · obtain ⟨sk, hsk⟩ : ∃ x, st.getD k 0 = x := ⟨_, rfl⟩
          obtain ⟨fk, hfk⟩ : ∃ x, fin.getD k 0 = x := ⟨_, rfl⟩
          obtain ⟨xk, hxk⟩ : ∃ x, sk + fk = x := ⟨_, rfl⟩
          have hcell := H2.out.cells
          have hpl := partM_len HST.out HFL.out hk
          have hps := partM_set HST.out HFL.out hlt
          have hpg := partM_get HST.out HFL.out hlt
          rw [hsk] at hpg
          rw [hsk, hfk, hxk] at hps
          have HADD : Hid (Value.int .u32 (IntKind.u32.wrap ((sk.toNat : Int) + (fk.toNat : Int))) = U32 xk) := by unfold Hid; rw [← hxk]; exact addw_u32 sk fk
          have hix := index_words wr ((HFG.out k hlt).trans (by rw [hfk])) hlt
          have c1 : wr.cell? ⟨hb, 1 + k, none⟩ = some (U32 sk) := by rw [cell_of_row _ _ (1 + k) _ _ _ hcell, hCells_st (by omega), hpg]
          have HC1 : Hid _ := c1
          have HCE : Hid _ := hcell
          have HPS : Hid _ := hps
          clear hsk hfk hxk hpg hps c1 hcell
          go_upto_region 15 with fail
          clear hix
          apply wp_region_mix 11 [_, _, _, .pointer (some ⟨hb, 1, none⟩), .pointer (some ⟨hb, 1 + k, none⟩), U32 sk, _, U32 xk, _, .pointer (some ⟨hb, 1, none⟩), .pointer (some ⟨hb, 1 + k, none⟩)] [none, none, none, none, none, none, none, none, none, none, none] [[], [], [0], [2], [1, 3], [4], [], [5, 6], [0], [8], [1, 9]] (by kernel_rfl) (by kernel_rfl) (by simp [mixV])
          · trivial
          · simp (maxSteps := 1000000) only [List.take_succ_cons, List.take_zero, oblFrom, stepObl, fillFrom, Act.put, List.setIfInBounds_toArray, List.set_cons_zero, List.set_cons_succ, knows, getV, mixV, List.getD_cons_zero, List.getD_cons_succ, and_true, true_and, forall_const]
            refine ⟨?_, ?_, ?_, ?_, ?_, ?_, ?_, ?_, ?_, ?_, ?_⟩
            · intro xs wq hq R hR
              go_simp
              exact hR _ _ (Ext.refl _) rfl
            · intro xs wq hq R hR
              go_simp
              exact hR _ _ (Ext.refl _) rfl
            · intro xs wq hq hk R hR
              go_simp
              exact hR _ _ (Ext.refl _) rfl
            · intro xs wq hq hk R hR
              go_simp
              exact hR _ _ (Ext.refl _) rfl
            · intro xs wq hq hk R hR
              obtain ⟨hk0, hk1⟩ := hk
              go_simp
              exact hR _ _ (Ext.refl _) rfl
            · intro xs wq hq hk R hR
              have f0 := hq.cell HC1.out
              go_simp
              exact hR _ _ (Ext.refl _) rfl
            · intro xs wq hq R hR
              go_simp
              exact hR _ _ (Ext.refl _) rfl
            · intro xs wq hq hk R hR
              obtain ⟨hk0, hk1⟩ := hk
              go_simp
              exact hR _ _ (Ext.refl _) HADD.out
            · intro xs wq hq hk R hR
              go_simp
              exact hR _ _ (Ext.refl _) rfl
            · intro xs wq hq hk R hR
              go_simp
              exact hR _ _ (Ext.refl _) rfl
            · intro xs wq hq hk R hR
              obtain ⟨hk0, hk1⟩ := hk
              go_simp
              exact hR _ _ (Ext.refl _) rfl
          intro xs wz hxz hk
          simp only [heldV, Nat.zero_add, Nat.reduceAdd, and_true] at hk
          obtain ⟨q0, q1, q2, q3, q4, q5, q6, q7, q8, q9, q10⟩ := hk
          simp (maxSteps := 1000000) only [List.take_succ_cons, List.take_zero, List.drop_succ_cons, List.drop_zero, fillFrom, Act.put, List.setIfInBounds_toArray, List.set_cons_zero, List.set_cons_succ, Nat.zero_add, Nat.reduceAdd, q0, q1, q2, q3, q4, q5, q6, q7, q8, q9, q10]
          clear q0 q1 q2 q3 q4 q5 q6 q7 q8 q9 q10
          have hcz := Ext.row hxz HCE.out
          have hsz := hCells_size (cb := cb) (st := partM st fin k) (rest := rest) (n := n)
          have hput := hCells_put (cb := cb) (st := partM st fin k) (rest := rest) (n := n) (j := k) xk (by omega)
          rw [← HPS.out] at hput
          go_wp2_with (refine store_field rfl 139 (.tmp 126) (.tmp 123) rfl hb (1 + k) rfl (U32 xk) rfl rfl _ _ hcz (by omega) info_u32 (hCells cb (partM st fin (k + 1)) rest n) hput ?_; intro wn hgn hgrn)
          have H3 : Hid (Mix2 w wn hb cb st fin rest n (k + 1)) := ⟨(H2.out.fr.ext hxz).step hgrn (fun j hj => by cases hj; exact .inl rfl) (by rintro j hj; cases hj; exact not_u8h hcz), hgn⟩
          clear hcz hsz hput hgn hgrn hxz hpl
          go_roundw
          case rel => exact ⟨k + 1, by omega, by go_num, H3.out⟩
          case measure => simp [intOf]; omega
        · have hkk : k = 8 := by omega
          subst hkk
          have HEND : Hid (wr.heap[hb]? = some (.cells (hCells cb (mixM st b) rest n) 164 (0, 0))) := by
            have h9 := H2.out.cells
            have h8 : partM st fin 8 = mixM st b := by
              unfold partM
              rw [HWE.out, HEQ.out, List.drop_eq_nil_of_le (by rw [HST.out]; omega), List.append_nil, List.take_of_length_le (by simp [HST.out, HFL.out])]
            rw [h8] at h9
            exact h9
          go_wp2
          go_end0
          exact ⟨rfl, HEND.out, H2.out.fr⟩

end Go.Proofs.YtalpfoomkhhgnaaGreatDoor

/-! Appends of whatever slice to one that the call itself made. Conditions: as each theorem states. -/
namespace Go.Proofs.YtalpfoomkhhgnaaGreatDoor
open Go Go.RowKit
set_option linter.unusedVariables false
set_option linter.unusedSimpArgs false
set_option linter.unusedSectionVars false

/-- append of elements, of whatever slice. -/
theorem appS_run (T e : TypeId) (z : Value) (size bytes : Nat) (ht : Tryz.prog.underlying T = some (.slice e)) (hinfo : (Tryz.prog.info? e).map (fun i => (i.zero, i.size, i.bytes)) = some (some z, size, bytes)) (hzs : z.cells.size = size) (hsz : 0 < size)
    {w : World} (base : Nat) (v : Value) (n : Nat) (xs : List Value) (hown : w.ownsRow base e size v n xs) (x : Value) (m : Nat) (news : List Value) (hx : Row w x m news) (hl : news.length = m * size) (h1 : ∀ u ∈ news, u.oneCell' = true) (hb : (n + m) * bytes ≤ 140737488355328) (hb2 : n + m ≤ 1000000000) (hbase : base ≤ w.heap.size) :
    ∃ v' w', (Builtin.append_ #[T, T] T #[v, x]).run Tryz.prog w = .ok v' w' ∧ w'.ownsRow base e size v' (n + m) (xs ++ news) ∧ w.grownBy w' v.ownBlock ∧ (v'.ownBlock = v.ownBlock ∨ v'.ownBlock = some w.heap.size) := by
  obtain ⟨i0, hi, hz0, hz1, hz2⟩ := info_parts hinfo
  obtain ⟨a, cap, rfl, k1, k2, k3, k4⟩ := hx
  cases a with
  | none =>
    have hn : news = [] := by
      cases news with
      | nil => rfl
      | cons y l => obtain ⟨b, o, he, _⟩ := k4 (by simp); cases he
    subst hn
    have hm : m = 0 := by
      have h0 : m * size = 0 := by simpa using hl.symm
      rcases Nat.mul_eq_zero.1 h0 with h | h
      · exact h
      · omega
    subst hm
    obtain ⟨vb, vn, vc, rfl, hle⟩ : ∃ vb vn vc, v = .slice vb n vc ∧ n ≤ vc ∧ vn = n := by
      rcases hown.2 with ⟨rfl, h0⟩ | ⟨g, c, cur, rfl, _, _, hc, _⟩
      · exact ⟨none, n, 0, by rw [h0], by omega, rfl⟩
      · exact ⟨_, n, c, rfl, hc, rfl⟩
    refine ⟨_, w, run_append_nothing w _ _ _ _ i0 ht hi vb n vc hle.1 _ (by rw [hz1]; exact Src.ofNil w ht cap), by simpa using hown, ⟨rfl, rfl, rfl, Nat.le_refl _, fun _ _ _ => rfl⟩, .inl rfl⟩
  | some ad =>
    have hnews : ∀ j u, news[j]? = some u → w.cell? (ad.add j) = some u := fun j u hu => by
      obtain ⟨b, o, he, hc⟩ := k4 (by rintro rfl; simp at hu)
      cases he
      have hadd : (⟨b, o, none⟩ : Addr).add j = ⟨b, o + j, none⟩ := by unfold Addr.add; split <;> simp_all
      rw [hadd]
      exact hc j u hu
    obtain ⟨v', w', h2, h3, h4, _, h5⟩ := run_append_own_at (P := Tryz.prog) w base T T e i0 _ size bytes ht hi hz0 hz1 hz2 hzs hsz v n xs hown ad m cap news hl hnews h1 (by unfold maxLen; omega) hb hbase
    exact ⟨v', w', h2, h3, h4, h5⟩
section
variable {ops : Array Oper} {rest : List Oper} {o : Oper} {a : Act} {Q : Exit → Act → World → Prop} {w : World}
theorem appS_op (T e : TypeId) (z : Value) (size bytes : Nat) (ht : Tryz.prog.underlying T = some (.slice e)) (hinfo : (Tryz.prog.info? e).map (fun i => (i.zero, i.size, i.bytes)) = some (some z, size, bytes)) (hzs : z.cells.size = size) (hsz : 0 < size)
    (hgd : o.guard = none) (s x : Operand) (ho : o.op = .call { callee := .builtin .append, args := #[s, x], argTypes := #[T, T] }) (hty : o.type = T)
    (base : Nat) (v : Value) (n : Nat) (xs : List Value) (hs : a.eval s = v) (hown : w.ownsRow base e size v n xs)
    (xv : Value) (m : Nat) (news : List Value) (hx : a.eval x = xv) (hrow : Row w xv m news) (hl : news.length = m * size) (h1 : ∀ u ∈ news, u.oneCell' = true) (hb : (n + m) * bytes ≤ 140737488355328) (hb2 : n + m ≤ 1000000000) (hbase : base ≤ w.heap.size)
    (h : ∀ v' w', w'.ownsRow base e size v' (n + m) (xs ++ news) → w.grownBy w' v.ownBlock → wpList Tryz.prog ops Q rest (a.put o.dst v') w') : wpList Tryz.prog ops Q (o :: rest) a w := by
  refine wpList_plain hgd fun K hK => ?_
  obtain ⟨v', w', hr, h2, h3, h4⟩ := appS_run T e z size bytes ht hinfo hzs hsz base v n xs hown xv m news hrow hl h1 hb hb2 hbase
  unfold Oper.wp execOp
  simp only [ho, hty, resolve, invoke, builtin, Sem.run_bind, Sem.run_pure, Result.andThen_ok, List.map_toArray, List.map_cons, List.map_nil, hs, hx, hr]
  exact hK _ _ (h v' w' h2 h3)
end

/-- What stands behind a slice's place. -/
theorem IsBytes.tail {w : World} {a : Option Addr} {cap : Nat} {l : B8} (k : Nat) (h : IsBytes w (.slice a l.length cap) l) (hk : k ≤ l.length) (ht : TypB w (.slice a l.length cap)) :
    ∀ a', (a = none → a' = none) → (cap ≠ k → ∀ b o, a = some ⟨b, o, none⟩ → a' = some ⟨b, o + k, none⟩) → IsBytes w (.slice a' (l.length - k) (cap - k)) (l.drop k) := by
  obtain ⟨a2, cap2, he, h1, h2, h3, h4⟩ := h
  simp only [Value.slice.injEq, true_and] at he
  obtain ⟨rfl, rfl⟩ := he
  intro a' hn hs
  have hlen : (l.drop k).length = l.length - k := List.length_drop
  unfold IsBytes
  rw [hlen]
  refine ⟨a', cap - k, rfl, by omega, by omega, by omega, fun hne => ?_⟩
  have hlt : k < l.length := by
    rcases Nat.lt_or_ge k l.length with h | h
    · exact h
    · rw [List.drop_eq_nil_of_le h] at hne; simp at hne
  obtain ⟨b, o, rfl, hc⟩ := h4 (by intro h0; rw [List.map_eq_nil_iff] at h0; subst h0; simp at hlt)
  refine ⟨b, o + k, hs (by omega) b o rfl, fun i u hu => ?_⟩
  rw [List.getElem?_map, List.getElem?_drop] at hu
  have := hc (k + i) u (by rw [List.getElem?_map]; exact hu)
  rwa [← Nat.add_assoc] at this
/-- the slice from a place on, as the walk leaves it. -/
def tailV (a : Option Addr) (n c k : Nat) : Value := .slice (if c = k then a else Option.map (fun x => { block := x.block, off := x.off + k }) a) (n - k) (c - k)
theorem IsBytes.tailV {w : World} {a : Option Addr} {cap : Nat} {l : B8} (k : Nat) (h : IsBytes w (.slice a l.length cap) l) (hk : k ≤ l.length) (ht : TypB w (.slice a l.length cap)) :
    IsBytes w (tailV a l.length cap k) (l.drop k) ∧ TypB w (Go.Proofs.YtalpfoomkhhgnaaGreatDoor.tailV a l.length cap k) := by
  constructor
  · refine h.tail k hk ht _ (fun hn => by subst hn; simp) (fun hne b o hb => by subst hb; simp [hne])
  · intro a' n' c' he
    unfold Go.Proofs.YtalpfoomkhhgnaaGreatDoor.tailV at he
    simp only [Value.slice.injEq] at he
    obtain ⟨he, -, -⟩ := he
    split at he
    · subst he; exact ht _ _ _ rfl
    · cases a with
      | none => cases he
      | some ad => simp only [Option.map_some, Option.some.injEq] at he; subst he; exact ht ad _ _ rfl
theorem IsBytes.head {w : World} {a : Option Addr} {cap : Nat} {l : B8} (k : Nat) (h : IsBytes w (.slice a l.length cap) l) (hk : k ≤ l.length) : IsBytes w (.slice a k cap) (l.take k) := by
  obtain ⟨a2, cap2, he, h1, h2, h3, h4⟩ := h
  simp only [Value.slice.injEq, true_and] at he
  obtain ⟨rfl, rfl⟩ := he
  have hlen : (l.take k).length = k := by rw [List.length_take]; omega
  unfold IsBytes
  rw [hlen]
  refine ⟨a, cap, rfl, by omega, by omega, by omega, fun hne => ?_⟩
  obtain ⟨b, o, rfl, hc⟩ := h4 (by intro h0; rw [List.map_eq_nil_iff] at h0; subst h0; simp at hne)
  refine ⟨b, o, rfl, fun i u hu => hc i u ?_⟩
  rw [List.getElem?_map, List.getElem?_take] at hu
  split at hu
  · rw [List.getElem?_map]; exact hu
  · cases hu

end Go.Proofs.YtalpfoomkhhgnaaGreatDoor

/-! sha.Hasher.Write: a piece is taken. Conditions: at most 10000000 bytes. -/
namespace Go.Proofs.YtalpfoomkhhgnaaGreatDoor
open Go Go.RowKit
set_option linter.unusedVariables false
set_option linter.unusedSimpArgs false
set_option linter.unusedSectionVars false

theorem hCells_9 {cb : Nat} {st : List UInt32} {rest : Value} {n : Int} (h : st.length = 8) : (hCells cb st rest n)[9]? = some rest ∧ (hCells cb st rest n)[10]? = some (Value.int .i64 n) := by
  obtain ⟨i0, i1, i2, i3, i4, i5, i6, i7, rfl⟩ := list8 h
  exact ⟨rfl, rfl⟩
theorem hCells_put9 {cb : Nat} {st : List UInt32} {rest new : Value} {n : Int} (h : st.length = 8) : hCells cb st new n = ((hCells cb st rest n).toList.take 9 ++ [new] ++ (hCells cb st rest n).toList.drop (9 + 1)).toArray := by
  obtain ⟨i0, i1, i2, i3, i4, i5, i6, i7, rfl⟩ := list8 h
  rfl
theorem hCells_put10 {cb : Nat} {st : List UInt32} {rest : Value} {n new : Int} (h : st.length = 8) : hCells cb st rest new = ((hCells cb st rest n).toList.take 10 ++ [Value.int .i64 new] ++ (hCells cb st rest n).toList.drop (10 + 1)).toArray := by
  obtain ⟨i0, i1, i2, i3, i4, i5, i6, i7, rfl⟩ := list8 h
  rfl
theorem clone_own (v : Value) (l : B8) (w : World) (hv : IsBytes w v l) (hl : l.length ≤ 140737488355328) :
    Calls Tryz.prog 108 #[v] w fun e w' => (∃ v, e = .returned v ∧ w'.ownsRow w.heap.size 5 1 v l.length (l.map fun x => .int .u8 x.toNat)) ∧ Ext w w' := by
  obtain ⟨a, cap, rfl, h1, h2, h3, h4⟩ := hv
  cases a with
  | none =>
    have hn : l = [] := by
      cases l with
      | nil => rfl
      | cons x l => obtain ⟨b, o, he, _⟩ := h4 (by simp); cases he
    subst hn
    exact (Tryz.bytes_Clone_nil 0 cap w).mono fun e w' ⟨he, hw⟩ => ⟨⟨_, he, World.ownsRow_nil _ _ _ _⟩, by rw [hw]; exact Ext.refl _⟩
  | some ad =>
    refine (Tryz.bytes_Clone_at ad l.length cap (l.map fun x => (x.toNat : Int)) w (by simp) (by omega) (fun i hi => ?_)).mono fun e w' ⟨v', he, hown, _, hx⟩ => ⟨⟨v', he, ?_⟩, hx⟩
    · have hne : l ≠ [] := by rintro rfl; simp at hi
      obtain ⟨b, o, hadr, hc⟩ := h4 (by simpa using hne)
      cases hadr
      have hadd : (⟨b, o, none⟩ : Addr).add i = ⟨b, o + i, none⟩ := by unfold Addr.add; split <;> simp_all
      rw [hadd]
      refine hc i _ ?_
      simp [hi]
    · rw [List.map_map] at hown
      exact hown

/-- What Write's loop holds. -/
structure Wr (w wr : World) (hb cb : Nat) (goal : List UInt32 × B8) (n : Int) (st : List UInt32) (rv : Value) (r : B8) : Prop where
  fr : Fr (fun k => k = hb) w wr
  hst : st.length = 8
  cells : wr.heap[hb]? = some (.cells (hCells cb st rv n) 164 (0, 0))
  bytes : IsBytes wr rv r
  typ : TypB wr rv
  len : r.length ≤ 20000000
  goal : absorb st r = goal
/-- How long the hasher's rest is. -/
def restLen (w : World) (hb : Nat) : Nat := match w.cell? ⟨hb, 9, none⟩ with
  | some (.slice _ n _) => n
  | _ => 0
theorem Wr.restLen {w wr : World} {hb cb : Nat} {goal : List UInt32 × B8} {n : Int} {st : List UInt32} {rv : Value} {r : B8} (h : Wr w wr hb cb goal n st rv r) : restLen wr hb = r.length := by
  obtain ⟨a, cap, rfl, -⟩ := id h.bytes
  unfold Go.Proofs.YtalpfoomkhhgnaaGreatDoor.restLen
  rw [(cell_of_row _ _ 9 _ _ _ h.cells).trans (hCells_9 h.hst).1]

set_option maxRecDepth 100000 in
set_option maxHeartbeats 1000000 in
theorem write_sha (hb cb : Nat) (st : List UInt32) (rv v : Value) (r b : B8) (n : Nat) (o : List Value) (w : World) (hst : st.length = 8) (ho : o.length = 3) (hne : hb ≠ cb) (hn : n ≤ 1000000000)
    (hg : w.heap[hb]? = some (.cells (hCells cb st rv n) 164 (0, 0))) (hc : w.heap[cb]? = some (.cells (kCells o) 161 (0, 0))) (hr : IsBytes w rv r) (hrt : TypB w rv) (hv : IsBytes w v b) (hvt : Out (fun k => k = hb) w v) (hrl : r.length ≤ 10000000) (hl : b.length ≤ 10000000) :
    Calls Tryz.prog 71 #[.pointer (some ⟨hb, 0, none⟩), v] w fun e w' => e = .returned (.tuple #[]) ∧ ∃ (st' : List UInt32) (rv' : Value) (r' : B8), Wr w w' hb cb (absorb st (r ++ b)) (n + b.length) st' rv' r' ∧ (st', r') = absorb st (r ++ b) := by
  obtain ⟨a, cap, rfl, h1, h2, h3, -⟩ := hv.get
  have HC : Hid _ := hc
  have HR : Hid _ := hr
  have HV : Hid _ := hv
  have HVT : Hid _ := hvt
  have HST : Hid _ := hst
  have HO : Hid _ := ho
  have HG : Hid _ := hg
  have c9 : w.cell? ⟨hb, 9, none⟩ = some rv := (cell_of_row _ _ 9 _ _ _ hg).trans (hCells_9 hst).1
  have c10 : w.cell? ⟨hb, 10, none⟩ = some (.int .i64 (n : Int)) := (cell_of_row _ _ 10 _ _ _ hg).trans (hCells_9 hst).2
  have hsz : (hCells cb st rv (n : Int)).size = 11 := by rw [hCells_size, hst]
  have hp10 := hCells_put10 (cb := cb) (rest := rv) (n := (n : Int)) (new := (n : Int) + b.length) hst
  clear hc hr hv hvt hst ho
  go_enter Tryz.func71, Tryz.ntmps71
  go_upto_region 1 with (refine store_field rfl 3 (.tmp 12) (.tmp 10) rfl hb 10 rfl (.int .i64 ((n : Int) + b.length)) rfl rfl _ _ hg (by omega) size_int (hCells cb st rv ((n : Int) + b.length)) hp10 ?_; intro w2 hg2 hgr2)
  have hfr2 : Fr (fun k => k = hb) w w2 := (Fr.refl _ w).step hgr2 (fun j hj => by cases hj; exact .inl rfl) (by rintro j hj; cases hj; exact not_u8h hg)
  have d9 : w2.cell? ⟨hb, 9, none⟩ = some rv := (cell_of_row _ _ 9 _ _ _ hg2).trans (hCells_9 HST.out).1
  have HFR2 : Hid _ := hfr2
  have HG2 : Hid _ := hg2
  clear hg2 hgr2 hfr2 c9 c10 hp10 hg
  have HRR : Hid (IsBytes w2 rv r) := Row.keepB HR.out hrt HFR2.out.keep
  go_wp2_with fail
  go_at_call 108
  refine (clone_own rv r w2 HRR.out (by omega)).mono ?_
  rintro e w3 ⟨⟨v3, rfl, hown3⟩, hx3⟩
  have HV3 : Hid (IsBytes w3 (.slice a b.length cap) b) := IsBytes.ext (IsBytes.fr (O := fun k => k = hb) HV.out HVT.out HFR2.out) hx3
  have HOWN3 : Hid (w3.ownsRow w2.heap.size 5 1 v3 r.length (r.map fun x : UInt8 => Value.int .u8 (x.toNat : Int))) := hown3
  have HX3 : Hid _ := hx3
  have hs3 := hx3.size
  clear hown3 hx3
  go_wp2_with first | (at_builtin; go_must (refine appS_op _ _ _ 1 1 Tryz.underlying45 info_u8 rfl (by omega) rfl _ _ rfl rfl w2.heap.size v3 r.length (r.map fun x : UInt8 => Value.int .u8 (x.toNat : Int)) rfl HOWN3.out (.slice a b.length cap) b.length (b.map fun x : UInt8 => Value.int .u8 (x.toNat : Int)) rfl HV3.out (by simp) (by intro u hu; obtain ⟨_, _, rfl⟩ := List.mem_map.1 hu; rfl) (by omega) (by omega) hs3 ?_; intro v4 w4 hown4 hgr4; rw [← List.map_append] at hown4; have hx4 : Ext w2 w4 := owns_ext_app HX3.out HOWN3.out hgr4; have ho4 : v4.oneCell' = true := (by rcases hown4.2 with ⟨rfl, _⟩ | ⟨g, c, cur, rfl, _⟩ <;> rfl); have hg4 := Ext.row hx4 HG2.out)) | (refine store_field rfl 45 (.tmp 22) (.tmp 20) rfl hb 9 rfl v4 rfl ho4 _ _ hg4 (by rw [hCells_size, HST.out]; omega) size_bytes (hCells cb st v4 ((n : Int) + b.length)) (hCells_put9 HST.out) ?_; intro w5 hg5 hgr5)
  have hwr5 : Wr w w5 hb cb (absorb st (r ++ b)) ((n : Int) + b.length) st v4 (r ++ b) := by
    have hk : KeepB w4 w5 := KeepB.of_grown hgr5 hg4 (by kernel_rfl)
    have ht4 : TypB w4 v4 := TypB.of_owns hown4
    refine ⟨(HFR2.out.ext hx4).step hgr5 (fun j hj => by cases hj; exact .inl rfl) (by rintro j hj; cases hj; exact not_u8h hg4), HST.out, hg5, ?_, ht4.keep hk, by rw [List.length_append]; omega, rfl⟩
    have hrow := Row.of_owns hown4 (by omega)
    unfold IsBytes
    rw [List.length_append]
    exact hrow.keepB ht4 hk
  have HWR5 : Hid _ := hwr5
  clear hwr5 hg5 hgr5 hg4 ho4 hx4 hgr4 hown4 d9 hsz HX3 HOWN3 HV3 HRR
  go_frame
  go_loopw [] (fun wr => ∃ (st' : List UInt32) (rv' : Value) (r' : B8), Wr w wr hb cb (absorb st (r ++ b)) ((n : Int) + b.length) st' rv' r') (fun wr => restLen wr hb)
  case atStart => exact ⟨st, v4, r ++ b, HWR5.out⟩
  case round =>
    obtain ⟨s6, r6, l6, hw6⟩ := hrel
    have HW6 : Hid _ := hw6
    have HM6 : Hid _ := hw6.restLen
    obtain ⟨a6, c6, rfl, k1, k2, k3, -⟩ := hw6.bytes.get
    have e9 : wr.cell? ⟨hb, 9, none⟩ = some (.slice a6 l6.length c6) := (cell_of_row _ _ 9 _ _ _ hw6.cells).trans (hCells_9 hw6.hst).1
    have hll := hw6.len
    clear hw6
    by_cases hlt : 64 ≤ l6.length
    · go_wp2_with fail
      go_at_call 109
      refine (mix_any hb cb s6 (.slice a6 l6.length c6) (.slice a6 64 c6) ((n : Int) + b.length) (l6.take 64) o wr HW6.out.hst HO.out HW6.out.cells (HW6.out.fr.row HC.out (fun h => hne h.symm)) (IsBytes.head 64 HW6.out.bytes hlt) (by rw [List.length_take]; omega)).mono ?_
      rintro e w7 ⟨rfl, hg7, hf7⟩
      have hm7 : (mixM s6 (l6.take 64)).length = 8 := mix_len HW6.out.hst
      have HM7 : Hid _ := hm7
      have e97 : w7.cell? ⟨hb, 9, none⟩ = some (.slice a6 l6.length c6) := (cell_of_row _ _ 9 _ _ _ hg7).trans (hCells_9 hm7).1
      have HF7 : Hid _ := hf7
      have hfin : ∀ w8, w8.heap[hb]? = some (.cells (hCells cb (mixM s6 (l6.take 64)) (tailV a6 l6.length c6 64) ((n : Int) + b.length)) 164 (0, 0)) → w7.grownBy w8 (some hb) →
          (∃ (st' : List UInt32) (rv' : Value) (r' : B8), Wr w w8 hb cb (absorb st (r ++ b)) ((n : Int) + b.length) st' rv' r') ∧ restLen w8 hb < restLen wr hb := by
        intro w8 hg8 hgr8
        have hk8 : KeepB wr w8 := hf7.keep.trans (KeepB.of_grown hgr8 hg7 (by kernel_rfl))
        have hb8 : IsBytes w8 (.slice a6 l6.length c6) l6 := Row.keepB HW6.out.bytes HW6.out.typ hk8
        have ht8 : TypB w8 (.slice a6 l6.length c6) := HW6.out.typ.keep hk8
        obtain ⟨hb9, ht9⟩ := IsBytes.tailV 64 hb8 hlt ht8
        have hw8 : Wr w w8 hb cb (absorb st (r ++ b)) ((n : Int) + b.length) (mixM s6 (l6.take 64)) (tailV a6 l6.length c6 64) (l6.drop 64) := by
          refine ⟨(HW6.out.fr.trans (hf7.mono fun k hk => .inl hk)).step hgr8 (fun j hj => by cases hj; exact .inl rfl) (by rintro j hj; cases hj; exact not_u8h hg7), hm7, hg8, hb9, ht9, by rw [List.length_drop]; omega, ?_⟩
          have hg := HW6.out.goal
          rw [absorb, if_pos hlt] at hg
          exact hg
        refine ⟨⟨_, _, _, hw8⟩, ?_⟩
        rw [hw8.restLen, HM6.out, List.length_drop]
        omega
      have HFIN : Hid _ := hfin
      clear hf7 hm7 e9 hfin
      go_wp2_with (refine store_field rfl 45 _ _ rfl hb 9 rfl (tailV a6 l6.length c6 64) rfl rfl _ _ hg7 (by rw [hCells_size, HM7.out]; omega) size_bytes _ (hCells_put9 HM7.out) ?_; intro w8 hg8 hgr8)
      all_goals exact HFIN.out w8 hg8 hgr8
    · go_wp2_with fail
      go_end0
      have hg : absorb s6 l6 = (s6, l6) := by rw [absorb, if_neg hlt]
      exact ⟨rfl, s6, _, l6, HW6.out, hg.symm.trans HW6.out.goal⟩

end Go.Proofs.YtalpfoomkhhgnaaGreatDoor
