/- marref.CopyBytes; marref5.FS: put. Conditions: at most 800000 ticks; short paths. -/
import Derived.Test.YtfimfbdlegookaaGreatDoorZae
import Derived.Test.YtfimfbdlegookaaGreatDoorZaa
import Derived.Deep.Upon
import Derived.Test.YtfimfbdlegookaaGreatDoorZab

set_option linter.unusedVariables false
set_option linter.unusedSimpArgs false
set_option linter.unusedSectionVars false

/-! marref1: digit, Unhex, Valid. Conditions: at most 3000000 signs. -/
namespace Go.Proofs.YtfimfbdlegookaaGreatDoor
open Go Go.RowKit

def digV (c : UInt8) : Int := if 48 ≤ c.toNat ∧ c.toNat ≤ 57 then c.toNat - 48 else if 97 ≤ c.toNat ∧ c.toNat ≤ 102 then c.toNat - 87 else -1
theorem digV_all : ∀ n : Fin 256, digV (UInt8.ofNat n.val) = if digM (UInt8.ofNat n.val) < 16 then (digM (UInt8.ofNat n.val) : Int) else -1 := by decide +kernel
theorem digV_M (c : UInt8) : digV c = if digM c < 16 then (digM c : Int) else -1 := by
 have := digV_all ⟨c.toNat, c.toNat_lt⟩
 simpa using this

set_option maxRecDepth 100000 in
set_option maxHeartbeats 400000 in
theorem digit_any (c : UInt8) (w : World) :
  Calls Tryz.prog 189 #[.int .u8 c.toNat] w fun e w' => e = .returned (.int .i64 (digV c)) ∧ w' = w := by
 have hc := c.toNat_lt
 by_cases h1 : 48 ≤ c.toNat
 ·by_cases h2 : c.toNat ≤ 57
  ·have HD : Hid (digV c = (c.toNat : Int) - 48) := by unfold Hid digV; rw [if_pos ⟨h1, h2⟩]
   have i1 : (48 : Int) ≤ c.toNat := by omega
   have i2 : (c.toNat : Int) ≤ 57 := by omega
   go_enter Tryz.func189, Tryz.ntmps189
   go_wp2
   go_ret
   exact ⟨by rw [HD.out]; first | rfl | (congr 2; omega), rfl⟩
  ·by_cases h3 : 97 ≤ c.toNat
   ·by_cases h4 : c.toNat ≤ 102
    ·have HD : Hid (digV c = (c.toNat : Int) - 97 + 10) := by unfold Hid digV; rw [if_neg (show ¬(48 ≤ c.toNat ∧ c.toNat ≤ 57) by omega), if_pos ⟨h3, h4⟩]; omega
     have i1 : (48 : Int) ≤ c.toNat := by omega
     have i2 : ¬ (c.toNat : Int) ≤ 57 := by omega
     have i3 : (97 : Int) ≤ c.toNat := by omega
     have i4 : (c.toNat : Int) ≤ 102 := by omega
     go_enter Tryz.func189, Tryz.ntmps189
     go_wp2
     go_ret
     exact ⟨by rw [HD.out]; first | rfl | (congr 2; omega), rfl⟩
    ·have HD : Hid (digV c = -1) := by unfold Hid digV; rw [if_neg (show ¬(48 ≤ c.toNat ∧ c.toNat ≤ 57) by omega), if_neg (show ¬(97 ≤ c.toNat ∧ c.toNat ≤ 102) by omega)]
     have i1 : (48 : Int) ≤ c.toNat := by omega
     have i2 : ¬ (c.toNat : Int) ≤ 57 := by omega
     have i3 : (97 : Int) ≤ c.toNat := by omega
     have i4 : ¬ (c.toNat : Int) ≤ 102 := by omega
     go_enter Tryz.func189, Tryz.ntmps189
     go_wp2
     go_ret
     exact ⟨by rw [HD.out]; rfl, rfl⟩
   ·have HD : Hid (digV c = -1) := by unfold Hid digV; rw [if_neg (show ¬(48 ≤ c.toNat ∧ c.toNat ≤ 57) by omega), if_neg (show ¬(97 ≤ c.toNat ∧ c.toNat ≤ 102) by omega)]
    have i1 : (48 : Int) ≤ c.toNat := by omega
    have i2 : ¬ (c.toNat : Int) ≤ 57 := by omega
    have i3 : ¬ (97 : Int) ≤ c.toNat := by omega
    go_enter Tryz.func189, Tryz.ntmps189
    go_wp2
    go_ret
    exact ⟨by rw [HD.out]; rfl, rfl⟩
 ·have HD : Hid (digV c = -1) := by unfold Hid digV; rw [if_neg (show ¬(48 ≤ c.toNat ∧ c.toNat ≤ 57) by omega), if_neg (show ¬(97 ≤ c.toNat ∧ c.toNat ≤ 102) by omega)]
  have i1 : ¬ (48 : Int) ≤ c.toNat := by omega
  have i3 : ¬ (97 : Int) ≤ c.toNat := by omega
  go_enter Tryz.func189, Tryz.ntmps189
  go_wp2
  go_ret
  exact ⟨by rw [HD.out]; rfl, rfl⟩

set_option maxRecDepth 100000 in
set_option maxHeartbeats 800000 in
theorem runhexR_any (l : B8) (w : World) (hl : l.length ≤ 3000000) :
  Calls Tryz.prog 156 #[S8 l] w (UnhexPost l w) := by
 have hd : (⟨l.toArray⟩ : ByteArray).toList = l := Lib.toList_data _
 by_cases hodd : l.length % 2 = 0
 ·obtain ⟨m, hm⟩ : ∃ m, l.length = 2 * m := ⟨l.length / 2, by omega⟩
  have hmod : (l.length : Int).tmod 2 = 0 := by
   rw [hm]
   exact Int.tmod_eq_zero_of_dvd ⟨(m : Int), by push_cast; rfl⟩
  have HM : Hid _ := hm
  clear hodd
  go_enter Tryz.func156, Tryz.ntmps156
  go_wp2
  clear hmod
  go_loopw [4, 5] (fun v i wr => ∃ (k : Nat) (bs : B8), 2 * k ≤ l.length ∧ i = .int .i64 (2 * k) ∧ bs.length = k ∧ Hid (unhexM (l.take (2 * k)) = some bs) ∧ wr.ownsRow w.heap.size 5 1 v k (bs.map fun x => .int .u8 x.toNat) ∧ Ext w wr) (fun _ i _ => l.length - (intOf i).toNat)
  case atStart => exact ⟨0, [], Nat.zero_le _, rfl, rfl, rfl, World.ownsRow_nil _ _ _ _, Ext.refl _⟩
  case round =>
   obtain ⟨k, bs, hk, rfl, hbl, HU, hown, hx⟩ := hrel
   have hm := HM.out
   by_cases hlt : 2 * k < l.length
   ·have hlt1 : 2 * k + 1 < l.length := by omega
    have hl1 : 2 * (k : Int) < (l.length : Int) := by omega
    have hl2 : (2 * (k : Int) + 1) < (l.length : Int) := by omega
    have hwr : IntKind.i64.wrap (2 * (k : Int) + 1) = 2 * (k : Int) + 1 := IntWalk.i64_in _ (by omega)
    have HW : Hid _ := hwr
    obtain ⟨x, hxe⟩ : ∃ x, l.getD (2 * k) 0 = x := ⟨_, rfl⟩
    obtain ⟨y, hye⟩ : ∃ y, l.getD (2 * k + 1) 0 = y := ⟨_, rfl⟩
    have HX : Hid _ := hxe
    have HY : Hid _ := hye
    obtain ⟨r, hr⟩ : ∃ r, digV x = r := ⟨_, rfl⟩
    obtain ⟨s, hs⟩ : ∃ s, digV y = s := ⟨_, rfl⟩
    have HRX : Hid _ := hr
    have HSY : Hid _ := hs
    have hrv := digV_M x
    have hsv := digV_M y
    rw [hr] at hrv
    rw [hs] at hsv
    have HRV : Hid _ := hrv
    have HSV : Hid _ := hsv
    clear hwr hm hxe hye hr hs hrv hsv
    go_wp2
    apply wp_region_mix 9 [_, _, .int .u8 x.toNat, .int .i64 r, _, _, _, .int .u8 y.toNat, .int .i64 s] [none, none, none, none, none, none, none, none, none] [[], [], [0, 1], [2], [], [], [5], [4, 6], [7]] (by kernel_rfl) (by kernel_rfl) (by simp [mixV])
    ·trivial
    ·simp (maxSteps := 1000000) only [List.take_succ_cons, List.take_zero, oblFrom, stepObl, fillFrom, Act.put, List.setIfInBounds_toArray, List.set_cons_zero, List.set_cons_succ, knows, getV, mixV, List.getD_cons_zero, List.getD_cons_succ, and_true, true_and, forall_const]
     refine ⟨?_, ?_, ?_, ?_, ?_, ?_, ?_, ?_, ?_⟩
     ·intro xs wq hq R hR
      go_simp
      exact hR _ _ (Ext.refl _) rfl
     ·intro xs wq hq R hR
      go_simp
      exact hR _ _ (Ext.refl _) rfl
     ·intro xs wq hq hk R hR
      obtain ⟨hk0, hk1⟩ := hk
      go_simp
      rw [dif_pos (by omega)]
      exact hR _ _ (Ext.refl _) (idx_val (by omega) HX.out (by show (2 * (k : Int)).toNat < l.length; omega))
     ·intro xs wq hq hk R hR
      go_simp
      exact (digit_any x _).mono (by rintro e w8 ⟨rfl, rfl⟩; exact ⟨_, rfl, hR _ _ (Ext.refl _) (by rw [HRX.out])⟩)
     ·intro xs wq hq R hR
      go_simp
      exact hR _ _ (Ext.refl _) rfl
     ·intro xs wq hq R hR
      go_simp
      exact hR _ _ (Ext.refl _) rfl
     ·intro xs wq hq hk R hR
      go_simp
      exact hR _ _ (Ext.refl _) rfl
     ·intro xs wq hq hk R hR
      obtain ⟨hk0, hk1⟩ := hk
      go_simp
      simp only [HW.out]
      rw [dif_pos ⟨by omega, by omega⟩]
      exact hR _ _ (Ext.refl _) (idx_val (by omega) HY.out (by show (2 * (k : Int) + 1).toNat < l.length; omega))
     ·intro xs wq hq hk R hR
      go_simp
      exact (digit_any y _).mono (by rintro e w8 ⟨rfl, rfl⟩; exact ⟨_, rfl, hR _ _ (Ext.refl _) (by rw [HSY.out])⟩)
    intro xs w2 hx2 hk
    simp only [heldV, Nat.zero_add, Nat.reduceAdd, and_true] at hk
    obtain ⟨q0, q1, q2, q3, q4, q5, q6, q7, q8⟩ := hk
    simp (maxSteps := 1000000) only [List.take_succ_cons, List.take_zero, List.drop_succ_cons, List.drop_zero, fillFrom, Act.put, List.setIfInBounds_toArray, List.set_cons_zero, List.set_cons_succ, Nat.zero_add, Nat.reduceAdd, q0, q1, q2, q3, q4, q5, q6, q7, q8]
    clear q0 q1 q2 q3 q4 q5 q6 q7 q8
    have hrv := HRV.out
    have hsv := HSV.out
    have hx2' := Ext.trans hx hx2
    by_cases hxd : digM x < 16
    ·rw [if_pos hxd] at hrv
     by_cases hyd : digM y < 16
     ·rw [if_pos hyd] at hsv
      obtain ⟨z, hz⟩ : ∃ z, UInt8.ofNat (16 * digM x + digM y) = z := ⟨_, rfl⟩
      have hzv : 16 * r + s = (z.toNat : Int) := by
       rw [hrv, hsv, ← hz]
       simp only [UInt8.toNat_ofNat']
       omega
      have hw3 : IntKind.i64.wrap (16 * r) = 16 * r := IntWalk.i64_in _ (by omega)
      have hw4 : IntKind.i64.wrap (16 * r + s) = 16 * r + s := IntWalk.i64_in _ (by omega)
      rw [hzv] at hw4
      have hz256 := z.toNat_lt
      have HZ : Hid _ := hz
      have hr0 : ¬ r < 0 := by omega
      have hs0 : ¬ s < 0 := by omega
      have hr16 : r < 16 := by omega
      have hs16 : s < 16 := by omega
      have HXD : Hid _ := hxd
      have HYD : Hid _ := hyd
      have hown2 := owns_ext hown hx2
      have hsz := hx2'.size
      clear hrv hsv hz hxd hyd hown
      go_wp2_with (at_builtin; go_must (refine app_u8 rfl _ _ rfl w.heap.size _ k _ rfl (hown2.alloc _) w2.heap.size 1 1 [z] rfl rfl (alloc_at _ _) (by omega) (by simp; omega) ?_; intro v' w3 hown3 hg3))
      go_roundw
      case rel => exact ⟨k + 1, bs ++ [z], by omega, by go_num, by simp [hbl], by unfold Hid; rw [(unhex_snoc hlt1 HX.out HY.out HU.out).2, if_pos ⟨HXD.out, HYD.out⟩, HZ.out], by simpa using hown3, owns_ext_app (hx2'.alloc _) (hown2.alloc _) hg3⟩
      case measure => simp [intOf]; omega
     ·rw [if_neg hyd] at hsv
      have HN : Hid _ := unhex_none hlt1 HX.out HY.out HU.out (fun h => hyd h.2)
      have hr0 : ¬ r < 0 := by omega
      have hs0 : s < 0 := by omega
      clear hrv hsv hxd hyd
      go_wp2
      go_ret2
      unfold UnhexPost
      rw [HN.out]
      exact ⟨rfl, hx2'⟩
    ·rw [if_neg hxd] at hrv
     have HN : Hid _ := unhex_none hlt1 HX.out HY.out HU.out (fun h => hxd h.1)
     have hr0 : r < 0 := by omega
     clear hrv hsv hxd
     go_wp2
     go_ret2
     unfold UnhexPost
     rw [HN.out]
     exact ⟨rfl, hx2'⟩
   ·have hg : ¬ (2 * (k : Int)) < (l.length : Int) := by omega
    have hlk : 2 * k = l.length := by omega
    have hu := HU.out
    rw [hlk, List.take_length] at hu
    have HUL : Hid _ := hu
    have hb : IsBytes wr u4 bs := by
     unfold IsBytes
     rw [hbl]
     exact Row.of_owns hown (by omega)
    have HBS : Hid _ := hb
    clear hb hown hu hlk hm
    go_wp2
    go_ret2
    unfold UnhexPost
    rw [HUL.out]
    exact ⟨⟨_, rfl, HBS.out⟩, hx⟩
 ·have ho : l.length % 2 = 1 := by omega
  have hmod : (l.length : Int).tmod 2 = 1 := by rw [Int.tmod_eq_emod_of_nonneg (by omega)]; omega
  have HN : Hid _ := unhex_odd ho
  clear hodd ho
  go_enter Tryz.func156, Tryz.ntmps156
  go_wp2
  go_ret2
  unfold UnhexPost
  rw [HN.out]
  exact ⟨rfl, Ext.refl _⟩

set_option maxRecDepth 100000 in
theorem rvalid_any (l : B8) (w : World) (hl : l.length ≤ 3000000) :
  Calls Tryz.prog 78 #[S8 l] w fun e w' => e = .returned (.bool (validB l)) ∧ Ext w w' := by
 go_enter Tryz.func78, Tryz.ntmps78
 go_wp2_with fail
 go_at_call 156
 refine (runhexR_any l w hl).mono ?_
 rintro e w1 ⟨h, hx⟩
 have HV : Hid (validB l = match unhexM l with | some b => b.length == 32 | none => false) := rfl
 cases hu : unhexM l with
 | none =>
  rw [hu] at h
  have HV2 : Hid (validB l = false) := by unfold Hid; rw [HV.out, hu]
  subst h
  clear hu HV
  go_wp2
  go_ret
  exact ⟨by rw [HV2.out]; rfl, hx⟩
 | some b =>
  rw [hu] at h
  obtain ⟨v, rfl, hb⟩ := h
  obtain ⟨s1, s2, rfl, -⟩ := id hb
  have hv : validB l = (b.length == 32) := by rw [HV.out, hu]
  have hlen := (unhex_len l hu).1
  have hbe : (((b.length : Nat) : Int) == 32) = validB l := by
   rw [hv]
   by_cases h32 : b.length = 32
   ·rw [h32]; rfl
   ·have h1 : (b.length == 32) = false := by simpa using h32
    rw [h1]
    simp only [beq_eq_false_iff_ne, ne_eq]
    omega
  have HBE : Hid _ := hbe
  clear hu HV hv hb hbe hlen
  go_wp2
  go_ret
  exact ⟨by rw [← HBE.out]; rfl, hx⟩

end Go.Proofs.YtfimfbdlegookaaGreatDoor

/-! A region that draws its order and whose operations write: what holds of the world is said of each set of those operations that have been done. Conditions: each operation of the head goes on from each such set. -/
namespace Go.Proofs.YtfimfbdlegookaaGreatDoor
open Go Go.RowKit

def getP (V : List (Value → Prop)) (k : Nat) : Value → Prop := V.getD k (fun _ => True)
/-- What the marked operations have handed back so far. -/
def zOf (K : List Bool) (listed : Array Bool) (xs : Nat → Value) : Nat → Option Value := fun j => if K.getD j false && listed.getD j false then some (xs j) else none
def zAll (K : List Bool) (xs : Nat → Value) : Nat → Option Value := fun j => if K.getD j false then some (xs j) else none
def zSet (z : Nat → Option Value) (k : Nat) (u : Value) : Nat → Option Value := fun j => if j = k then some u else z j
def knowsI (K : List Bool) (V : List (Value → Prop)) (z : Nat → Option Value) (xs : Nat → Value) : List Nat → Prop
 | [] => True
 | j :: l => (if K.getD j false then z j = some (xs j) else getP V j (xs j)) ∧ knowsI K V z xs l
theorem knowsI_of {K : List Bool} {V : List (Value → Prop)} {z : Nat → Option Value} {xs : Nat → Value} : ∀ {l : List Nat}, (∀ j ∈ l, if K.getD j false then z j = some (xs j) else getP V j (xs j)) → knowsI K V z xs l
 | [], _ => trivial
 | j :: l, h => ⟨h j (by simp), knowsI_of fun i hi => h i (by simp [hi])⟩

section
variable {P : Program} {J : (Nat → Option Value) → World → Prop}
def stepI (P : Program) (J : (Nat → Option Value) → World → Prop) (ops : Array Oper) (K : List Bool) (V : List (Value → Prop)) (head : List Oper) (a0 : Act) (k : Nat) (d : List Nat) (o : Oper) : Bool → Prop
 | true => ∀ (xs : Nat → Value) (z : Nat → Option Value) (w : World), J z w → z k = none → knowsI K V z xs d → ∀ R : Value → World → Prop, (∀ u w', J (zSet z k u) w' → R u w') →
  if Region.wanted o (yielded ops (fillFrom xs head 0 a0).tmps) then relUpon P R ((execOp (fillFrom xs head 0 a0).eval o).run P w) else R undef w
 | false => ∀ (xs : Nat → Value) (z : Nat → Option Value) (w : World), J z w → knowsI K V z xs d → ∀ R : Value → World → Prop, (∀ u w', J z w' → getP V k u → R u w') →
  if Region.wanted o (yielded ops (fillFrom xs head 0 a0).tmps) then relUpon P R ((execOp (fillFrom xs head 0 a0).eval o).run P w) else R undef w
def oblI (P : Program) (J : (Nat → Option Value) → World → Prop) (ops : Array Oper) (K : List Bool) (V : List (Value → Prop)) (D : List (List Nat)) (head : List Oper) (a0 : Act) : List Oper → List Bool → Nat → Prop
 | [], _, _ => True
 | _ :: _, [], _ => False
 | o :: l, b :: ks, k => stepI P J ops K V head a0 k (D.getD k []) o b ∧ oblI P J ops K V D head a0 l ks (k + 1)
theorem oblI_get {ops : Array Oper} {K : List Bool} {V : List (Value → Prop)} {D : List (List Nat)} {head : List Oper} {a0 : Act} :
  ∀ {l : List Oper} {ks : List Bool} {k : Nat}, oblI P J ops K V D head a0 l ks k → ∀ i o, l[i]? = some o → stepI P J ops K V head a0 (k + i) (D.getD (k + i) []) o (ks.getD i false)
 | [], _, _, _, i, o, h => by simp at h
 | _ :: _, [], _, h, _, _, _ => h.elim
 | p :: l, b :: ks, k, h, 0, o, ho => by
  have : p = o := by simpa using ho
  subst this
  simpa using h.1
 | p :: l, b :: ks, k, h, i + 1, o, ho => by
  have := oblI_get h.2 i o (by simpa using ho)
  rw [show k + 1 + i = k + (i + 1) by omega] at this
  simpa using this

structure IInv (J : (Nat → Option Value) → World → Prop) (ops : Array Oper) (n : Nat) (K : List Bool) (V : List (Value → Prop)) (a0 : Act) (listed : Array Bool) (a : Act) (w : World) : Prop where
 head : HeadInv .any ops n listed
 fill : ∃ xs : Nat → Value, a = fillFrom xs (ops.toList.take n) 0 a0 ∧ J (zOf K listed xs) w ∧ ∀ j, j < n → listed.getD j false = true → K.getD j false = false → getP V j (xs j)

theorem wpAny_inv {ops : Array Oper} {n : Nat} {K : List Bool} {V : List (Value → Prop)} {D : List (List Nat)} {a0 : Act} {Q : Exit → Act → World → Prop} (hK : K.length = n)
  (hB : relB ops n D = true) (hs : oblI P J ops K V D (ops.toList.take n) a0 (ops.toList.take n) K 0)
  (hQ : ∀ xs w, J (zAll K xs) w → (∀ j, j < n → K.getD j false = false → getP V j (xs j)) → wpList P ops Q (ops.toList.drop n) (fillFrom xs (ops.toList.take n) 0 a0) w) :
  ∀ (f : Nat) (listed : Array Bool) (a : Act) (w : World), left n listed = f → IInv J ops n K V a0 listed a w → wpAny P .any ops Q (f + (ops.size - n)) listed a w := by
 simp only [relB, Bool.and_eq_true, Bool.or_eq_true, decide_eq_true_eq] at hB
 obtain ⟨⟨⟨⟨⟨hn, hback⟩, hdeps⟩, hnd⟩, htail⟩, hseq⟩ := hB
 intro f
 induction f with
 | zero =>
  intro listed a w hl inv
  have hall := left_zero hl
  have hall2 : ∀ j, j < n → listed.getD j false = true := fun j hj => by
   have := hall j hj
   rwa [getD_of_size (by rw [inv.head.size]; omega) true false] at this
  have harr : listed = headArr ops.size n := by
   apply Array.ext_getElem?
   intro i
   have hsz := inv.head.size
   unfold headArr
   by_cases h1 : i < n
   ·have := hall i h1
    have hi : i < listed.size := by omega
    simp only [hi, Array.getD_eq_getD_getElem?, Array.getElem?_eq_getElem, Option.getD_some] at this
    rw [Array.getElem?_append_left (by simpa using h1)]
    simp [hi, h1, this]
   ·by_cases h2 : i < ops.size
    ·have := inv.head.tail i (by omega) h2
     have hi : i < listed.size := by omega
     simp only [hi, Array.getD_eq_getD_getElem?, Array.getElem?_eq_getElem, Option.getD_some] at this
     rw [Array.getElem?_append_right (by simpa using h1)]
     simp only [hi, Array.getElem?_eq_getElem, this]
     rw [Array.getElem?_replicate, if_pos (by simp; omega)]
    ·rw [Array.getElem?_eq_none (by omega), Array.getElem?_eq_none (by simp; omega)]
  obtain ⟨xs, ha, hj, hx⟩ := inv.fill
  have hz : zOf K listed xs = zAll K xs := by
   funext j
   unfold zOf zAll
   by_cases hjn : j < n
   ·rw [hall2 j hjn, Bool.and_true]
   ·have : K.getD j false = false := by
     rw [List.getD_eq_getElem?_getD, List.getElem?_eq_none (by omega)]; rfl
    rw [this, Bool.false_and]
  rw [hz] at hj
  have := hQ xs w hj (fun j hjn hkj => hx j hjn (hall2 j hjn) hkj)
  rw [← ha] at this
  rw [Nat.zero_add]
  have h2 := wpAny_of_seq (md := .any) (Q' := Q) (ops.toList.drop n) n listed a w (fun j => by simp [List.getElem?_drop]) (by rw [harr]; simpa using hseq) this
  simpa using h2
 | succ f ih =>
  intro listed a w hl inv
  rw [show f + 1 + (ops.size - n) = (f + (ops.size - n)) + 1 by omega]
  -- one of the head is yet to come
  have hex : ∃ i, i < n ∧ listed.getD i true = false := by
   have h1 : 0 < ((List.range n).filter fun i => !listed.getD i true).length := by unfold left at hl; omega
   obtain ⟨i, hi⟩ := List.exists_mem_of_length_pos h1
   simp only [List.mem_filter, List.mem_range] at hi
   exact ⟨i, hi.1, by simpa using hi.2⟩
  have hready : ∃ i, i < n ∧ i ∈ Region.ready .any ops listed := by
   obtain ⟨i, hi, hu⟩ := hex
   revert hi hu
   induction i using Nat.strongRecOn with
   | _ i ihh =>
    intro hi hu
    have hlt : i < ops.size := by omega
    by_cases hr : i ∈ Region.ready .any ops listed
    ·exact ⟨i, hi, hr⟩
    ·have ho : ops[i]? = some ops[i] := Array.getElem?_eq_getElem hlt
     have hb := List.all_eq_true.1 hback i (List.mem_range.2 hlt)
     rw [ho] at hb
     simp only [Option.map_some, Option.getD_some] at hb
     have : ∃ e ∈ ops[i].after, Region.binds .any e = true ∧ listed.getD e.on false = false := by
      apply Classical.byContradiction
      intro hno
      apply hr
      rw [mem_ready]
      refine ⟨hu, ops[i], ho, fun e he hbd => ?_⟩
      cases hq : listed.getD e.on false with
      | true => rfl
      | false => exact absurd ⟨e, he, hbd, hq⟩ hno
     obtain ⟨e, he, hbd, hq⟩ := this
     have hlt2 := Array.all_eq_true'.1 hb e he
     simp only [hbd, Bool.not_true, Bool.false_or, decide_eq_true_eq] at hlt2
     exact ihh e.on hlt2 (by omega) (getD_in (by rw [inv.head.size]; omega) hq)
  refine ⟨fun h0 => ?_, fun i hi => ?_⟩
  ·obtain ⟨i, _, hr⟩ := hready
   rw [h0] at hr; cases hr
  ·have hin : i < n := by
    rcases Nat.lt_or_ge i n with h | h
    ·exact h
    ·exfalso
     rcases htail with h2 | ⟨⟨hlt, hsk⟩, hch⟩
     ·obtain ⟨_, o, ho, _⟩ := mem_ready.1 hi
      have := (Array.getElem?_eq_some_iff.1 ho).1
      omega
     ·obtain ⟨j, hj, hu⟩ := hex
      exact tail_waits hsk hch hlt inv.head _ j rfl hj hu i h hi
   obtain ⟨hu, o, ho, hw⟩ := mem_ready.1 hi
   obtain ⟨xs, ha, hj, hx⟩ := inv.fill
   have hoi : (ops.toList.take n)[i]? = some o := by simp [hin, ho]
   have hst := oblI_get hs i o hoi
   rw [Nat.zero_add] at hst
   have hui : listed.getD i false = false := getD_both hu
   have hkn : knowsI K V (zOf K listed xs) xs (D.getD i []) := knowsI_of fun j hj => by
    have h1 := List.all_eq_true.1 hdeps i (List.mem_range.2 (by omega))
    have h2 := List.all_eq_true.1 h1 j hj
    obtain ⟨o', ho', e, he, hb, hon⟩ := Region.waitsFor_spec h2
    have : o' = o := Option.some.inj (ho'.symm.trans ho)
    subst this
    have h3 := hw e he hb
    rw [hon] at h3
    have hjn : j < n := by
     have hb1 := List.all_eq_true.1 hback i (List.mem_range.2 (by omega))
     rw [ho] at hb1
     simp only [Option.map_some, Option.getD_some] at hb1
     have h4 := Array.all_eq_true'.1 hb1 e he
     simp only [hb, Bool.not_true, Bool.false_or, decide_eq_true_eq] at h4
     omega
    cases hkj : K.getD j false with
    | true => simp only [if_true, zOf, hkj, h3, Bool.and_self]
    | false => simpa using hx j hjn h3 hkj
   have hnext : ∀ u w', J (zOf K (listed.setIfInBounds i true) (upd xs i u)) w' → (K.getD i false = false → getP V i u) → wpAny P .any ops Q (f + (ops.size - n)) (listed.setIfInBounds i true) (a.put o.dst u) w' := fun u w' h1 h2 => by
    refine ih (listed.setIfInBounds i true) (a.put o.dst u) w' ?_ ⟨inv.head.set hi hin, upd xs i u, ?_, h1, ?_⟩
    ·have := left_set hin hu
     omega
    ·rw [ha, fill_put xs u (ops.toList.take n) 0 i a0 o hnd hoi, Nat.zero_add]
    ·intro j hjn hlj hkj
     by_cases hji : j = i
     ·subst hji; simpa [upd] using h2 hkj
     ·rw [getD_set_ne false (Ne.symm hji)] at hlj
      simp only [upd, hji, if_false]
      exact hx j hjn hlj hkj
   have hisz : i < listed.size := by
    obtain ⟨hi2, _⟩ := Array.getElem?_eq_some_iff.1 ho
    rw [inv.head.size]; exact hi2
   have hself : (listed.setIfInBounds i true).getD i false = true := by simp [hisz]
   cases hki : K.getD i false with
   | true =>
    rw [hki] at hst
    have hz0 : zOf K listed xs i = none := by simp only [zOf, hui, Bool.and_false, Bool.false_eq_true, if_false]
    have hzz : ∀ u, zOf K (listed.setIfInBounds i true) (upd xs i u) = zSet (zOf K listed xs) i u := fun u => by
     funext j
     by_cases hji : j = i
     ·subst hji; simp only [zOf, zSet, hki, hself, Bool.and_self, if_true, upd]
     ·simp only [zOf, zSet, hji, if_false, upd, getD_set_ne false (Ne.symm hji)]
    have hstep := hst xs _ w hj hz0 hkn (fun u w' => J (zSet (zOf K listed xs) i u) w') (fun u w' h => h)
    rw [← ha] at hstep
    have hres := wp_of_rel (P := P) (ops := ops) (Q := Q) (K := wpAny P .any ops Q (f + (ops.size - n)) (listed.setIfInBounds i true)) (fun u w' h => hnext u w' (by rw [hzz]; exact h) (fun h => by rw [hki] at h; cases h)) hstep
    unfold wpOp
    simp only [ho]
    exact hres
   | false =>
    rw [hki] at hst
    have hzz : ∀ u, zOf K (listed.setIfInBounds i true) (upd xs i u) = zOf K listed xs := fun u => by
     funext j
     by_cases hji : j = i
     ·subst hji; simp only [zOf, hki, Bool.false_and, Bool.false_eq_true, if_false]
     ·simp only [zOf, hji, if_false, upd, getD_set_ne false (Ne.symm hji)]
    have hstep := hst xs _ w hj hkn (fun u w' => J (zOf K listed xs) w' ∧ getP V i u) (fun u w' h h2 => ⟨h, h2⟩)
    rw [← ha] at hstep
    have hres := wp_of_rel (P := P) (ops := ops) (Q := Q) (K := wpAny P .any ops Q (f + (ops.size - n)) (listed.setIfInBounds i true)) (fun u w' h => hnext u w' (by rw [hzz]; exact h.1) (fun _ => h.2)) hstep
    unfold wpOp
    simp only [ho]
    exact hres

/-- Of each operation that is not marked: a value ('none': the one of the list), or what is known of it. -/
def mixP : List Value → List (Option (Value → Prop)) → List (Value → Prop)
 | c :: cs, none :: l => (fun u => u = c) :: mixP cs l
 | _ :: cs, some V :: l => V :: mixP cs l
 | _, _ => []
def heldI : List Bool → List Value → List (Option (Value → Prop)) → Nat → (Nat → Value) → Prop
 | true :: ks, _ :: cs, _ :: l, k, xs => heldI ks cs l (k + 1) xs
 | false :: ks, c :: cs, none :: l, k, xs => xs k = c ∧ heldI ks cs l (k + 1) xs
 | false :: ks, _ :: cs, some V :: l, k, xs => V (xs k) ∧ heldI ks cs l (k + 1) xs
 | _, _, _, _, _ => True
theorem heldI_of (xs : Nat → Value) : ∀ (ks : List Bool) (cs : List Value) (l : List (Option (Value → Prop))) (k : Nat), (∀ j, j < ks.length → ks.getD j false = false → getP (mixP cs l) j (xs (k + j))) → heldI ks cs l k xs := by
 intro ks
 induction ks with
 | nil => intro cs l k _; simp [heldI]
 | cons b ks ih =>
  intro cs l k h
  cases cs with
  | nil => cases b <;> simp [heldI]
  | cons c cs =>
   cases l with
   | nil => cases b <;> simp [heldI]
   | cons o l =>
    have hr : heldI ks cs l (k + 1) xs := ih cs l (k + 1) fun j hj hk => by
     have := h (j + 1) (by simp; omega) (by simpa using hk)
     rw [show k + (j + 1) = k + 1 + j by omega] at this
     cases o <;> simpa [getP, mixP] using this
    cases b with
    | true => simpa [heldI] using hr
    | false =>
     have h0 := h 0 (by simp) (by simp)
     cases o with
     | none => exact ⟨by simpa [getP, mixP] using h0, hr⟩
     | some V => exact ⟨by simpa [getP, mixP] using h0, hr⟩

/-- A region that draws its order: its head by each operation alone, its tail in the text's order. -/
theorem wp_region_inv {id : Nat} {Q : Exit → Act → World → Prop} {a : Act} {w : World} {l : List Oper} (n : Nat) (J : (Nat → Option Value) → World → Prop) (K : List Bool) (cs : List Value) (W : List (Option (Value → Prop))) (D : List (List Nat))
  (hm : P.follows .mixedOrders = true) (hB : relB l.toArray n D = true) (hK : K.length = n) (hJ : J (fun _ => none) { w with drawn := w.drawn + 1 })
  (hs : oblI P J l.toArray K (mixP cs W) D (l.take n) a (l.take n) K 0)
  (hQ : ∀ xs w', J (zAll K xs) w' → heldI K cs W 0 xs → wpList P l.toArray Q (l.drop n) (fillFrom xs (l.take n) 0 a) w') :
  (Code.region id l.toArray true).wp P Q a w := by
 refine wp_region_any hm ?_
 have hn : n ≤ l.toArray.size := by
  simp only [relB, Bool.and_eq_true, decide_eq_true_eq] at hB
  exact hB.1.1.1.1.1
 obtain ⟨xs0, h0⟩ := fill_self (l.take n) 0 a
 have hl : left n (Array.replicate l.toArray.size false) = n := by
  unfold left
  rw [List.filter_eq_self.2]
  ·simp
  ·intro i hi
   have : i < l.toArray.size := by have := List.mem_range.1 hi; omega
   simp at this
   simp [this]
 have hz0 : zOf K (Array.replicate l.toArray.size false) xs0 = fun _ => none := by
  funext j
  unfold zOf
  rw [getD_replicate_false, Bool.and_false]
  rfl
 have H := wpAny_inv (P := P) (J := J) (Q := Q) (a0 := a) hK hB (by simpa using hs) (by
   intro xs w' h1 h2
   have := hQ xs w' h1 (heldI_of xs K cs W 0 fun j hj hk => by rw [Nat.zero_add]; exact h2 j (by omega) hk)
   simpa using this) n (Array.replicate l.toArray.size false) a { w with drawn := w.drawn + 1 } hl
  ⟨⟨by simp, fun j oj _ hl => (by rw [getD_replicate_false] at hl; cases hl), fun t _ ht => getD_in (by simpa using ht) (getD_replicate_false _ _)⟩,
   xs0, by simpa using (h0 xs0 (fun _ _ => rfl)).symm, by rw [hz0]; exact hJ, fun j _ hl => (by rw [getD_replicate_false] at hl; cases hl)⟩
 rw [show n + (l.toArray.size - n) = l.toArray.size by omega] at H
 exact H
end

end Go.Proofs.YtfimfbdlegookaaGreatDoor

/-! marref5: without, with: lists of files in new blocks. Conditions: at most 1000000 files; short paths. -/
namespace Go.Proofs.YtfimfbdlegookaaGreatDoor
open Go Go.RowKit

theorem info_row : (Tryz.prog.info? 182).map (fun i => (i.zero, i.size, i.bytes)) = some (some (.agg #[S8 [], .int .i64 0, .slice none 0 0, .int .i64 0]), 4, 56) := by kernel_rfl

/-- Rows in a new block. -/
def OwnRows (base : Nat) (R : Nat → Prop) (w : World) (v : Value) (l : Files) : Prop := ∃ css : List (List Value), w.ownsRow base 182 4 v l.length css.flatten ∧ Each (IsRowR R w) css l
theorem OwnRows.rows {base : Nat} {R : Nat → Prop} {w : World} {v : Value} {l : Files} (h : OwnRows base R w v l) (hl : l.length ≤ 10000000) : IsRows R w v l := by
 obtain ⟨css, h1, h2⟩ := h
 exact ⟨css, Row.of_owns h1 (by omega), Typed.of_owns h1, h2⟩
theorem OwnRows.lt {base : Nat} {R : Nat → Prop} {w : World} {v : Value} {l : Files} (h : OwnRows base R w v l) {k : Nat} (hk : v.ownBlock = some k) : base ≤ k ∧ k < w.heap.size := by
 obtain ⟨css, h1, h2⟩ := h
 exact h1.lt k hk
theorem Each.len {α : Type} {p : List Value → α → Prop} {css : List (List Value)} {xs : List α} (h : Each p css xs) {n : Nat} (hp : ∀ c x, p c x → c.length = n) : ∀ c ∈ css, c.length = n := fun c hc => by
 obtain ⟨i, hi, rfl⟩ := List.mem_iff_getElem.1 hc
 have hi2 : i < xs.length := by rw [← h.1]; exact hi
 exact hp _ _ (h.2 i css[i] xs[i] (List.getElem?_eq_getElem hi) (List.getElem?_eq_getElem hi2))
theorem flat_len {n : Nat} : ∀ {css : List (List Value)}, (∀ c ∈ css, c.length = n) → css.flatten.length = css.length * n
 | [], _ => by simp
 | c :: css, h => by
  rw [List.flatten_cons, List.length_append, h c (by simp), flat_len (fun c hc => h c (by simp [hc])), List.length_cons, Nat.add_mul]
  omega
theorem Each.one {α : Type} {p : List Value → α → Prop} {css : List (List Value)} {xs : List α} (h : Each p css xs) (hp : ∀ c x, p c x → c.all (·.oneCell') = true) : ∀ u ∈ css.flatten, u.oneCell' = true := fun u hu => by
 obtain ⟨c, hc, hu⟩ := List.mem_flatten.1 hu
 obtain ⟨i, hi, rfl⟩ := List.mem_iff_getElem.1 hc
 have hi2 : i < xs.length := by rw [← h.1]; exact hi
 exact List.all_eq_true.1 (hp _ _ (h.2 i css[i] xs[i] (List.getElem?_eq_getElem hi) (List.getElem?_eq_getElem hi2))) u hu
theorem Each.take {α : Type} {p : List Value → α → Prop} {css : List (List Value)} {xs : List α} (h : Each p css xs) (k : Nat) : Each p (css.take k) (xs.take k) := by
 refine ⟨by simp [h.1], fun i c x hc hx => ?_⟩
 rw [List.getElem?_take] at hc hx
 split at hc
 ·rename_i hi
  rw [if_pos hi] at hx
  exact h.2 i c x hc hx
 ·cases hc
theorem Each.drop {α : Type} {p : List Value → α → Prop} {css : List (List Value)} {xs : List α} (h : Each p css xs) (k : Nat) : Each p (css.drop k) (xs.drop k) := by
 refine ⟨by simp [h.1], fun i c x hc hx => ?_⟩
 rw [List.getElem?_drop] at hc hx
 exact h.2 _ c x hc hx
theorem Each.append {α : Type} {p : List Value → α → Prop} {css ds : List (List Value)} {xs ys : List α} (h : Each p css xs) (k : Each p ds ys) : Each p (css ++ ds) (xs ++ ys) := by
 refine ⟨by simp [h.1, k.1], fun i c x hc hx => ?_⟩
 rw [List.getElem?_append] at hc hx
 by_cases hi : i < css.length
 ·rw [if_pos hi] at hc
  rw [if_pos (by rw [← h.1]; exact hi)] at hx
  exact h.2 i c x hc hx
 ·rw [if_neg hi] at hc
  rw [if_neg (by rw [← h.1]; exact hi)] at hx
  rw [← h.1] at hx
  exact k.2 _ c x hc hx
theorem flat_take {n : Nat} : ∀ {css : List (List Value)} (k : Nat), (∀ c ∈ css, c.length = n) → css.flatten.take (k * n) = (css.take k).flatten
 | css, 0, _ => by simp
 | [], k + 1, _ => by simp
 | c :: css, k + 1, h => by
  have hc := h c (by simp)
  rw [List.flatten_cons, List.take_succ_cons, List.flatten_cons, List.take_append, ← flat_take k (fun c hc => h c (by simp [hc]))]
  rw [List.take_of_length_le (by rw [hc, Nat.add_mul]; omega), hc, show (k + 1) * n - n = k * n by rw [Nat.add_mul]; omega]
theorem flat_drop {n : Nat} : ∀ {css : List (List Value)} (k : Nat), (∀ c ∈ css, c.length = n) → css.flatten.drop (k * n) = (css.drop k).flatten
 | css, 0, _ => by simp
 | [], k + 1, _ => by simp
 | c :: css, k + 1, h => by
  have hc := h c (by simp)
  rw [List.flatten_cons, List.drop_succ_cons, List.drop_append, ← flat_drop k (fun c hc => h c (by simp [hc]))]
  rw [List.drop_of_length_le (by rw [hc, Nat.add_mul]; omega), hc, show (k + 1) * n - n = k * n by rw [Nat.add_mul]; omega, List.nil_append]

section
variable {ops : Array Oper} {rest : List Oper} {o : Oper} {a : Act} {Q : Exit → Act → World → Prop} {w : World}
/-- append of one row. -/
theorem app_row (hgd : o.guard = none) (s x : Operand) (ho : o.op = .call { callee := .builtin .append, args := #[s, x], argTypes := #[129, 129] })
  (base : Nat) (v : Value) (n : Nat) (xs : List Value) (hs : a.eval s = v) (hown : w.ownsRow base 182 4 v n xs)
  (g c : Nat) (news : List Value) (hx : a.eval x = .slice (some ⟨g, 0, none⟩) 1 c) (hl : news.length = 4) {fr : Nat × Nat} (hg : w.heap[g]? = some (.cells news.toArray 182 fr)) (h1 : news.all (·.oneCell') = true)
  (hb : n ≤ 10000000) (hbase : base ≤ w.heap.size)
  (h : ∀ v' w', w'.ownsRow base 182 4 v' (n + 1) (xs ++ news) → w.grownBy w' v.ownBlock → wpList Tryz.prog ops Q rest (a.put o.dst v') w') : wpList Tryz.prog ops Q (o :: rest) a w :=
 app_any _ _ _ 4 56 Tryz.underlying129 info_row rfl (by omega) hgd s x ho base v n _ hs hown ⟨g, 0, none⟩ 1 c _ hx (by simpa using hl) (by simpa using news_of_block hg) (fun u hu => List.all_eq_true.1 h1 u hu) (by omega) (by omega) hbase
  (fun v' w' h1 h2 _ => h v' w' h1 h2)
end
/-- append of rows, of whatever slice. -/
theorem app_rows_run {w : World} (base : Nat) (v : Value) (n : Nat) (xs : List Value) (hown : w.ownsRow base 182 4 v n xs) (x : Value) (m : Nat) (news : List Value) (hx : Row w x m news) (hl : news.length = m * 4) (h1 : ∀ u ∈ news, u.oneCell' = true) (hb : n + m ≤ 1000000000) (hbase : base ≤ w.heap.size) :
  ∃ v' w', (Builtin.append_ #[129, 129] 129 #[v, x]).run Tryz.prog w = .ok v' w' ∧ w'.ownsRow base 182 4 v' (n + m) (xs ++ news) ∧ w.grownBy w' v.ownBlock ∧ (v'.ownBlock = v.ownBlock ∨ v'.ownBlock = some w.heap.size) := by
 obtain ⟨i0, hi, hz0, hz1, hz2⟩ := info_parts info_row
 obtain ⟨a, cap, rfl, k1, k2, k3, k4⟩ := hx
 cases a with
 | none =>
  have hn : news = [] := by
   cases news with
   | nil => rfl
   | cons y l => obtain ⟨b, o, he, _⟩ := k4 (by simp); cases he
  subst hn
  have hm : m = 0 := by simp at hl; omega
  subst hm
  obtain ⟨vb, vn, vc, rfl, hle⟩ : ∃ vb vn vc, v = .slice vb n vc ∧ n ≤ vc ∧ vn = n := by
   rcases hown.2 with ⟨rfl, h0⟩ | ⟨g, c, cur, rfl, _, _, hc, _⟩
   ·exact ⟨none, n, 0, by rw [h0], by omega, rfl⟩
   ·exact ⟨_, n, c, rfl, hc, rfl⟩
  refine ⟨_, w, run_append_nothing w _ _ _ _ i0 Tryz.underlying129 hi vb n vc hle.1 _ (Src.ofNil w Tryz.underlying129 cap), by simpa using hown, ⟨rfl, rfl, rfl, Nat.le_refl _, fun _ _ _ => rfl⟩, .inl rfl⟩
 | some ad =>
  have hnews : ∀ j u, news[j]? = some u → w.cell? (ad.add j) = some u := fun j u hu => by
   obtain ⟨b, o, he, hc⟩ := k4 (by rintro rfl; simp at hu)
   cases he
   have hadd : (⟨b, o, none⟩ : Addr).add j = ⟨b, o + j, none⟩ := by unfold Addr.add; split <;> simp_all
   rw [hadd]
   exact hc j u hu
  obtain ⟨v', w', h2, h3, h4, _, h5⟩ := run_append_own_at (P := Tryz.prog) w base 129 129 182 i0 _ 4 56 Tryz.underlying129 hi hz0 hz1 hz2 rfl (by omega) v n xs hown ad m cap news hl hnews h1 (by unfold maxLen; omega) (by omega) hbase
  exact ⟨v', w', h2, h3, h4, h5⟩

set_option maxRecDepth 100000 in
set_option maxHeartbeats 1000000 in
theorem without_any {R : Nat → Prop} {w : World} {v : Value} {l : Files} (p : B8) (hv : IsRows R w v l) (hl : l.length ≤ 1000000) :
  Calls Tryz.prog 192 #[v, S8 p] w fun e w' => (∃ v', e = .returned v' ∧ OwnRows w.heap.size R w' v' (delF l p)) ∧ Ext w w' := by
 obtain ⟨a, cap, rfl, h1, h2, h3, h4⟩ := rows_get hv
 have H4 : Hid _ := h4
 have htp := tl p
 clear h4 hv
 go_enter Tryz.func192, Tryz.ntmps192
 go_wp2
 go_loopw [5, 6] (fun out i wr => ∃ (k n : Nat) (css : List (List Value)), k ≤ l.length ∧ i = .int .i64 k ∧ (delF (l.take k) p).length = n ∧ n ≤ k ∧ wr.ownsRow w.heap.size 182 4 out n css.flatten ∧ Each (IsRowR R w) css (delF (l.take k) p) ∧ Ext w wr) (fun _ i _ => l.length - (intOf i).toNat)
 case atStart => exact ⟨0, 0, [], Nat.zero_le _, rfl, rfl, Nat.le_refl _, World.ownsRow_nil _ _ _ _, Each.nil _, Ext.refl _⟩
 case round =>
  obtain ⟨k, n, css, hk, rfl, hn, hnk, hown, heach, hx⟩ := hrel
  have HN : Hid _ := hn
  have HE : Hid _ := heach
  clear hn heach
  by_cases hlt : k < l.length
  ·obtain ⟨⟨q, f⟩, hke⟩ : ∃ e, l[k]? = some e := ⟨_, List.getElem?_eq_getElem hlt⟩
   obtain ⟨b, o, s, c, rfl, hql, hd, c0, c1, c2, c3⟩ := H4.out k q f hke
   replace c0 := hx.cell c0
   replace c1 := hx.cell c1
   replace c2 := hx.cell c2
   replace c3 := hx.cell c3
   have HD : Hid _ := delF_snoc (p := p) hke
   have HR : Hid (IsRowR R w [S8 q, .int .i64 f.mode, .slice s f.data.length c, .int .i64 f.time] (q, f)) := ⟨hql, _, rfl, hd⟩
   have htq := tl q
   have hsz := hx.size
   clear hd hke
   obtain ⟨bq, hbq⟩ : ∃ bq, (q == p) = bq := ⟨_, rfl⟩
   cases bq with
   | true =>
    have HQ : Hid (q = p) := by simpa [Hid] using hbq
    go_wp2
    go_roundw
    case rel => exact ⟨k + 1, n, css, by omega, by go_num, by rw [HD.out, if_pos HQ.out]; exact HN.out, by omega, hown, by rw [HD.out, if_pos HQ.out]; exact HE.out, hx⟩
    case measure => simp [intOf]; omega
   | false =>
    have HQ : Hid (q ≠ p) := by simpa [Hid] using hbq
    go_wp2_with (at_builtin; go_must (refine app_row rfl _ _ rfl w.heap.size _ n _ rfl (hown.alloc _) wr.heap.size 1 [S8 q, .int .i64 f.mode, .slice s f.data.length c, .int .i64 f.time] rfl rfl (alloc_at _ _) (by simp [Value.oneCell']) (by omega) (by simp; omega) ?_; intro v' w3 hown3 hg3))
    go_roundw
    case rel =>
     refine ⟨k + 1, n + 1, css ++ [[S8 q, .int .i64 f.mode, .slice s f.data.length c, .int .i64 f.time]], by omega, by go_num, by rw [HD.out, if_neg HQ.out, List.length_append, HN.out]; rfl, by omega, ?_, by rw [HD.out, if_neg HQ.out]; exact Each.snoc HE.out HR.out, owns_ext_app (hx.alloc _) (hown.alloc _) hg3⟩
     rw [List.flatten_append]
     simpa using hown3
    case measure => simp [intOf]; omega
  ·have hkk : k = l.length := by omega
   subst hkk
   have hres : OwnRows w.heap.size R wr u5 (delF l p) := by
    have hn := HN.out
    have he := HE.out
    rw [List.take_length] at hn he
    exact ⟨css, by rw [hn]; exact hown, Each.imp he (fun c x hc => IsRowR.keepR hc (KeepR.of_keep (KeepB.of_ext hx)))⟩
   have HRES : Hid _ := hres
   clear hres hown
   go_wp2
   go_ret
   exact ⟨⟨_, rfl, HRES.out⟩, hx⟩

end Go.Proofs.YtfimfbdlegookaaGreatDoor

/-! marref5: with: a file put in its place, in a new list. Conditions: at most 1000000 files; short paths. -/
namespace Go.Proofs.YtfimfbdlegookaaGreatDoor
open Go Go.RowKit

/-- What holds while the three appends are done, of which have been done. -/
structure WithJ (w0 : World) (nA nC : Nat) (A rowc C : List Value) (z0 z4 z8 z9 z13 : Option Value) (w : World) : Prop where
 ext : Ext w0 w
 o13 : z13 ≠ none → z9 ≠ none
 o9 : z9 ≠ none → z4 ≠ none ∧ z8 ≠ none
 f13 : ∀ v, z13 = some v → w.ownsRow w0.heap.size 182 4 v (nA + 1 + nC) (A ++ rowc ++ C)
 f9 : z13 = none → ∀ v, z9 = some v → w.ownsRow w0.heap.size 182 4 v (nA + 1) (A ++ rowc)
 f4 : z9 = none → ∀ v, z4 = some v → w.ownsRow w0.heap.size 182 4 v nA A
 f8 : z9 = none → ∀ v, z8 = some v → ∃ g, v = .slice (some ⟨g, 0, none⟩) 1 1 ∧ w.heap[g]? = some (.cells rowc.toArray 182 (0, 0))
 f0 : z4 = none → ∀ v, z0 = some v → ∃ g, v = .slice (some ⟨g, 0, none⟩) 0 0 ∧ w.heap[g]? = some (.cells #[] 182 (0, 0)) ∧ w0.heap.size ≤ g

section
variable {w0 : World} {nA nC : Nat} {A rowc C : List Value} {z0 z4 z8 z9 z13 : Option Value} {w w' : World} {u : Value}
theorem WithJ.more (h : WithJ w0 nA nC A rowc C z0 z4 z8 z9 z13 w) (hx : Ext w w') : WithJ w0 nA nC A rowc C z0 z4 z8 z9 z13 w' :=
 ⟨h.ext.trans hx, h.o13, h.o9, fun v hv => owns_ext (h.f13 v hv) hx, fun h1 v hv => owns_ext (h.f9 h1 v hv) hx, fun h1 v hv => owns_ext (h.f4 h1 v hv) hx,
  fun h1 v hv => by obtain ⟨g, h2, h3⟩ := h.f8 h1 v hv; exact ⟨g, h2, hx.row h3⟩, fun h1 v hv => by obtain ⟨g, h2, h3, h4⟩ := h.f0 h1 v hv; exact ⟨g, h2, hx.row h3, h4⟩⟩
theorem WithJ.start (hx : Ext w0 w) : WithJ w0 nA nC A rowc C none none none none none w :=
 ⟨hx, fun h => absurd rfl h, fun h => absurd rfl h, fun v hv => (by cases hv), fun _ v hv => (by cases hv), fun _ v hv => (by cases hv), fun _ v hv => (by cases hv), fun _ v hv => (by cases hv)⟩
theorem WithJ.set0 (h : WithJ w0 nA nC A rowc C z0 z4 z8 z9 z13 w) : WithJ w0 nA nC A rowc C (some (.slice (some ⟨w.heap.size, 0, none⟩) 0 0)) z4 z8 z9 z13 (w.alloc (.cells #[] 182)) := by
 have k := h.more ((Ext.refl w).alloc (.cells #[] 182))
 exact ⟨k.ext, k.o13, k.o9, k.f13, k.f9, k.f4, k.f8, fun _ v hv => by cases hv; exact ⟨_, rfl, alloc_at _ _, h.ext.size⟩⟩
theorem WithJ.set8 (h : WithJ w0 nA nC A rowc C z0 z4 z8 z9 z13 w) : WithJ w0 nA nC A rowc C z0 z4 (some (.slice (some ⟨w.heap.size, 0, none⟩) 1 1)) z9 z13 (w.alloc (.cells rowc.toArray 182)) := by
 have k := h.more ((Ext.refl w).alloc (.cells rowc.toArray 182))
 exact ⟨k.ext, k.o13, fun h9 => ⟨(k.o9 h9).1, by simp⟩, k.f13, k.f9, k.f4, fun _ v hv => by cases hv; exact ⟨_, rfl, alloc_at _ _⟩, k.f0⟩
theorem WithJ.nine (h : WithJ w0 nA nC A rowc C z0 z4 z8 z9 z13 w) (h4 : z4 = none) : z9 = none := by
 cases hz : z9 with
 | none => rfl
 | some v => exact absurd h4 (h.o9 (by rw [hz]; simp)).1
theorem WithJ.thirteen (h : WithJ w0 nA nC A rowc C z0 z4 z8 z9 z13 w) (h9 : z9 = none) : z13 = none := by
 cases hz : z13 with
 | none => rfl
 | some v => exact absurd h9 (h.o13 (by rw [hz]; simp))
/-- The first append: to an empty slice. -/
theorem WithJ.set4 {v0 : Value} (h : WithJ w0 nA nC A rowc C z0 z4 z8 z9 z13 w) (hz0 : z0 = some v0) (hz4 : z4 = none) (hrow : rowc ≠ []) (x : Value) (hx : Row w x nA A) (hl : A.length = nA * 4) (h1 : ∀ u ∈ A, u.oneCell' = true) (hb : nA ≤ 10000000) :
  ∃ v' w', (Builtin.append_ #[129, 129] 129 #[v0, x]).run Tryz.prog w = .ok v' w' ∧ WithJ w0 nA nC A rowc C z0 (some v') z8 z9 z13 w' := by
 subst hz0; subst hz4
 obtain ⟨g, rfl, hg, hgb⟩ := h.f0 rfl _ rfl
 have h9 := h.nine rfl
 subst h9
 have h13 := h.thirteen rfl
 subst h13
 have hown : w.ownsRow w0.heap.size 182 4 (.slice (some ⟨g, 0, none⟩) 0 0) 0 [] := ⟨rfl, .inr ⟨g, 0, #[], rfl, hgb, hg, Nat.le_refl _, by unfold maxLen; omega, rfl, rfl⟩⟩
 obtain ⟨v', w', k1, k2, k3, k4⟩ := app_rows_run w0.heap.size _ 0 [] hown x nA A hx hl h1 (by omega) h.ext.size
 refine ⟨v', w', k1, ⟨owns_ext_app h.ext hown k3, fun hh => absurd rfl hh, fun hh => absurd rfl hh, fun v hv => (by cases hv), fun _ v hv => (by cases hv), fun _ v hv => ?_, fun _ v hv => ?_, fun hh => (by cases hh)⟩⟩
 ·cases hv; simpa using k2
 ·obtain ⟨g8, e8, h8⟩ := h.f8 rfl v hv
  have hne := apart_kind h8 hg (by simp [hrow])
  exact ⟨g8, e8, (k3.block g8 (Array.getElem?_eq_some_iff.1 h8).1 (by simpa [Value.ownBlock] using hne)).trans h8⟩
/-- The second one: the row. -/
theorem WithJ.set9 {v4 v8 : Value} (h : WithJ w0 nA nC A rowc C z0 z4 z8 z9 z13 w) (hz4 : z4 = some v4) (hz8 : z8 = some v8) (hz9 : z9 = none) (hl : rowc.length = 4) (h1 : ∀ u ∈ rowc, u.oneCell' = true) (hb : nA ≤ 10000000) :
  ∃ v' w', (Builtin.append_ #[129, 129] 129 #[v4, v8]).run Tryz.prog w = .ok v' w' ∧ WithJ w0 nA nC A rowc C z0 z4 z8 (some v') z13 w' := by
 subst hz4; subst hz8; subst hz9
 have h13 := h.thirteen rfl
 subst h13
 have hown := h.f4 rfl _ rfl
 obtain ⟨g8, rfl, h8⟩ := h.f8 rfl _ rfl
 obtain ⟨v', w', k1, k2, k3, k4⟩ := app_rows_run w0.heap.size _ nA A hown _ 1 rowc (Row.new h8 (by omega) _ rfl) (by rw [hl]) h1 (by omega) h.ext.size
 refine ⟨v', w', k1, ⟨owns_ext_app h.ext hown k3, fun hh => absurd rfl hh, fun _ => ⟨by simp, by simp⟩, fun v hv => (by cases hv), fun _ v hv => ?_, fun hh => (by cases hh), fun hh => (by cases hh), fun hh => (by cases hh)⟩⟩
 cases hv; exact k2
/-- The third one: what stands behind. -/
theorem WithJ.set13 {v9 : Value} (h : WithJ w0 nA nC A rowc C z0 z4 z8 z9 z13 w) (hz9 : z9 = some v9) (hz13 : z13 = none) (x : Value) (hx : Row w x nC C) (hl : C.length = nC * 4) (h1 : ∀ u ∈ C, u.oneCell' = true) (hb : nA + nC ≤ 10000000) :
  ∃ v' w', (Builtin.append_ #[129, 129] 129 #[v9, x]).run Tryz.prog w = .ok v' w' ∧ WithJ w0 nA nC A rowc C z0 z4 z8 z9 (some v') w' := by
 subst hz9; subst hz13
 have hown := h.f9 rfl _ rfl
 have h48 := h.o9 (by simp)
 obtain ⟨v', w', k1, k2, k3, k4⟩ := app_rows_run w0.heap.size _ (nA + 1) (A ++ rowc) hown x nC C hx hl h1 (by omega) h.ext.size
 refine ⟨v', w', k1, ⟨owns_ext_app h.ext hown k3, fun _ => (by simp), fun _ => h48, fun v hv => ?_, fun hh => (by cases hh), fun hh => (by cases hh), fun hh => (by cases hh), fun hh => absurd hh h48.1⟩⟩
 cases hv; exact k2
end

theorem less_ltB : ∀ a b : B8, Op.bytesLess a b = ltB a b
 | [], [] => by simp [Op.bytesLess, ltB]
 | _ :: _, [] => by simp [Op.bytesLess, ltB]
 | [], _ :: _ => by simp [Op.bytesLess, ltB]
 | a :: r, b :: s => by
  rw [Op.bytesLess, less_ltB r s]
  unfold ltB
  rw [Bool.eq_iff_iff]
  simp [List.cons_lt_cons_iff]
theorem Row.takeN {w : World} {a : Option Addr} {n k cap : Nat} {cs : List Value} (m : Nat) (h : Row w (.slice a n cap) n cs) (hk : k ≤ n) (hl : cs.length = n * m) : Row w (.slice a k cap) k (cs.take (k * m)) := by
 obtain ⟨a', cap', he, h1, h2, h3, h4⟩ := h
 simp only [Value.slice.injEq, true_and] at he
 obtain ⟨rfl, rfl⟩ := he
 refine ⟨a, cap, rfl, by omega, h2, by omega, fun hne => ?_⟩
 obtain ⟨b, o, ha, hc⟩ := h4 (by rintro rfl; simp at hne)
 refine ⟨b, o, ha, fun i u hu => hc i u ?_⟩
 rw [List.getElem?_take] at hu
 split at hu
 ·exact hu
 ·cases hu
theorem Row.dropN {w : World} {b n k cap : Nat} {cs : List Value} (m : Nat) (h : Row w (.slice (some ⟨b, 0, none⟩) n cap) n cs) (hk : k ≤ n) (hl : cs.length = n * m) : Row w (.slice (some ⟨b, k * m, none⟩) (n - k) (cap - k)) (n - k) (cs.drop (k * m)) := by
 obtain ⟨a', cap', he, h1, h2, h3, h4⟩ := h
 simp only [Value.slice.injEq, true_and] at he
 obtain ⟨rfl, rfl⟩ := he
 refine ⟨_, _, rfl, by omega, by omega, by omega, fun hne => ⟨b, k * m, rfl, fun i u hu => ?_⟩⟩
 obtain ⟨b', o, ha, hc⟩ := h4 (by rintro rfl; simp at hne)
 cases ha
 rw [List.getElem?_drop] at hu
 have := hc _ u hu
 rwa [Nat.zero_add] at this

theorem Row.dropIf {w : World} {b n k cap : Nat} {cs : List Value} (m : Nat) (h : Row w (.slice (some ⟨b, 0, none⟩) n cap) n cs) (hk : k ≤ n) (hl : cs.length = n * m) : Row w (.slice (if cap = k then some ⟨b, 0, none⟩ else some ⟨b, k * m, none⟩) (n - k) (cap - k)) (n - k) (cs.drop (k * m)) := by
 have hd := h.dropN m hk hl
 split
 ·rename_i hc
  obtain ⟨a', cap', he, h1, h2, h3, h4⟩ := h
  simp only [Value.slice.injEq, true_and] at he
  obtain ⟨rfl, rfl⟩ := he
  refine ⟨_, _, rfl, by omega, by omega, by omega, fun hne => ?_⟩
  exfalso
  apply hne
  rw [List.drop_eq_nil_iff, hl]
  exact Nat.mul_le_mul_right _ (by omega)
 ·exact hd
/-- append, as an operation of a region. -/
theorem rel_append {c : Prop} [Decidable c] {ev : Operand → Value} {R : Value → World → Prop} {o : Oper} {w : World} (s x : Operand) (t : TypeId) {v xv v' : Value} {w' : World} (hw : c) (ho : o.op = .call { callee := .builtin .append, args := #[s, x], argTypes := #[t, t] }) 
  (hs : ev s = v) (hx : ev x = xv) (hr : (Builtin.append_ #[t, t] o.type #[v, xv]).run Tryz.prog w = .ok v' w') (h : R v' w') :
  if c then relUpon Tryz.prog R ((execOp ev o).run Tryz.prog w) else R undef w := by
 rw [if_pos hw]
 unfold execOp
 simp only [ho, resolve, invoke, builtin, Sem.run_bind, Sem.run_pure, Result.andThen_ok, List.map_toArray, List.map_cons, List.map_nil, hs, hx, hr]
 exact h

set_option maxRecDepth 100000 in
set_option maxHeartbeats 4000000 in
theorem with_any {R : Nat → Prop} {w : World} {v : Value} {l : Files} (p : B8) (f : Fi) (sv : Value) (hv : IsRows R w v l) (hl : l.length ≤ 1000000) (hp : p.length ≤ 1000000) (hd : IsData R w sv f.data) :
  Calls Tryz.prog 193 #[v, S8 p, .agg #[.int .i64 f.mode, sv, .int .i64 f.time]] w fun e w' => (∃ v', e = .returned v' ∧ OwnRows w.heap.size R w' v' (putF l p f)) ∧ Ext w w' := by
 obtain ⟨s1, s2, rfl, -⟩ := id hd.bytes
 have HV : Hid _ := hv
 have HD : Hid _ := hd
 have htp := tl p
 have hdl := delF_length l p
 obtain ⟨wa, hwa⟩ : ∃ wa, wa = w.alloc (.cells #[.int .i64 f.mode, .slice s1 f.data.length s2, .int .i64 f.time] 134) := ⟨_, rfl⟩
 have hxa : Ext w wa := by rw [hwa]; exact (Ext.refl _).alloc _
 have hba : wa.heap[w.heap.size]? = some (.cells #[.int .i64 f.mode, .slice s1 f.data.length s2, .int .i64 f.time] 134 (0, 0)) := by rw [hwa]; exact alloc_at w _
 have HWA : Hid _ := hwa
 have HXA : Hid _ := hxa
 have HBA : Hid _ := hba
 clear hv hd hwa hxa hba
 go_enter Tryz.func193, Tryz.ntmps193
 go_wp2_with fail
 rw [show w.alloc (.cells #[.int .i64 f.mode, .slice s1 f.data.length s2, .int .i64 f.time] 134) = wa from HWA.out.symm]
 go_at_call 192
 refine (without_any p (ReadL.rowsExt HV.out HXA.out) hl).mono ?_
 rintro e w2 ⟨⟨v2, rfl, ho2⟩, hx2⟩
 obtain ⟨css, hown2, heach⟩ := ho2
 obtain ⟨D, hD⟩ : ∃ D, delF l p = D := ⟨_, rfl⟩
 rw [hD] at hown2 heach hdl
 have hrows : IsRows R w2 v2 D := ⟨css, Row.of_owns hown2 (by omega), Typed.of_owns hown2, heach⟩
 obtain ⟨a2, c2, rfl, h1, h2, h3, h4⟩ := rows_get hrows
 have hshape : (a2 = none ∧ D.length = 0 ∧ c2 = 0) ∨ ∃ g, a2 = some ⟨g, 0, none⟩ := by
  rcases hown2.2 with ⟨he, h0⟩ | ⟨g, cap, cur, he, _⟩
  ·simp only [Value.slice.injEq] at he; exact .inl ⟨he.1, h0, he.2.2⟩
  ·simp only [Value.slice.injEq] at he; exact .inr ⟨g, he.1⟩
 have HRW : Hid _ := hrows
 have HO2 : Hid _ := hown2
 have HEA : Hid _ := heach
 have HDD : Hid _ := hD
 have H4 : Hid _ := h4
 have hb2 := hx2.row HBA.out
 have HX2 : Hid _ := Ext.trans HXA.out hx2
 clear hrows hown2 heach hD h4 hx2
 go_wp2_with fail
 go_loopw [7] (fun i wr => ∃ k : Nat, k ≤ D.length ∧ i = .int .i64 k ∧ (∀ j e, j < k → D[j]? = some e → ltB e.1 p = true) ∧ wr = w2) (fun i _ => D.length - (intOf i).toNat)
 case atStart => exact ⟨0, Nat.zero_le _, rfl, fun j e hj => absurd hj (Nat.not_lt_zero _), rfl⟩
 case round =>
  obtain ⟨k, hk, rfl, hlo, rfl⟩ := hrel
  have HLO : Hid _ := hlo
  clear hlo
  by_cases hlt : k < D.length
  case' pos =>
   obtain ⟨⟨q, f'⟩, hke⟩ : ∃ e, D[k]? = some e := ⟨_, List.getElem?_eq_getElem hlt⟩
   obtain ⟨b, o, s, c, hae, hql, hd, c0, -, -, -⟩ := H4.out k q f' hke
   have htq := tl q
   have HKE : Hid _ := hke
   clear hd hke
   obtain ⟨bq, hbq⟩ : ∃ bq, ltB q p = bq := ⟨_, rfl⟩
   have hbl : Op.bytesLess q p = bq := (less_ltB q p).trans hbq
   cases bq
   case' true =>
    have HBQ : Hid _ := hbq
    clear hbq
    subst hae
    go_wp2
    go_roundw
    case rel =>
     refine ⟨k + 1, by omega, by go_num, fun j e hj he => ?_, trivial⟩
     by_cases hjk : j = k
     ·subst hjk
      rw [HKE.out] at he
      cases he
      exact HBQ.out
     ·exact HLO.out j e (by omega) he
    case measure => simp [intOf]; omega
   case' false =>
    have HSTOP : Hid (∀ e, D[k]? = some e → ltB e.1 p = false) := fun e he => by rw [HKE.out] at he; cases he; exact hbq
    clear hbq
    subst hae
    go_wp2_with fail
  case' neg =>
   have HSTOP : Hid (∀ e, D[k]? = some e → ltB e.1 p = false) := fun e he => by have := (List.getElem?_eq_some_iff.1 he).1; omega
   go_wp2_with fail
  all_goals
   have HLO2 : Hid _ := HLO.out
   clear H4 HLO htp
   have hfl : css.flatten.length = D.length * 4 := HO2.out.1
   have hone : ∀ u ∈ css.flatten, u.oneCell' = true := Each.one HEA.out (fun c x hx => hx.length.2)
   have HROW : Hid _ := Row.of_owns HO2.out (by omega)
   have hA : (css.flatten.take (k * 4)).length = k * 4 := by rw [List.length_take]; omega
   have hC : (css.flatten.drop (k * 4)).length = (D.length - k) * 4 := by rw [List.length_drop]; omega
   have hA1 : ∀ u ∈ css.flatten.take (k * 4), u.oneCell' = true := fun u hu => hone u (List.mem_of_mem_take hu)
   have hC1 : ∀ u ∈ css.flatten.drop (k * 4), u.oneCell' = true := fun u hu => hone u (List.mem_of_mem_drop hu)
   have HA : Hid _ := hA
   have HC : Hid _ := hC
   have HA1 : Hid _ := hA1
   have HC1 : Hid _ := hC1
   have HFL : Hid _ := hfl
   have HSH : Hid _ := hshape
   have HB2 : Hid _ := hb2
   clear hfl hone hA hC hA1 hC1 hshape hb2
   apply wp_region_inv 14 (fun z w' => WithJ wr k (D.length - k) (css.flatten.take (k * 4)) [S8 p, .int .i64 f.mode, .slice s1 f.data.length s2, .int .i64 f.time] (css.flatten.drop (k * 4)) (z 0) (z 4) (z 8) (z 9) (z 13) w') [true, false, false, false, true, false, false, false, true, true, false, false, false, true] [undef, _, _, undef, undef, _, _, _, undef, undef, _, _, undef, undef] [none, none, none, some (fun u => Row wr u k (css.flatten.take (k * 4))), none, none, none, none, none, none, none, none, some (fun u => Row wr u (D.length - k) (css.flatten.drop (k * 4))), none] [[], [], [], [1, 2], [0, 3], [], [], [5, 6], [7], [4, 8], [], [], [10, 11], [9, 12]] (by kernel_rfl) (by kernel_rfl) rfl
   ·exact WithJ.start ⟨rfl, rfl, rfl, Nat.le_refl _, fun _ _ => rfl⟩
   ·simp (maxSteps := 1000000) only [oblI, stepI, knowsI, getP, mixP, List.getD_cons_zero, List.getD_cons_succ, Bool.false_eq_true, if_false, if_true, and_true, true_and, forall_const, Nat.zero_add, Nat.reduceAdd, List.take_succ_cons, List.take_zero, fillFrom, Act.put, List.setIfInBounds_toArray, List.set_cons_zero, List.set_cons_succ]
    refine ⟨?_, ?_, ?_, ?_, ?_, ?_, ?_, ?_, ?_, ?_, ?_, ?_, ?_, ?_⟩
    ·intro xs z wq hj hz R hR
     go_simp
     exact hR _ _ hj.set0
    ·intro xs z wq hj R hR
     go_simp
     exact hR _ _ hj rfl
    ·intro xs z wq hj R hR
     go_simp
     exact hR _ _ hj rfl
    ·intro xs z wq hj hk R hR
     obtain ⟨hk0, hk1⟩ := hk
     have hkc : k ≤ c2 := by omega
     rcases HSH.out with ⟨h9, h0, h8⟩ | ⟨g9, h9⟩
     ·first | (exact absurd h9 (by simp)) | (cases h9; subst h8; have hk00 : k = 0 := (by omega); subst hk00; go_simp; exact hR _ _ hj (Row.takeN 4 HROW.out (by omega) HFL.out))
     ·(cases h9; go_simp; exact hR _ _ hj (Row.takeN 4 HROW.out (by omega) HFL.out))
    ·intro xs z wq hj hz hk R hR
     obtain ⟨hk0, hk1⟩ := hk
     obtain ⟨v', w', hr, hj'⟩ := hj.set4 hk0 hz (by simp) (xs 3) (hk1.ext hj.ext) HA.out HA1.out (by omega)
     apply rel_append (.tmp 26) (.tmp 29) 129 (v := xs 0) (xv := xs 3) (v' := v') (w' := w')
     ·rfl
     ·rfl
     ·rfl
     ·rfl
     ·exact hr
     ·exact hR _ _ hj'
    ·intro xs z wq hj R hR
     go_simp
     exact hR _ _ hj rfl
    ·intro xs z wq hj R hR
     obtain ⟨f0, f1, f2⟩ := cellsAt3 (hj.ext.row HB2.out)
     go_simp
     exact hR _ _ hj rfl
    ·intro xs z wq hj hk R hR
     obtain ⟨hk0, hk1⟩ := hk
     go_simp
     exact hR _ _ hj rfl
    ·intro xs z wq hj hz hk R hR
     go_simp
     exact hR _ _ hj.set8
    ·intro xs z wq hj hz hk R hR
     obtain ⟨hk0, hk1⟩ := hk
     obtain ⟨v', w', hr, hj'⟩ := hj.set9 hk0 hk1 hz rfl (by simp [Value.oneCell']) (by omega)
     apply rel_append (.tmp 30) (.tmp 34) 129 (v := xs 4) (xv := xs 8) (v' := v') (w' := w')
     ·rfl
     ·rfl
     ·rfl
     ·rfl
     ·exact hr
     ·exact hR _ _ hj'
    ·intro xs z wq hj R hR
     go_simp
     exact hR _ _ hj rfl
    ·intro xs z wq hj R hR
     go_simp
     exact hR _ _ hj rfl
    ·intro xs z wq hj hk R hR
     obtain ⟨hk0, hk1⟩ := hk
     have hkc : k ≤ c2 := by omega
     rcases HSH.out with ⟨h9, h0, h8⟩ | ⟨g9, h9⟩
     ·first | (exact absurd h9 (by simp)) | (cases h9; subst h8; have hk00 : k = 0 := (by omega); subst hk00; go_simp; exact hR _ _ hj (by have := HROW.out; rw [h0] at this; simp only [h0, Nat.sub_zero, Nat.zero_mul, List.drop_zero]; exact this))
     ·(cases h9; go_simp; exact hR _ _ hj (Row.dropIf 4 HROW.out (by omega) HFL.out))
    ·intro xs z wq hj hz hk R hR
     obtain ⟨hk0, hk1⟩ := hk
     obtain ⟨v', w', hr, hj'⟩ := hj.set13 hk0 hz (xs 12) (hk1.ext hj.ext) HC.out HC1.out (by omega)
     apply rel_append (.tmp 35) (.tmp 38) 129 (v := xs 9) (xv := xs 12) (v' := v') (w' := w')
     ·rfl
     ·rfl
     ·rfl
     ·rfl
     ·exact hr
     ·exact hR _ _ hj'
   intro xs w3 hj3 hk
   simp only [zAll, List.getD_cons_zero, List.getD_cons_succ, Bool.false_eq_true, if_false, if_true] at hj3
   simp only [heldI, Nat.zero_add, Nat.reduceAdd, and_true] at hk
   obtain ⟨q1, q2, q3, q5, q6, q7, q10, q11, q12⟩ := hk
   simp (maxSteps := 1000000) only [List.drop_succ_cons, List.drop_zero, Nat.zero_add, Nat.reduceAdd, List.take_succ_cons, List.take_zero, fillFrom, Act.put, List.setIfInBounds_toArray, List.set_cons_zero, List.set_cons_succ, q1, q2, q5, q6, q7, q10, q11]
   clear q1 q2 q5 q6 q7 q10 q11
   generalize xs 0 = x0 at *
   generalize xs 3 = x3 at *
   generalize xs 4 = x4 at *
   generalize xs 8 = x8 at *
   generalize xs 9 = x9 at *
   generalize xs 12 = x12 at *
   generalize xs 13 = x13 at *
   go_wp2
   go_ret
   have hown3 := hj3.f13 _ rfl
   have hx3 := hj3.ext
   have h4 := Each.len HEA.out (fun c x hx => hx.length.1)
   rw [flat_take k h4, flat_drop k h4] at hown3
   have hput : putF l p f = D.take k ++ (p, f) :: D.drop k := by
    have e := putF_at (l := l) (p := p) (f := f) (k := k) (by rw [HDD.out]; omega) (by rw [HDD.out]; exact HLO2.out) (by rw [HDD.out]; exact HSTOP.out)
    rw [HDD.out] at e
    exact e
   have hxw : Ext w w3 := Ext.trans HX2.out hx3
   have hlen : (D.take k ++ (p, f) :: D.drop k).length = k + 1 + (D.length - k) := by simp; omega
   refine ⟨⟨_, rfl, css.take k ++ [[S8 p, .int .i64 f.mode, .slice s1 f.data.length s2, .int .i64 f.time]] ++ css.drop k, ?_, ?_⟩, hxw⟩
   ·rw [hput, hlen, List.flatten_append, List.flatten_append]
    have := owns_low hown3 (Below.size HX2.out)
    simpa using this
   ·rw [hput, show D.take k ++ (p, f) :: D.drop k = D.take k ++ [(p, f)] ++ D.drop k by simp]
    have k2 : Each (IsRowR R w3) css D := Each.imp HEA.out (fun c x hc => IsRowR.keepR hc (KeepR.of_keep (KeepB.of_ext hx3)))
    refine ((Each.take k2 k).append (Each.snoc (Each.nil _) (c := _) (x := (p, f)) ⟨hp, _, rfl, IsData.ext HD.out hxw⟩)).append (Each.drop k2 k)

end Go.Proofs.YtfimfbdlegookaaGreatDoor

/-! marref5.apply: a change of a list of files. Conditions: at most 1000000 files; short paths. -/
namespace Go.Proofs.YtfimfbdlegookaaGreatDoor
open Go Go.RowKit

/-- What a change hands back: a new list, or the one that it was given. -/
def NewOr (w : World) (v v' : Value) : Prop := ∀ k, v'.ownBlock = some k → v.ownBlock = some k ∨ w.heap.size ≤ k
def ApplyPost (R : Nat → Prop) (w : World) (v : Value) (l : Files) (e : Ending) (w' : World) : Prop := (∃ v', e = .returned v' ∧ IsRows R w' v' l ∧ NewOr w v v') ∧ Ext w w'
theorem OwnRows.low {base base' : Nat} {R : Nat → Prop} {w : World} {v : Value} {l : Files} (h : OwnRows base R w v l) (hb : base' ≤ base) : OwnRows base' R w v l := by
 obtain ⟨css, h1, h2⟩ := h
 exact ⟨css, owns_low h1 hb, h2⟩
theorem OwnRows.ext {base : Nat} {R : Nat → Prop} {w w' : World} {v : Value} {l : Files} (h : OwnRows base R w v l) (hx : Ext w w') : OwnRows base R w' v l := by
 obtain ⟨css, h1, h2⟩ := h
 exact ⟨css, owns_ext h1 hx, Each.imp h2 (fun c x hc => IsRowR.keepR hc (KeepR.of_keep (KeepB.of_ext hx)))⟩
theorem ApplyPost.own {R : Nat → Prop} {w wx w' : World} {v v' : Value} {l : Files} (h : OwnRows wx.heap.size R w' v' l) (hx : w.heap.size ≤ wx.heap.size) (hl : l.length ≤ 10000000) (hw : Ext w w') : ApplyPost R w v l (.returned v') w' :=
 ⟨⟨_, rfl, h.rows hl, fun k hk => .inr (Nat.le_trans hx (h.lt hk).1)⟩, hw⟩

set_option maxRecDepth 100000 in
set_option maxHeartbeats 2000000 in
theorem apply_put {R : Nat → Prop} {w : World} {v : Value} {l : Files} (p : B8) (f : Fi) (sv : Value) (hv : IsRows R w v l) (hl : l.length ≤ 1000000) (hp : p.length ≤ 1000000) (hd : IsData R w sv f.data) :
  Calls Tryz.prog 162 #[v, .agg #[.int .i64 1, S8 [], S8 p, .int .i64 f.mode, sv, .int .i64 f.time]] w (ApplyPost R w v (putF l p f)) := by
 obtain ⟨s1, s2, rfl, -⟩ := id hd.bytes
 have HXA : Hid (Ext w (w.alloc (.cells #[.int .i64 1, S8 [], S8 p, .int .i64 f.mode, .slice s1 f.data.length s2, .int .i64 f.time] 185))) := (Ext.refl _).alloc _
 have HV : Hid _ := hv
 have HD : Hid _ := hd
 have hpl := putF_length l p f
 clear hv hd
 go_enter Tryz.func162, Tryz.ntmps162
 go_wp2_with (go_at_call 193; go_must (refine (with_any p f _ (ReadL.rowsExt HV.out HXA.out) hl hp (IsData.ext HD.out HXA.out)).mono ?_; rintro e w2 ⟨⟨v2, rfl, ho2⟩, hx2⟩))
 go_ret
 exact ApplyPost.own ho2 (Below.size HXA.out) (by omega) (Ext.trans HXA.out hx2)

set_option maxRecDepth 100000 in
set_option maxHeartbeats 2000000 in
theorem apply_del {R : Nat → Prop} {w : World} {v : Value} {l : Files} (p : B8) (hv : IsRows R w v l) (hl : l.length ≤ 1000000) :
  Calls Tryz.prog 162 #[v, .agg #[.int .i64 3, S8 p, S8 [], .int .i64 0, .slice none 0 0, .int .i64 0]] w (ApplyPost R w v (delF l p)) := by
 have HXA : Hid (Ext w (w.alloc (.cells #[.int .i64 3, S8 p, S8 [], .int .i64 0, .slice none 0 0, .int .i64 0] 185))) := (Ext.refl _).alloc _
 have HV : Hid _ := hv
 have hpl := delF_length l p
 clear hv
 go_enter Tryz.func162, Tryz.ntmps162
 go_wp2_with (go_at_call 192; go_must (refine (without_any p (ReadL.rowsExt HV.out HXA.out) hl).mono ?_; rintro e w2 ⟨⟨v2, rfl, ho2⟩, hx2⟩))
 go_ret
 exact ApplyPost.own ho2 (Below.size HXA.out) (by omega) (Ext.trans HXA.out hx2)

set_option maxRecDepth 100000 in
set_option maxHeartbeats 4000000 in
theorem apply_mv {R : Nat → Prop} {w : World} {v : Value} {l : Files} (s d : B8) (hv : IsRows R w v l) (hl : l.length ≤ 1000000) (hd : d.length ≤ 1000000) :
  Calls Tryz.prog 162 #[v, .agg #[.int .i64 2, S8 s, S8 d, .int .i64 0, .slice none 0 0, .int .i64 0]] w (ApplyPost R w v (ap l (.mv s d))) := by
 have HXA : Hid (Ext w (w.alloc (.cells #[.int .i64 2, S8 s, S8 d, .int .i64 0, .slice none 0 0, .int .i64 0] 185))) := (Ext.refl _).alloc _
 have HB : Hid _ := cellsAt6 (alloc_at w (.cells #[.int .i64 2, S8 s, S8 d, .int .i64 0, .slice none 0 0, .int .i64 0] 185))
 have HAP : Hid (ap l (.mv s d) = match look l s with | some x => putF (delF l s) d x | none => l) := rfl
 have HV : Hid _ := hv
 have hlt := hv.lt
 obtain ⟨a, cap, rfl, h1, h2, h3, h4⟩ := rows_get hv
 have HLT : Hid _ := hlt
 have H4 : Hid _ := h4
 have hdl := delF_length l s
 clear hv h4 hlt
 go_enter Tryz.func162, Tryz.ntmps162
 go_wp2_with fail
 go_at_call 164
 refine (find_any s (ReadL.rowsExt HV.out HXA.out)).mono ?_
 rintro e w2 ⟨⟨i, rfl, hpl⟩, hx2⟩
 rcases hpl with ⟨hlk, rfl⟩ | ⟨k, f, rfl, hk, hlk⟩
 ·have HAQ : Hid (ap l (.mv s d) = l) := by unfold Hid; rw [HAP.out, hlk]
  clear hlk
  go_wp2
  go_ret
  rw [HAQ.out]
  exact ⟨⟨_, rfl, ReadL.rowsExt HV.out (Ext.trans HXA.out hx2), fun k hk => .inl hk⟩, Ext.trans HXA.out hx2⟩
 ·have HAQ : Hid (ap l (.mv s d) = putF (delF l s) d f) := by unfold Hid; rw [HAP.out, hlk]
  obtain ⟨b, o, v1, v2, rfl, hql, hdt, c0, c1, c2, c3⟩ := H4.out k s f hk
  have hxw := Ext.trans HXA.out hx2
  replace c1 := hxw.cell c1
  replace c2 := hxw.cell c2
  replace c3 := hxw.cell c3
  have hkl := (List.getElem?_eq_some_iff.1 hk).1
  have hbl := Nat.lt_of_lt_of_le (HLT.out b rfl) (Below.size hxw)
  have HDT : Hid _ := hdt
  have HXW : Hid _ := hxw
  have hpt := putF_length (delF l s) d f
  obtain ⟨b0, b1, b2, b3, b4, b5⟩ := HB.out
  replace b1 := hx2.cell b1
  replace b2 := hx2.cell b2
  clear hlk hk hdt hxw c0 b0 b3 b4 b5
  go_wp2_with fail
  have HX3 : Hid (Ext w2 (w2.alloc (.cells #[.int .i64 f.mode, .slice v1 f.data.length v2, .int .i64 f.time] 134))) := (Ext.refl _).alloc _
  obtain ⟨e0, e1, e2⟩ := cellsAt3 (alloc_at w2 (.cells #[.int .i64 f.mode, .slice v1 f.data.length v2, .int .i64 f.time] 134))
  have HWA : Hid _ := Ext.trans HXW.out HX3.out
  replace b1 := HX3.out.cell b1
  replace b2 := HX3.out.cell b2
  have hsz := Below.size HWA.out
  apply wp_region_mix 8 [_, _, _, undef, _, _, _, undef] [none, none, none, some (fun u w' => OwnRows w.heap.size R w' u (delF l s)), none, none, none, some (fun u w' => OwnRows w.heap.size R w' u (putF (delF l s) d f))] [[], [], [1], [0, 2], [], [4], [], [3, 5, 6]] (by kernel_rfl) (by kernel_rfl) (by simp [mixV])
  ·refine ⟨?_, ?_, trivial⟩
   ·exact fun _ _ _ he h => OwnRows.ext h he
   ·exact fun _ _ _ he h => OwnRows.ext h he
  ·simp (maxSteps := 1000000) only [List.take_succ_cons, List.take_zero, oblFrom, stepObl, fillFrom, Act.put, List.setIfInBounds_toArray, List.set_cons_zero, List.set_cons_succ, knows, getV, mixV, List.getD_cons_zero, List.getD_cons_succ, and_true, true_and, forall_const]
   refine ⟨?_, ?_, ?_, ?_, ?_, ?_, ?_, ?_⟩
   ·intro xs wq hq R hR
    have f1 := hq.cell b1; have f2 := hq.cell b2; have f3 := hq.cell e0; have f4 := hq.cell e1; have f5 := hq.cell e2
    go_simp
    exact hR _ _ (Ext.refl _) rfl
   ·intro xs wq hq R hR
    have f1 := hq.cell b1; have f2 := hq.cell b2; have f3 := hq.cell e0; have f4 := hq.cell e1; have f5 := hq.cell e2
    go_simp
    exact hR _ _ (Ext.refl _) rfl
   ·intro xs wq hq hk R hR
    have f1 := hq.cell b1; have f2 := hq.cell b2; have f3 := hq.cell e0; have f4 := hq.cell e1; have f5 := hq.cell e2
    go_simp
    exact hR _ _ (Ext.refl _) rfl
   ·intro xs wq hq hk R hR
    obtain ⟨hk0, hk1⟩ := hk
    go_simp
    exact (without_any s (ReadL.rowsExt HV.out (Ext.trans HWA.out hq)) hl).mono (by rintro e' w4 ⟨⟨v2, rfl, h1⟩, h3⟩; exact ⟨_, rfl, hR _ _ h3 (OwnRows.low h1 (Below.size (Ext.trans HWA.out hq)))⟩)
   ·intro xs wq hq R hR
    have f1 := hq.cell b1; have f2 := hq.cell b2; have f3 := hq.cell e0; have f4 := hq.cell e1; have f5 := hq.cell e2
    go_simp
    exact hR _ _ (Ext.refl _) rfl
   ·intro xs wq hq hk R hR
    have f1 := hq.cell b1; have f2 := hq.cell b2; have f3 := hq.cell e0; have f4 := hq.cell e1; have f5 := hq.cell e2
    go_simp
    exact hR _ _ (Ext.refl _) rfl
   ·intro xs wq hq R hR
    have f1 := hq.cell b1; have f2 := hq.cell b2; have f3 := hq.cell e0; have f4 := hq.cell e1; have f5 := hq.cell e2
    go_simp
    exact hR _ _ (Ext.refl _) rfl
   ·intro xs wq hq hk R hR
    obtain ⟨hk0, hk1, hk2⟩ := hk
    go_simp
    exact (with_any d f _ (OwnRows.rows hk0 (by omega)) (by omega) hd (IsData.ext HDT.out (Ext.trans HWA.out hq))).mono (by rintro e' w4 ⟨⟨v2, rfl, h1⟩, h3⟩; exact ⟨_, rfl, hR _ _ h3 (OwnRows.low h1 (Below.size (Ext.trans HWA.out hq)))⟩)
  intro xs w3 hx3 hk
  simp only [heldV, Nat.zero_add, Nat.reduceAdd, and_true] at hk
  obtain ⟨q0, q1, q2, q3, q4, q5, q6, q7⟩ := hk
  simp (maxSteps := 1000000) only [List.take_succ_cons, List.take_zero, List.drop_succ_cons, List.drop_zero, fillFrom, Act.put, List.setIfInBounds_toArray, List.set_cons_zero, List.set_cons_succ, Nat.zero_add, Nat.reduceAdd, q0, q1, q2, q4, q5, q6]
  clear q0 q1 q2 q4 q5 q6
  generalize xs 3 = x3 at *
  generalize xs 7 = x7 at *
  go_wp2
  go_ret
  rw [HAQ.out]
  exact ApplyPost.own q7 (Nat.le_refl _) (by omega) (Ext.trans HWA.out hx3)

theorem apply_any {R : Nat → Prop} {w : World} {v : Value} {l : Files} {cs : List Value} {c : Ch} (hv : IsRows R w v l) (hl : l.length ≤ 1000000) (hc : IsOp R w cs c) :
  Calls Tryz.prog 162 #[v, .agg cs.toArray] w (ApplyPost R w v (ap l c)) := by
 cases c with
 | put p f =>
  obtain ⟨h1, sv, rfl, h2⟩ := hc
  exact apply_put p f sv hv hl h1 h2
 | mv s d =>
  obtain ⟨h1, h2, rfl⟩ := hc
  exact apply_mv s d hv hl h2
 | del p =>
  obtain ⟨h1, rfl⟩ := hc
  exact apply_del p hv hl

end Go.Proofs.YtfimfbdlegookaaGreatDoor

/-! marref5.FS: change: a change is done. Conditions: at most 1000000 files, changes, ticks. -/
namespace Go.Proofs.YtfimfbdlegookaaGreatDoor
open Go Go.RowKit
variable [Inhabited BaseW]

theorem info_op : (Tryz.prog.info? 185).map (fun i => (i.zero, i.size, i.bytes)) = some (some (.agg #[.int .i64 0, S8 [], S8 [], .int .i64 0, .slice none 0 0, .int .i64 0]), 6, 80) := by kernel_rfl
theorem size_rows : (Tryz.prog.info? 129).map (·.size) = some 1 := by kernel_rfl
theorem size_ops : (Tryz.prog.info? 130).map (·.size) = some 1 := by kernel_rfl
theorem size_revs : (Tryz.prog.info? 131).map (·.size) = some 1 := by kernel_rfl

section
variable {ops : Array Oper} {rest : List Oper} {o : Oper} {a : Act} {Q : Exit → Act → World → Prop} {w : World}
/-- append of one change. -/
theorem app_op (hgd : o.guard = none) (s x : Operand) (ho : o.op = .call { callee := .builtin .append, args := #[s, x], argTypes := #[130, 130] })
  (base : Nat) (v : Value) (n : Nat) (xs : List Value) (hs : a.eval s = v) (hown : w.ownsRow base 185 6 v n xs)
  (g c : Nat) (news : List Value) (hx : a.eval x = .slice (some ⟨g, 0, none⟩) 1 c) (hl : news.length = 6) {fr : Nat × Nat} (hg : w.heap[g]? = some (.cells news.toArray 185 fr)) (h1 : news.all (·.oneCell') = true)
  (hb : n ≤ 10000000) (hbase : base ≤ w.heap.size)
  (h : ∀ v' w', w'.ownsRow base 185 6 v' (n + 1) (xs ++ news) → w.grownBy w' v.ownBlock → (∀ k, v'.ownBlock = some k → v.ownBlock = some k ∨ w.heap.size ≤ k) → wpList Tryz.prog ops Q rest (a.put o.dst v') w') : wpList Tryz.prog ops Q (o :: rest) a w := by
 obtain ⟨i0, hi, hz0, hz1, hz2⟩ := info_parts info_op
 exact wpList_append_own_at w hgd s x _ ho base _ i0 _ 6 80 Tryz.underlying130 hi hz0 hz1 hz2 rfl (by omega) v n xs hs hown ⟨g, 0, none⟩ 1 c news hx (by simpa using hl) (by simpa using news_of_block hg) (fun u hu => List.all_eq_true.1 h1 u hu) (by unfold maxLen; omega) (by omega) hbase
  (fun v' w' h1 h2 _ h4 => h v' w' h1 h2 (fun k hk => by
   rcases h4 with h4 | h4
   ·exact .inl (h4.symm.trans hk)
   ·rw [h4] at hk; simp only [Option.some.injEq] at hk; exact .inr (by omega)))
end

/-- A change, in its cells: its kind, two paths, a file. -/
theorem IsOp.shape {R : Nat → Prop} {w : World} {cs : List Value} {c : Ch} (h : IsOp R w cs c) : ∃ (kind : Int) (p q : B8) (mode time : Int) (a : Option Addr) (n cap : Nat), cs = [.int .i64 kind, S8 p, S8 q, .int .i64 mode, .slice a n cap, .int .i64 time] ∧ ((kind = 1 ∧ ∃ f, c = .put q f ∧ p = [] ∧ f.mode = mode ∧ f.data.length = n ∧ f.time = time) ∨ (kind ≠ 1 ∧ ∀ t, c.at t = c)) := by
 cases c with
 | put p f =>
  obtain ⟨_, v, rfl, h3⟩ := h
  obtain ⟨a, cap, rfl, _⟩ := h3.bytes
  exact ⟨_, _, _, _, _, _, _, _, rfl, .inl ⟨rfl, f, rfl, rfl, rfl, rfl, rfl⟩⟩
 | mv s d => obtain ⟨_, _, rfl⟩ := h; exact ⟨_, _, _, _, _, _, _, _, rfl, .inr ⟨by omega, fun _ => rfl⟩⟩
 | del p => obtain ⟨_, rfl⟩ := h; exact ⟨_, _, _, _, _, _, _, _, rfl, .inr ⟨by omega, fun _ => rfl⟩⟩

theorem IsOp.ext {R : Nat → Prop} {w w' : World} {cs : List Value} {c : Ch} (h : IsOp R w cs c) (hx : Ext w w') : IsOp R w' cs c := h.keepR (KeepR.of_keep (KeepB.of_ext hx))
/-- A change with its stamp. -/
theorem IsOp.stamp {R : Nat → Prop} {w : World} {kind : Int} {p q : B8} {mode time t2 : Int} {a : Option Addr} {n cap : Nat} {c : Ch} {t : Nat} (h : IsOp R w [.int .i64 kind, S8 p, S8 q, .int .i64 mode, .slice a n cap, .int .i64 time] c)
  (hk : (kind = 1 ∧ ∃ f, c = .put q f ∧ p = [] ∧ f.mode = mode ∧ f.data.length = n ∧ f.time = time) ∨ (kind ≠ 1 ∧ ∀ t, c.at t = c)) (ht : t2 = if kind = 1 then (t : Int) else time) :
  IsOp R w [.int .i64 kind, S8 p, S8 q, .int .i64 mode, .slice a n cap, .int .i64 t2] (c.at t) := by
 rcases hk with ⟨rfl, f, rfl, rfl, rfl, rfl, rfl⟩ | ⟨hk, hat⟩
 ·obtain ⟨h1, v, he, hd⟩ := h
  rw [if_pos rfl] at ht
  subst ht
  simp only [List.cons.injEq, true_and, and_true] at he
  exact ⟨h1, _, rfl, he ▸ hd⟩
 ·rw [if_neg hk] at ht
  rw [hat, ht]
  exact h

set_option maxRecDepth 100000 in
set_option maxHeartbeats 4000000 in
theorem change_any {O R : Nat → Prop} {w : World} {p : Value} {m : Fs} {cs : List Value} (c : Ch) (h : IsRef O R w p m) (hc : IsOp R w cs c) (hl : m.now.length ≤ 900000) (hpl : m.pend.length ≤ 1000000) (ht : m.time ≤ 1000000) :
  Calls Tryz.prog 191 #[p, .agg cs.toArray] w fun e w' => e = .returned (.tuple #[]) ∧ RefPost O R w p (does m c) w' := by
 obtain ⟨g, vn, vs, vp, vl, vu, rfl, hg, hO, hP⟩ := h
 obtain ⟨na, nc, rfl, -⟩ := rows_get hP.now
 have HC : Hid _ := hc
 obtain ⟨kind, p, q, mode, time, a, n, cap, rfl, hkind⟩ := hc.shape
 have hx1 : Ext w (w.alloc (.cells #[.int .i64 kind, S8 p, S8 q, .int .i64 mode, .slice a n cap, .int .i64 time] 185)) := (Ext.refl w).alloc _
 have hg1 := Ext.row hx1 hg
 have hb1 := alloc_at w (.cells #[.int .i64 kind, S8 p, S8 q, .int .i64 mode, .slice a n cap, .int .i64 time] 185)
 have hgl := (Array.getElem?_eq_some_iff.1 hg).1
 obtain ⟨d0, d1, d2, d3, d4, d5, d6, d7, d8⟩ := cellsAt9 hg1
 have hbne : w.heap.size ≠ g := by omega
 have HX1 : Hid _ := hx1
 have HP : Hid _ := hP
 have HG : Hid _ := hg
 have HG1 : Hid _ := hg1
 have HB1 : Hid _ := hb1
 have HK : Hid _ := hkind
 clear hc hx1 hP hg hg1 hb1 hkind
 -- behind the tick and the stamp
 obtain ⟨t2, ht2⟩ : ∃ t2 : Int, t2 = if kind = 1 then ((m.time + 1 : Nat) : Int) else time := ⟨_, rfl⟩
 have HT2 : Hid _ := ht2
 by_cases hk1 : kind = 1
 case' pos =>
  have htt : t2 = ((m.time + 1 : Nat) : Int) := by rw [ht2, if_pos hk1]
  have HTT : Hid _ := htt
  have HK1 : Hid _ := hk1
  have hkb : (kind == 1) = true := by simpa using hk1
  clear ht2 htt hk1
  go_enter Tryz.func191, Tryz.ntmps191
  go_wp2_with (first
   | (refine store_field rfl 3 (.tmp 10) (.tmp 8) rfl g 6 rfl (.int .i64 ((m.time : Int) + 1)) rfl rfl _ _ HG1.out (Nat.le_of_ble_eq_true rfl) size_int (refCells m.room (.slice na m.now.length nc) vs vp vl m.calls (m.time + 1) m.down vu) (by simp) ?_; intro w2 hg2 hgr2; obtain ⟨a0, a1, a2, a3, a4, a5, a6, a7, a8⟩ := cellsAt9 hg2; have hb2 := but_row hgr2 HB1.out hbne; obtain ⟨b0, b1, b2, b3, b4, b5⟩ := cellsAt6 hb2; clear d0 d1 d2 d3 d4 d5 d6 d7 d8)
   | (refine store_field rfl 3 (.tmp 19) (.tmp 17) rfl w.heap.size 5 rfl (.int .i64 t2) (by rw [HTT.out]; rfl) rfl _ _ hb2 (Nat.le_of_ble_eq_true rfl) size_int #[.int .i64 kind, S8 p, S8 q, .int .i64 mode, .slice a n cap, .int .i64 t2] (by simp) ?_; intro w3 hb3 hgr3; have hg3 := but_row hgr3 hg2 (Ne.symm hbne)))
  have hW3 := (grown_ext HX1.out hgr2).andThen hgr3 (fun j hj => .inl (by cases hj; exact Nat.le_refl _))
  clear hb2 hgr2 hgr3 hg2 a0 a1 a2 a3 a4 a5 a6 a7 a8 b0 b1 b2 b3 b4 b5
 case' neg =>
  have htt : t2 = time := by rw [ht2, if_neg hk1]
  have HK1 : Hid _ := hk1
  have hkb : (kind == 1) = false := by simpa using hk1
  subst htt
  clear ht2 hk1
  go_enter Tryz.func191, Tryz.ntmps191
  go_wp2_with ((refine store_field rfl 3 (.tmp 10) (.tmp 8) rfl g 6 rfl (.int .i64 ((m.time : Int) + 1)) rfl rfl _ _ HG1.out (Nat.le_of_ble_eq_true rfl) size_int (refCells m.room (.slice na m.now.length nc) vs vp vl m.calls (m.time + 1) m.down vu) (by simp) ?_; intro w3 hg3 hgr2; obtain ⟨a0, a1, a2, a3, a4, a5, a6, a7, a8⟩ := cellsAt9 hg3; have hb3 := but_row hgr2 HB1.out hbne; obtain ⟨b0, b1, b2, b3, b4, b5⟩ := cellsAt6 hb3; clear d0 d1 d2 d3 d4 d5 d6 d7 d8))
  have hW3 := grown_ext HX1.out hgr2
  clear hgr2 a0 a1 a2 a3 a4 a5 a6 a7 a8 b0 b1 b2 b3 b4 b5
 all_goals
  have hP3 := HP.out.own HG.out hW3
  have hop3 : IsOp R w3 _ (c.at (m.time + 1)) := IsOp.stamp (IsOp.keepR HC.out (grownR hW3 (by rintro k hk; simp at hk; subst hk; exact cells_u8 HG.out (by kernel_rfl)))) HK.out HT2.out
  obtain ⟨c', hc'⟩ : ∃ c', c.at (m.time + 1) = c' := ⟨_, rfl⟩
  rw [hc'] at hop3
  have HP3 : Hid _ := hP3
  have HOP3 : Hid _ := hop3
  have HC' : Hid _ := hc'
  have HW3 : Hid _ := hW3
  have hs3 := hW3.size
  have hapl := ap_length m.now c'
  obtain ⟨e0, e1, e2, e3, e4, e5, e6, e7, e8⟩ := cellsAt9 hg3
  obtain ⟨f0, f1, f2, f3, f4, f5⟩ := cellsAt6 hb3
  clear hP3 hop3 hc' hW3
  apply wp_region_free 7 0 (.pointer (some ⟨g, 0, none⟩)) [.pointer (some ⟨g, 0, none⟩), _, _, _, _, _, undef] [none, none, none, none, none, none, some (fun u w' => IsRows R w' u (ap m.now c') ∧ NewOr w (.slice na m.now.length nc) u)] [[], [], [1], [2], [3], [], [4, 5]] (by kernel_rfl) (by kernel_rfl) (by simp [mixV])
  ·refine ⟨?_, trivial⟩
   ·exact fun _ _ _ he h => ⟨ReadL.rowsExt h.1 he, h.2⟩
  ·exact ⟨_, rfl, rfl, fun w => by go_simp⟩
  ·exact fun _ => rfl
  ·simp (maxSteps := 1000000) only [List.take_succ_cons, List.take_zero, oblFrom, stepObl, fillFrom, Act.put, List.setIfInBounds_toArray, List.set_cons_zero, List.set_cons_succ, knows, getV, mixV, List.getD_cons_zero, List.getD_cons_succ, and_true, true_and, forall_const]
   refine ⟨?_, ?_, ?_, ?_, ?_, ?_, ?_⟩
   ·intro xs wq hq R hR
    have c1 := hq.cell e1; have c2 := hq.cell f0; have c3 := hq.cell f1; have c4 := hq.cell f2; have c5 := hq.cell f3; have c6 := hq.cell f4; have c7 := hq.cell f5
    go_simp
    exact hR _ _ (Ext.refl _) rfl
   ·intro xs wq hq R hR
    have c1 := hq.cell e1; have c2 := hq.cell f0; have c3 := hq.cell f1; have c4 := hq.cell f2; have c5 := hq.cell f3; have c6 := hq.cell f4; have c7 := hq.cell f5
    go_simp
    exact hR _ _ (Ext.refl _) rfl
   ·intro xs wq hq hk R hR
    have c1 := hq.cell e1; have c2 := hq.cell f0; have c3 := hq.cell f1; have c4 := hq.cell f2; have c5 := hq.cell f3; have c6 := hq.cell f4; have c7 := hq.cell f5
    go_simp
    exact hR _ _ (Ext.refl _) rfl
   ·intro xs wq hq hk R hR
    have c1 := hq.cell e1; have c2 := hq.cell f0; have c3 := hq.cell f1; have c4 := hq.cell f2; have c5 := hq.cell f3; have c6 := hq.cell f4; have c7 := hq.cell f5
    go_simp
    exact hR _ _ (Ext.refl _) rfl
   ·intro xs wq hq hk R hR
    have c1 := hq.cell e1; have c2 := hq.cell f0; have c3 := hq.cell f1; have c4 := hq.cell f2; have c5 := hq.cell f3; have c6 := hq.cell f4; have c7 := hq.cell f5
    go_simp
    exact hR _ _ (Ext.refl _) rfl
   ·intro xs wq hq R hR
    have c1 := hq.cell e1; have c2 := hq.cell f0; have c3 := hq.cell f1; have c4 := hq.cell f2; have c5 := hq.cell f3; have c6 := hq.cell f4; have c7 := hq.cell f5
    go_simp
    exact hR _ _ (Ext.refl _) rfl
   ·intro xs wq hq hk R hR
    obtain ⟨hk0, hk1⟩ := hk
    go_simp
    exact (apply_any (ReadL.rowsExt HP3.out.now hq) (by omega) (IsOp.ext HOP3.out hq)).mono (by rintro e' w5 ⟨⟨v2, rfl, h1, h2⟩, h3⟩; exact ⟨_, rfl, hR _ _ h3 ⟨h1, fun k hk => (h2 k hk).imp id (fun h => by have := Below.size hq; omega)⟩⟩)
  intro xs w4 hx4 hk
  simp only [heldV, Nat.zero_add, Nat.reduceAdd, and_true] at hk
  obtain ⟨q0, q1, q2, q3, q4, q5, q6⟩ := hk
  simp (maxSteps := 1000000) only [List.take_succ_cons, List.take_zero, List.drop_succ_cons, List.drop_zero, fillFrom, Act.put, List.setIfInBounds_toArray, List.set_cons_zero, List.set_cons_succ, Nat.zero_add, Nat.reduceAdd, q0, q1, q2, q3, q4, q5]
  clear q0 q1 q2 q3 q4 q5
  generalize xs 6 = x6 at *
  obtain ⟨hrows4, hnew4⟩ := q6
  obtain ⟨ya, yc, rfl, -⟩ := rows_get hrows4
  have HR4 : Hid _ := hrows4
  have HN4 : Hid _ := hnew4
  have hg4 := Ext.row hx4 hg3
  have hb4 := Ext.row hx4 hb3
  have HX4 : Hid _ := hx4
  have HP4 : Hid _ := HP3.out.ext hx4
  have hs4 := hx4.size
  clear hrows4 hnew4 e0 e1 e2 e3 e4 e5 e6 e7 e8 f0 f1 f2 f3 f4 f5 hx4
  go_wp2_with (refine store_field rfl 129 (.tmp 28) (.tmp 26) rfl g 1 rfl (.slice ya (ap m.now c').length yc) rfl rfl _ _ hg4 (Nat.le_of_ble_eq_true rfl) size_rows (refCells m.room (.slice ya (ap m.now c').length yc) vs vp vl m.calls (m.time + 1) m.down vu) (by simp) ?_; intro w5 hg5 hgr5)
  refine NoP.intro ?_
  have hr4 : IsRows (On R w.heap.size) w4 (.slice ya (ap m.now c').length yc) (ap m.now c') := ReadL.rowsMono HR4.out (fun k hk => .inl hk)
  have hP5 := (((HP4.out.mono (O' := On O w.heap.size) (R' := On R w.heap.size) (fun k hk => .inl hk) (fun k hk => .inl hk)).setNow hr4 (fun k hk => (HN4.out k hk).imp (HP.out.on k) id)).own hg4 hgr5)
  have hb5 := but_row hgr5 hb4 hbne
  have hW5 : w3.grownBy w5 (some g) := grown_ext HX4.out hgr5
  have HP5 : Hid _ := hP5
  have hop5 : IsOp R w5 _ c' := IsOp.keepR HOP3.out (grownR hW5 (by rintro k hk; simp at hk; subst hk; exact cells_u8 hg3 (by kernel_rfl)))
  have HOP5 : Hid _ := hop5
  obtain ⟨css, hown5, heach5⟩ := HP5.out.pend
  obtain ⟨pa, pc, rfl, -⟩ := Row.of_owns hown5 (by omega)
  have HE5 : Hid _ := heach5
  have hfr5 : Fr O w w5 := (((Fr.refl O w).step HW3.out (fun k hk => by cases hk; exact .inl hO) (by rintro k hk; cases hk; exact cells_u8 HG.out (by kernel_rfl))).ext HX4.out).step hgr5 (fun k hk => by cases hk; exact .inl hO) (by rintro k hk; cases hk; exact cells_u8 hg4 (by kernel_rfl))
  have HFR5 : Hid _ := hfr5
  have hs5 := hgr5.size
  obtain ⟨e0, e1, e2, e3, e4, e5, e6, e7, e8⟩ := cellsAt9 hg5
  obtain ⟨f0, f1, f2, f3, f4, f5⟩ := cellsAt6 hb5
  clear hP5 hop5 heach5 hfr5 hr4 hW5
  go_wp2_with fail
  apply wp_region_free 7 0 (.pointer (some ⟨g, 0, none⟩)) [.pointer (some ⟨g, 0, none⟩), _, _, _, _, .agg #[.int .i64 kind, S8 p, S8 q, .int .i64 mode, .slice a n cap, .int .i64 t2], undef] [none, none, none, none, none, none, some (fun u w' => ∃ k, u = .slice (some ⟨k, 0, none⟩) 1 1 ∧ w'.heap[k]? = some (.cells #[.int .i64 kind, S8 p, S8 q, .int .i64 mode, .slice a n cap, .int .i64 t2] 185 (0, 0)))] [[], [], [1], [2], [3], [], [5]] (by kernel_rfl) (by kernel_rfl) (by simp [mixV])
  ·refine ⟨?_, trivial⟩
   ·exact fun _ _ _ he ⟨k, h1, h3⟩ => ⟨k, h1, he.row h3⟩
  ·exact ⟨_, rfl, rfl, fun w => by go_simp⟩
  ·exact fun _ => rfl
  ·simp (maxSteps := 1000000) only [List.take_succ_cons, List.take_zero, oblFrom, stepObl, fillFrom, Act.put, List.setIfInBounds_toArray, List.set_cons_zero, List.set_cons_succ, knows, getV, mixV, List.getD_cons_zero, List.getD_cons_succ, and_true, true_and, forall_const]
   refine ⟨?_, ?_, ?_, ?_, ?_, ?_, ?_⟩
   ·intro xs wq hq R hR
    have c1 := hq.cell e3; have c2 := hq.cell f0; have c3 := hq.cell f1; have c4 := hq.cell f2; have c5 := hq.cell f3; have c6 := hq.cell f4; have c7 := hq.cell f5
    go_simp
    exact hR _ _ (Ext.refl _) rfl
   ·intro xs wq hq R hR
    have c1 := hq.cell e3; have c2 := hq.cell f0; have c3 := hq.cell f1; have c4 := hq.cell f2; have c5 := hq.cell f3; have c6 := hq.cell f4; have c7 := hq.cell f5
    go_simp
    exact hR _ _ (Ext.refl _) rfl
   ·intro xs wq hq hk R hR
    have c1 := hq.cell e3; have c2 := hq.cell f0; have c3 := hq.cell f1; have c4 := hq.cell f2; have c5 := hq.cell f3; have c6 := hq.cell f4; have c7 := hq.cell f5
    go_simp
    exact hR _ _ (Ext.refl _) rfl
   ·intro xs wq hq hk R hR
    have c1 := hq.cell e3; have c2 := hq.cell f0; have c3 := hq.cell f1; have c4 := hq.cell f2; have c5 := hq.cell f3; have c6 := hq.cell f4; have c7 := hq.cell f5
    go_simp
    exact hR _ _ (Ext.refl _) rfl
   ·intro xs wq hq hk R hR
    have c1 := hq.cell e3; have c2 := hq.cell f0; have c3 := hq.cell f1; have c4 := hq.cell f2; have c5 := hq.cell f3; have c6 := hq.cell f4; have c7 := hq.cell f5
    go_simp
    exact hR _ _ (Ext.refl _) rfl
   ·intro xs wq hq R hR
    have c1 := hq.cell e3; have c2 := hq.cell f0; have c3 := hq.cell f1; have c4 := hq.cell f2; have c5 := hq.cell f3; have c6 := hq.cell f4; have c7 := hq.cell f5
    go_simp
    exact hR _ _ (Ext.refl _) rfl
   ·intro xs wq hq hk R hR
    go_simp
    exact hR _ _ ((Ext.refl _).alloc _) ⟨_, rfl, alloc_at _ _⟩
  intro xs w6 hx6 hk
  simp only [heldV, Nat.zero_add, Nat.reduceAdd, and_true] at hk
  obtain ⟨q0, q1, q2, q3, q4, q5, q6⟩ := hk
  simp (maxSteps := 1000000) only [List.take_succ_cons, List.take_zero, List.drop_succ_cons, List.drop_zero, fillFrom, Act.put, List.setIfInBounds_toArray, List.set_cons_zero, List.set_cons_succ, Nat.zero_add, Nat.reduceAdd, q0, q1, q2, q3, q4, q5]
  clear q0 q1 q2 q3 q4 q5
  generalize xs 6 = x6 at *
  obtain ⟨k6, rfl, hk6⟩ := q6
  have hown6 := owns_ext hown5 hx6
  have hgg6 := Ext.row hx6 hg5
  have HP6 : Hid _ := HP5.out.ext hx6
  have hs6 := hx6.size
  clear hown5 e0 e1 e2 e3 e4 e5 e6 e7 e8 f0 f1 f2 f3 f4 f5
  go_wp2_with (first
   | (at_builtin; go_must (refine app_op rfl _ _ rfl 0 _ m.pend.length _ rfl hown6 k6 1 _ rfl rfl hk6 (by simp [Value.oneCell']) (by omega) (Nat.zero_le _) ?_; intro v7 w7 hown7 hgr7 hwh7; obtain ⟨va, vc, rfl⟩ := owns_some hown7 (by omega); have hgg7 : w7.heap[g]? = _ := (hgr7.block g (Array.getElem?_eq_some_iff.1 hgg6).1 (fun heq => by obtain ⟨cs9, fr9, hx9⟩ := HP6.out.pend.typed g heq.symm; rw [hgg6] at hx9; simp at hx9)).trans hgg6))
   | (refine store_field rfl 130 (.tmp 38) (.tmp 36) rfl g 3 rfl (.slice (some ⟨va, 0, none⟩) (m.pend.length + 1) vc) rfl rfl _ _ hgg7 (Nat.le_of_ble_eq_true rfl) size_ops (refCells m.room (.slice ya (ap m.now c').length yc) vs (.slice (some ⟨va, 0, none⟩) (m.pend.length + 1) vc) vl m.calls (m.time + 1) m.down vu) (by simp) ?_; intro w8 hg8 hgr8))
  refine NoP.intro ?_
  go_end0
  have hu6 : ∀ k, Value.ownBlock (.slice pa m.pend.length pc) = some k → ¬ IsU8 w6 k := fun k hk => by
   obtain ⟨cs9, fr9, hx9⟩ := HP6.out.pend.typed k hk
   exact cells_u8 hx9 (by kernel_rfl)
  have k57 : ∀ (R : Nat → Prop), KeepR R w5 w7 := fun R => by
   have a := KeepR.of_keep (R := R) (KeepB.of_ext hx6)
   have b : KeepR R w6 w7 := grownR hgr7 hu6
   exact KeepR.trans a b
  have hn7 : OwnL w7 185 6 (IsOp (On R w.heap.size) w7) (.slice (some ⟨va, 0, none⟩) (m.pend.length + 1) vc) (m.pend ++ [c']) :=
   OwnL.app HE5.out hown7 (fun c x hx => hx.keepR (k57 _)) ((IsOp.keepR HOP5.out (k57 _)).mono (fun k hk => .inl hk))
  have hP7 := HP6.out.appPend hgr7 hn7 (fun k hk => by
   rcases hwh7 k hk with h1 | h1
   ·exact HP6.out.op k h1
   ·exact .inr (by omega))
  have hdo : does m c = { m with time := m.time + 1, now := ap m.now c', pend := m.pend ++ [c'] } := by
   unfold does
   rw [HC'.out]
  rw [hdo]
  refine ⟨rfl, IsRef.fit ⟨g, _, vs, _, vl, vu, rfl, hg8, .inl hO, hP7.own hgg7 hgr8⟩, ?_⟩
  exact ((Fr.ext HFR5.out hx6).step hgr7 (fun k hk => by rcases HP6.out.op k hk with h | h; exact .inl h; exact .inr h) hu6).step hgr8 (fun k hk => by cases hk; exact .inl hO) (by rintro k hk; cases hk; exact cells_u8 hgg7 (by kernel_rfl))

end Go.Proofs.YtfimfbdlegookaaGreatDoor

/-! marref1.Under: what it answers. Conditions: texts of at most 1000000 signs. -/
namespace Go.Proofs.YtfimfbdlegookaaGreatDoor
open Go Go.RowKit

theorem cut_snoc (c : UInt8) : ∀ l : B8, cut c (l ++ [c]) = cut c l ++ [[]]
 | [] => by simp [cut]
 | x :: l => by
  have ih := cut_snoc c l
  rw [List.cons_append, cut, cut]
  split
  ·rw [ih]; rfl
  ·rw [ih]
   cases hc : cut c l with
   | nil => exact absurd hc (cut_ne c l)
   | cons h t => rfl
theorem path_end {l : B8} (h : pathB (l ++ [47]) = true) : False := by
 unfold pathB at h
 simp only [Bool.and_eq_true, List.all_eq_true] at h
 have := h.2.1 [] (by rw [cut_snoc]; simp)
 revert this; decide
theorem under_eq {d s : B8} (hs : pathB s = true) : isUnder d s = true ↔ d.length + 1 < s.length ∧ s.take d.length = d ∧ s[d.length]? = some 47 := by
 unfold isUnder
 rw [List.isPrefixOf_iff_prefix]
 constructor
 ·rintro ⟨t, rfl⟩
  have ht : t ≠ [] := by
   rintro rfl
   rw [List.append_nil] at hs
   exact path_end hs
  have h1 := List.length_pos_iff.2 ht
  refine ⟨by simp; omega, by simp, by simp⟩
 ·rintro ⟨h1, h2, h3⟩
  refine ⟨s.drop (d.length + 1), ?_⟩
  have e := List.take_append_drop (d.length + 1) s
  rw [List.take_add_one, h2, h3] at e
  exact e

set_option maxRecDepth 100000 in
set_option maxHeartbeats 1000000 in
theorem runder_any (d s : B8) (w : World) (hd : d.length ≤ 1000000) (hs : s.length ≤ 1000000) :
  Calls Tryz.prog 161 #[S8 d, S8 s] w fun e w' => e = .returned (.bool (pathB d && (pathB s && isUnder d s))) ∧ Ext w w' := by
 have hts : (⟨s.toArray⟩ : ByteArray).toList = s := Lib.toList_data _
 have htd : (⟨d.toArray⟩ : ByteArray).toList = d := Lib.toList_data _
 go_enter Tryz.func161, Tryz.ntmps161
 go_wp2_with fail
 go_at_call 155
 refine (rpath_any d _ hd).mono ?_
 rintro e w1 ⟨rfl, hx1⟩
 cases hp1 : pathB d
 ·have HP1 : Hid _ := hp1
  clear hp1
  go_wp2
  go_ret
  exact ⟨ret_b (by rw [HP1.out]; rfl), hx1⟩
 have HP1 : Hid _ := hp1
 clear hp1
 go_wp2_with fail
 go_at_call 155
 refine (rpath_any s _ hs).mono ?_
 rintro e w2 ⟨rfl, hx2⟩
 cases hp2 : pathB s
 ·have HP2 : Hid _ := hp2
  clear hp2
  go_wp2
  go_ret
  exact ⟨ret_b (by rw [HP1.out, HP2.out]; rfl), hx1.trans hx2⟩
 have HP2 : Hid _ := hp2
 have HU : Hid _ := @under_eq d s hp2
 clear hp2
 by_cases h1 : d.length + 1 < s.length
 ·have h1i : (d.length : Int) + 1 < (s.length : Int) := by omega
  have hidx : d.length < s.length := by omega
  have hex : ((⟨s.toArray⟩ : ByteArray).extract 0 d.length).toList = s.take d.length := by
   rw [extract_list ⟨s.toArray⟩ 0 d.length (Nat.zero_le _) (by show d.length ≤ s.length; omega)]
   simp [Lib.toList_data]
  have hget : (⟨s.toArray⟩ : ByteArray)[d.length]'(by show d.length < s.length; exact hidx) = s[d.length] := rfl
  obtain ⟨bq, hbq⟩ : ∃ bq, (((⟨s.toArray⟩ : ByteArray).extract 0 d.length).toList == d) = bq := ⟨_, rfl⟩
  have HB : Hid ((s.take d.length == d) = bq) := by unfold Hid; rw [← hex]; exact hbq
  have HG : Hid _ := hget
  clear hex hget
  cases bq with
  | true =>
   go_wp2
   go_ret
   refine ⟨ret_b ?_, hx1.trans hx2⟩
   rw [HP1.out, HP2.out, Bool.true_and, Bool.true_and]
   have h2 : s.take d.length = d := by simpa using HB.out
   rw [Bool.eq_iff_iff, HU.out, HG.out]
   constructor
   ·intro h3
    have h4 : s[d.length].toNat = 47 := by have := beq_iff_eq.1 h3; omega
    refine ⟨h1, h2, ?_⟩
    rw [List.getElem?_eq_getElem hidx]
    exact congrArg some (UInt8.toNat_inj.1 h4)
   ·rintro ⟨_, _, h3⟩
    rw [List.getElem?_eq_getElem hidx] at h3
    rw [Option.some.inj h3]
    rfl
  | false =>
   have HF : Hid (isUnder d s = false) := by
    unfold Hid
    cases hu : isUnder d s with
    | false => rfl
    | true =>
     have := HB.out
     rw [(HU.out.1 hu).2.1] at this
     simp at this
   go_wp2
   go_ret
   exact ⟨ret_b (by rw [HP1.out, HP2.out, HF.out]; rfl), hx1.trans hx2⟩
 ·have h1i : ¬ (d.length : Int) + 1 < (s.length : Int) := by omega
  have HF : Hid (isUnder d s = false) := by
   unfold Hid
   cases hu : isUnder d s with
   | false => rfl
   | true => exact absurd (HU.out.1 hu).1 h1
  go_wp2
  go_ret
  exact ⟨ret_b (by rw [HP1.out, HP2.out, HF.out]; rfl), hx1.trans hx2⟩

end Go.Proofs.YtfimfbdlegookaaGreatDoor

/-! marref5.may: may a file stand at a path? Conditions: all paths may be. -/
namespace Go.Proofs.YtfimfbdlegookaaGreatDoor
open Go Go.RowKit

theorem mayR_full {l : Files} {path : B8} {k : Nat} (h : mayR (l.take k) path = true) (hk : l.length ≤ k) : mayR l path = true := by
 rwa [List.take_of_length_le hk] at h

set_option maxRecDepth 100000 in
set_option maxHeartbeats 1000000 in
theorem mayR_any {R : Nat → Prop} {w : World} {v : Value} {l : Files} (path : B8) (hv : IsRows R w v l) (hp : pathB path = true) (hl : ∀ e ∈ l, pathB e.1 = true) :
  Calls Tryz.prog 190 #[v, S8 path] w fun e w' => e = .returned (.bool (mayR l path)) ∧ Ext w w' := by
 obtain ⟨a, cap, rfl, h1, h2, h3, h4⟩ := rows_get hv
 have H4 : Hid _ := h4
 have HP : Hid _ := hp
 have HL : Hid _ := hl
 have hps := path_short hp
 clear h4 hv hp hl
 go_enter Tryz.func190, Tryz.ntmps190
 go_wp2
 go_loopw [5] (fun i wr => ∃ k : Nat, k ≤ l.length ∧ i = .int .i64 k ∧ mayR (l.take k) path = true ∧ Ext w wr) (fun i _ => l.length - (intOf i).toNat)
 case atStart => exact ⟨0, Nat.zero_le _, rfl, rfl, Ext.refl _⟩
 case round =>
  obtain ⟨k, hk, rfl, hn, hx⟩ := hrel
  have HN : Hid _ := hn
  clear hn
  by_cases hlt : k < l.length
  ·obtain ⟨⟨q, f⟩, hke⟩ : ∃ e, l[k]? = some e := ⟨_, List.getElem?_eq_getElem hlt⟩
   obtain ⟨b, o, s, c, rfl, hql, hd, c0, -, -, -⟩ := H4.out k q f hke
   replace c0 := hx.cell c0
   have HQ : Hid (pathB q = true) := HL.out (q, f) (List.mem_of_getElem? hke)
   have HM : Hid _ := List.mem_of_getElem? hke
   have HT : Hid _ := mayR_take HN.out hke
   obtain ⟨u1, hu1⟩ : ∃ u1, isUnder path q = u1 := ⟨_, rfl⟩
   obtain ⟨u2, hu2⟩ : ∃ u2, isUnder q path = u2 := ⟨_, rfl⟩
   have HU1 : Hid _ := hu1
   have HU2 : Hid _ := hu2
   clear hd hke hu1 hu2
   cases u1 with
   | true =>
    go_wp2_with (go_at_call 161; go_must (refine (runder_any path q _ (by omega) (by omega)).mono ?_; rw [HP.out, HQ.out, HU1.out]; rintro e w2 ⟨rfl, hx2⟩))
    go_ret
    exact ⟨ret_b (by rw [mayR_no HM.out (by rw [HU1.out]; rfl)]), hx.trans hx2⟩
   | false =>
    go_wp2_with fail
    go_at_call 161
    refine (runder_any path q _ (by omega) (by omega)).mono ?_
    rw [HP.out, HQ.out, HU1.out]
    rintro e w2 ⟨rfl, hx2⟩
    replace c0 := hx2.cell c0
    go_wp2_with fail
    go_at_call 161
    refine (runder_any q path _ (by omega) (by omega)).mono ?_
    rw [HP.out, HQ.out, HU2.out]
    rintro e w3 ⟨rfl, hx3⟩
    cases u2 with
    | true =>
     go_wp2
     go_ret
     exact ⟨ret_b (by rw [mayR_no HM.out (by rw [HU2.out, Bool.or_true])]), (hx.trans hx2).trans hx3⟩
    | false =>
     go_wp2
     go_roundw
     case rel => exact ⟨k + 1, by omega, by go_num, by rw [HT.out, HU1.out, HU2.out]; rfl, (hx.trans hx2).trans hx3⟩
     case measure => simp [intOf]; omega
  ·have hkk : l.length ≤ k := by omega
   have HF : Hid _ := mayR_full HN.out hkk
   go_wp2
   go_ret
   exact ⟨ret_b (by rw [HF.out]), hx⟩

end Go.Proofs.YtfimfbdlegookaaGreatDoor

/-! marref5.FS: safe, drop. Conditions: at most 900000 ticks; short paths. -/
namespace Go.Proofs.YtfimfbdlegookaaGreatDoor
open Go Go.RowKit
variable [Inhabited BaseW]

section
variable {ops : Array Oper} {rest : List Oper} {o : Oper} {a : Act} {Q : Exit → Act → World → Prop} {w : World}
/-- append of rows, of whatever slice. -/
theorem app_rows_op (hgd : o.guard = none) (s x : Operand) (ho : o.op = .call { callee := .builtin .append, args := #[s, x], argTypes := #[129, 129] }) (hty : o.type = 129)
  (base : Nat) (v : Value) (n : Nat) (xs : List Value) (hs : a.eval s = v) (hown : w.ownsRow base 182 4 v n xs)
  (xv : Value) (m : Nat) (news : List Value) (hx : a.eval x = xv) (hrow : Row w xv m news) (hl : news.length = m * 4) (h1 : ∀ u ∈ news, u.oneCell' = true) (hb : n + m ≤ 1000000000) (hbase : base ≤ w.heap.size)
  (h : ∀ v' w', w'.ownsRow base 182 4 v' (n + m) (xs ++ news) → w.grownBy w' v.ownBlock → wpList Tryz.prog ops Q rest (a.put o.dst v') w') : wpList Tryz.prog ops Q (o :: rest) a w := by
 refine wpList_plain hgd fun K hK => ?_
 obtain ⟨v', w', hr, h2, h3, h4⟩ := app_rows_run base v n xs hown xv m news hrow hl h1 hb hbase
 unfold Oper.wp execOp
 simp only [ho, hty, resolve, invoke, builtin, Sem.run_bind, Sem.run_pure, Result.andThen_ok, List.map_toArray, List.map_cons, List.map_nil, hs, hx, hr]
 exact hK _ _ (h v' w' h2 h3)
end
theorem rows_cells {R : Nat → Prop} {w : World} {v : Value} {l : Files} (h : IsRows R w v l) : ∃ css : List (List Value), Row w v l.length css.flatten ∧ Each (IsRowR R w) css l ∧ css.flatten.length = l.length * 4 ∧ (∀ u ∈ css.flatten, u.oneCell' = true) := by
 obtain ⟨css, h1, h2, h3⟩ := h
 exact ⟨css, h1, h3, by rw [flat_len (Each.len h3 (fun c x hx => hx.length.1)), h3.1], Each.one h3 (fun c x hx => hx.length.2)⟩

set_option maxRecDepth 100000 in
set_option maxHeartbeats 2000000 in
theorem safe_any {O R : Nat → Prop} {w : World} {p : Value} {m : Fs} (h : IsRef O R w p m) (hl : m.now.length ≤ 1000000) :
  Calls Tryz.prog 158 #[p] w fun e w' => e = .returned (.tuple #[]) ∧ RefPost O R w p (settle m) w' := by
 obtain ⟨g, vn, vs, vp, vl, vu, rfl, hg, hO, hP⟩ := h
 obtain ⟨na, nc, rfl, -⟩ := rows_get hP.now
 obtain ⟨css, hrow, heach, hfl, hone⟩ := rows_cells hP.now
 have hx1 : Ext w (w.alloc (.cells #[] 182)) := (Ext.refl _).alloc _
 have hown1 : (w.alloc (.cells #[] 182)).ownsRow w.heap.size 182 4 (.slice (some ⟨w.heap.size, 0, none⟩) 0 0) 0 [] := ⟨rfl, .inr ⟨w.heap.size, 0, #[], rfl, Nat.le_refl _, alloc_at _ _, Nat.le_refl _, by unfold maxLen; omega, rfl, rfl⟩⟩
 have hg1 := Ext.row hx1 hg
 obtain ⟨d0, d1, d2, d3, d4, d5, d6, d7, d8⟩ := cellsAt9 hg1
 have hgl := (Array.getElem?_eq_some_iff.1 hg).1
 have HX1 : Hid _ := hx1
 have HG : Hid _ := hg
 have HG1 : Hid _ := hg1
 have HP : Hid _ := hP
 have HROW : Hid _ := hrow.ext hx1
 have HEA : Hid _ := heach
 have HFL : Hid _ := hfl
 have HONE : Hid _ := hone
 have HOWN1 : Hid _ := hown1
 clear hg hP hrow heach hfl hone hown1 hx1 hg1
 go_enter Tryz.func158, Tryz.ntmps158
 go_wp2_with (first
  | (at_builtin; go_must (refine app_rows_op rfl _ _ rfl rfl w.heap.size _ 0 [] rfl HOWN1.out _ m.now.length css.flatten rfl HROW.out HFL.out HONE.out (by omega) (by simp) ?_; intro v2 w2 hown2 hgr2; rw [Nat.zero_add, List.nil_append] at hown2; have hx2 : Ext w w2 := owns_ext_app HX1.out HOWN1.out hgr2; have hg2 := Ext.row hx2 HG.out; obtain ⟨ya, yc, rfl, -⟩ := Row.of_owns hown2 (by omega)))
  | (refine store_field rfl 129 (.tmp 10) (.tmp 8) rfl g 2 rfl (.slice ya m.now.length yc) rfl rfl _ _ hg2 (Nat.le_of_ble_eq_true rfl) size_rows (refCells m.room (.slice na m.now.length nc) (.slice ya m.now.length yc) vp vl m.calls m.time m.down vu) (by simp) ?_; intro w3 hg3 hgr3)
  | (refine store_field rfl 130 (.tmp 13) _ rfl g 3 rfl (.slice none 0 0) rfl rfl _ _ hg3 (Nat.le_of_ble_eq_true rfl) size_ops (refCells m.room (.slice na m.now.length nc) (.slice ya m.now.length yc) (.slice none 0 0) vl m.calls m.time m.down vu) (by simp) ?_; intro w4 hg4 hgr4))
 go_end0
 have hown : OwnRows w.heap.size R w2 (.slice ya m.now.length yc) m.now := ⟨css, hown2, Each.imp HEA.out (fun c x hc => IsRowR.keepR hc (KeepR.of_keep (KeepB.of_ext hx2)))⟩
 have hP2 := ((HP.out.ext hx2).mono (O' := On O w.heap.size) (R' := On R w.heap.size) (fun k hk => .inl hk) (fun k hk => .inl hk)).setSure (ReadL.rowsMono (hown.rows (by omega)) (fun k hk => .inl hk)) (fun k hk => .inr (hown.lt hk).1)
 have hP4 := ((hP2.own hg2 hgr3).own hg3 hgr4).noPend
 refine ⟨rfl, IsRef.fit ⟨g, _, _, _, vl, vu, rfl, hg4, .inl hO, hP4⟩, ?_⟩
 exact (((Fr.refl O w).ext hx2).step hgr3 (fun k hk => by cases hk; exact .inl hO) (by rintro k hk; cases hk; exact cells_u8 hg2 (by kernel_rfl))).step hgr4 (fun k hk => by cases hk; exact .inl hO) (by rintro k hk; cases hk; exact cells_u8 hg3 (by kernel_rfl))

set_option maxRecDepth 100000 in
set_option maxHeartbeats 2000000 in
theorem drop_any {O R : Nat → Prop} {w : World} {p : Value} {m : Fs} (path : B8) (h : IsRef O R w p m) (hok : OkM m) (ht : m.time ≤ 800000) (hp : path.length ≤ 400) :
  Calls Tryz.prog 159 #[p, S8 path] w fun e w' => e = .returned (.int .i64 (removesM m path).2) ∧ RefPost O R w p (removesM m path).1 w' := by
 have HH : Hid (IsRef O R w p m) := h
 have hl := hok.lnow
 have hpl := hok.lpend
 have HDEF : Hid (removesM m path = if pathB path = false then (m, 6) else if (look m.now path).isNone then (m, 7) else (does m (.del path), 0)) := rfl
 obtain ⟨g, vn, vs, vp, vl, vu, rfl, hg, hO, hP⟩ := h
 obtain ⟨na, nc, rfl, -⟩ := rows_get hP.now
 have HG : Hid _ := hg
 have HP : Hid _ := hP
 clear hg hP hok
 obtain ⟨pb, hpb⟩ : ∃ pb, pathB path = pb := ⟨_, rfl⟩
 have HPB : Hid _ := hpb
 rw [hpb] at HDEF
 clear hpb
 go_enter Tryz.func159, Tryz.ntmps159
 go_wp2_with fail
 go_at_call 155
 refine (rpath_any path _ (by omega)).mono ?_
 rw [HPB.out]
 rintro e w2 ⟨rfl, hx2⟩
 cases pb with
 | false =>
  go_wp2
  go_ret
  rw [HDEF.out]
  exact ⟨rfl, RefPost.same HH.out hx2⟩
 | true =>
  obtain ⟨d0, d1, d2, d3, d4, d5, d6, d7, d8⟩ := cellsAt9 (Ext.row hx2 HG.out)
  go_wp2_with fail
  go_at_call 164
  refine (find_any path (ReadL.rowsExt HP.out.now hx2)).mono ?_
  rintro e w3 ⟨⟨i, rfl, hpl2⟩, hx3⟩
  rcases hpl2 with ⟨hlk, rfl⟩ | ⟨k, f, rfl, hk, hlk⟩
  ·have HD : Hid (removesM m path = (m, 7)) := by unfold Hid; rw [HDEF.out, hlk]; rfl
   clear hlk HDEF
   go_wp2
   go_ret
   rw [HD.out]
   exact ⟨rfl, RefPost.same HH.out (hx2.trans hx3)⟩
  ·have HD : Hid (removesM m path = (does m (.del path), 0)) := by unfold Hid; rw [HDEF.out, hlk]; rfl
   clear hlk hk HDEF
   have hk0 : ¬ (k : Int) < 0 := by omega
   go_wp2_with (go_at_call 191; go_must (refine (change_any (.del path) (cs := [.int .i64 3, S8 path, S8 [], .int .i64 0, .slice none 0 0, .int .i64 0]) (IsRef.ext HH.out (hx2.trans hx3)) ⟨by omega, rfl⟩ (by omega) (by omega) (by omega)).mono ?_; rintro e w4 ⟨rfl, h4⟩))
   go_ret
   rw [HD.out]
   exact ⟨rfl, RefPost.pre (hx2.trans hx3) h4⟩

end Go.Proofs.YtfimfbdlegookaaGreatDoor

/-! marref.CopyBytes; marref5.FS: put. Conditions: at most 800000 ticks; short paths. -/
namespace Go.Proofs.YtfimfbdlegookaaGreatDoor
open Go Go.RowKit
variable [Inhabited BaseW]

set_option maxRecDepth 100000 in
set_option maxHeartbeats 1000000 in
theorem copyB_any (v : Value) (l : B8) (w : World) (hv : IsBytes w v l) :
  Calls Tryz.prog 87 #[v] w fun e w' => (∃ v', e = .returned v' ∧ IsData (Nu w w') w' v' l) ∧ Ext w w' := by
 have hl := hv.len
 obtain ⟨a, cap, rfl, h1, h2, h3, h4⟩ := id hv
 have hx : Ext w (w.alloc (.cells #[] 5)) := (Ext.refl w).alloc _
 cases l with
 | nil =>
  have hres : IsData (Nu w (w.alloc (.cells #[] 5))) (w.alloc (.cells #[] 5)) (.slice (some ⟨w.heap.size, 0, none⟩) 0 0) [] :=
   ⟨⟨_, 0, rfl, Nat.le_refl _, by omega, by simp, fun h => absurd rfl h⟩, TypB.at (alloc_at _ _), fun k hk => by
    have : w.heap.size = k := by simpa [Value.ownBlock] using hk
    subst this
    exact ⟨Nat.le_refl _, by simp⟩⟩
  have HRES : Hid _ := hres
  clear hv h4 hres
  go_enter Tryz.func87, Tryz.ntmps87
  cases a with
  | none =>
   go_wp2
   go_ret
   exact ⟨⟨_, rfl, HRES.out⟩, (Ext.refl _).alloc _⟩
  | some ad =>
   go_wp2
   go_ret
   exact ⟨⟨_, rfl, HRES.out⟩, (Ext.refl _).alloc _⟩
 | cons x t =>
  obtain ⟨b, o, rfl, hc⟩ := h4 (by simp)
  generalize hL : x :: t = L at *
  have hown : (w.alloc (.cells #[] 5)).ownsRow w.heap.size 5 1 (.slice (some ⟨w.heap.size, 0, none⟩) 0 0) 0 [] := ⟨rfl, .inr ⟨w.heap.size, 0, #[], rfl, Nat.le_refl _, alloc_at _ _, Nat.le_refl _, by unfold maxLen; omega, rfl, rfl⟩⟩
  have hnews : ∀ (j : Nat) u, (L.map fun x => Value.int .u8 x.toNat)[j]? = some u → (w.alloc (.cells #[] 5)).cell? ((⟨b, o, none⟩ : Addr).add j) = some u := by
   intro j u hu
   have hadd : (⟨b, o, none⟩ : Addr).add j = ⟨b, o + j, none⟩ := by unfold Addr.add; split <;> simp_all
   rw [hadd]
   exact hx.cell (hc j u hu)
  have HN : Hid _ := hnews
  clear hc hnews h4 hv hL
  go_enter Tryz.func87, Tryz.ntmps87
  go_wp2_with (at_builtin; (refine app_any _ _ _ 1 1 Tryz.underlying31 info_u8 rfl (by omega) rfl _ _ rfl w.heap.size _ 0 _ rfl hown ⟨b, o, none⟩ L.length cap (L.map fun x => Value.int .u8 x.toNat) rfl (by simp) HN.out (by intro u hu; obtain ⟨_, _, rfl⟩ := List.mem_map.1 hu; rfl) (by omega) (by omega) (by simp) ?_); intro v' w3 hown3 hg3 _; have hb : IsData (Nu w w3) w3 v' L := ⟨Row.of_owns (by simpa using hown3) (by omega), TypB.of_owns hown3, fun k hk => hown3.lt k hk⟩; obtain ⟨a3, c3, rfl, -⟩ := id hb.bytes; have HB : Hid _ := hb; have hx3 : Ext w w3 := owns_ext_app hx hown hg3; clear hb hown3)
  go_ret
  exact ⟨⟨_, rfl, HB.out⟩, hx3⟩

def putRM (m : Fs) (path : B8) (mode : Int) (data : B8) (only full : Bool) (room : Int) : Fs × Int :=
 if wrongE path mode data ≠ 0 then (m, wrongE path mode data) else if only = true ∧ (look m.now path).isSome then (m, 8)
 else putsM m path mode data (!full && decide ((data.length : Int) ≤ room - usedF m.now + oldLen m.now path))

/-- A file of bytes that were copied is put in its place. -/
theorem put_change {O R : Nat → Prop} {w w1 w2 : World} {p : Value} {m : Fs} (path : B8) (mode : Int) (a : Option Addr) (data : B8) (cap : Nat) (h : IsRef O R w p m) (hx1 : Ext w w1) (hx2 : Ext w1 w2) (hd : IsData (Nu w1 w2) w2 (.slice a data.length cap) data) (hp : path.length ≤ 400) (hl : m.now.length ≤ 900000) (hpl : m.pend.length ≤ 1000000) (ht : m.time ≤ 1000000) :
  Calls Tryz.prog 191 #[p, .agg #[.int .i64 1, S8 [], S8 path, .int .i64 mode, .slice a data.length cap, .int .i64 0]] w2 fun e w' => e = .returned (.tuple #[]) ∧ RefPost O R w p (does m (.put path ⟨mode, data, 0⟩)) w' := by
 have hx := hx1.trans hx2
 have h2 : IsRef O (Nw R w w2) w2 p m := (h.ext hx).mono (fun k hk => hk) (fun k hk => .inl hk)
 have hd2 : IsData (Nw R w w2) w2 (.slice a data.length cap) data := hd.mono (fun k hk => .inr ⟨Nat.le_trans hx1.size hk.1, hk.2⟩)
 exact (change_any (.put path ⟨mode, data, 0⟩) (cs := [.int .i64 1, S8 [], S8 path, .int .i64 mode, .slice a data.length cap, .int .i64 0]) h2 ⟨by omega, _, rfl, hd2⟩ hl hpl ht).mono (fun e w' he => ⟨he.1, RefPost.of_ext hx he.2⟩)

set_option maxRecDepth 100000 in
set_option maxHeartbeats 4000000 in
theorem put_none {O R : Nat → Prop} {w : World} {p : Value} {m : Fs} (path : B8) (mode : Int) (v : Value) (data : B8) (only full : Bool) (room : Int) (h : IsRef O R w p m) (hok : OkM m) (ht : m.time ≤ 800000) (hp : path.length ≤ 400) (hv : IsBytes w v data) (hr0 : 0 ≤ room) (hr1 : room ≤ 1152921504606846976) (hlk : look m.now path = none) :
  Calls Tryz.prog 157 #[p, S8 path, .int .i64 mode, v, .bool only, .bool full, .int .i64 room] w fun e w' => e = .returned (.int .i64 (putRM m path mode data only full room).2) ∧ RefPost O R w p (putRM m path mode data only full room).1 w' := by
 have HH : Hid (IsRef O R w p m) := h
 have hl := hok.lnow
 have hpl := hok.lpend
 have HDN : Hid _ := hok.dnow
 have hu := used_bound hok (by omega)
 obtain ⟨U, hU⟩ : ∃ U : Nat, usedF m.now = U := ⟨_, rfl⟩
 have HU : Hid _ := hU
 rw [hU] at hu
 have hdef : putRM m path mode data only full room = if wrongE path mode data ≠ 0 then (m, wrongE path mode data) else if mayF m.now path [] = false then (m, 9) else if (!full && decide ((data.length : Int) ≤ room - U)) = false then (m, 10) else (does m (.put path ⟨mode, data, 0⟩), 0) := by
  unfold putRM putsM oldLen
  rw [hlk, hU]
  simp
 have HDEF : Hid _ := hdef
 have HV : Hid _ := hv
 have hdl := hv.len
 obtain ⟨va, vc, rfl, -⟩ := id hv
 obtain ⟨g, vn, vs, vp, vl, vu, rfl, hg, hO, hP⟩ := h
 obtain ⟨na, nc, rfl, -⟩ := rows_get hP.now
 obtain ⟨d0, d1, d2, d3, d4, d5, d6, d7, d8⟩ := cellsAt9 hg
 have HG : Hid _ := hg
 have HP : Hid _ := hP
 have HLK : Hid _ := hlk
 obtain ⟨pb, hpb⟩ : ∃ pb, pathB path = pb := ⟨_, rfl⟩
 have HPB : Hid _ := hpb
 clear hg hP hok hpb hU hv hdef hlk
 go_enter Tryz.func157, Tryz.ntmps157
 go_wp2_with fail
 go_at_call 164
 refine (find_any path HP.out.now).mono ?_
 rintro e w2 ⟨⟨i, rfl, hpl2⟩, hx2⟩
 obtain rfl : i = -1 := by
  rcases hpl2 with ⟨_, h⟩ | ⟨k, f, _, _, h⟩
  ·exact h
  ·rw [HLK.out] at h; cases h
 clear hpl2
 go_wp2_with fail
 go_at_call 155
 refine (rpath_any path _ (by omega)).mono ?_
 rw [HPB.out]
 rintro e w3 ⟨rfl, hx3⟩
 have HX3 : Hid _ := hx2.trans hx3
 clear hx2 hx3
 cases pb with
 | false =>
  have HW : Hid (putRM m path mode data only full room = (m, 6)) := by unfold Hid; rw [HDEF.out]; simp [wrongE, HPB.out]
  go_wp2
  go_ret
  rw [HW.out]
  exact ⟨rfl, RefPost.same HH.out HX3.out⟩
 | true =>
  by_cases hm1 : mode < 1
  ·have HW : Hid (putRM m path mode data only full room = (m, 1)) := by unfold Hid; rw [HDEF.out]; simp [wrongE, HPB.out, hm1]
   go_wp2
   go_ret
   rw [HW.out]
   exact ⟨rfl, RefPost.same HH.out HX3.out⟩
  by_cases hm3 : 3 < mode
  ·have HW : Hid (putRM m path mode data only full room = (m, 1)) := by unfold Hid; rw [HDEF.out]; simp [wrongE, HPB.out, hm3]
   go_wp2
   go_ret
   rw [HW.out]
   exact ⟨rfl, RefPost.same HH.out HX3.out⟩
  by_cases hdl2 : 20000 < data.length
  ·have HW : Hid (putRM m path mode data only full room = (m, 3)) := by unfold Hid; rw [HDEF.out]; simp [wrongE, HPB.out, hm1, hm3, hdl2]
   have hi : (20000 : Int) < (data.length : Int) := by omega
   go_wp2
   go_ret
   rw [HW.out]
   exact ⟨rfl, RefPost.same HH.out HX3.out⟩
  have hi : ¬ (20000 : Int) < (data.length : Int) := by omega
  have HD2 : Hid (putRM m path mode data only full room = if mayF m.now path [] = false then (m, 9) else if (!full && decide ((data.length : Int) ≤ room - U)) = false then (m, 10) else (does m (.put path ⟨mode, data, 0⟩), 0)) := by
   unfold Hid; rw [HDEF.out]; simp [wrongE, HPB.out, hm1, hm3, hdl2]
  clear HDEF
  have hmay : mayF m.now path [] = mayR m.now path := mayR_nil (fun e he => path_ne (HDN.out e he).1)
  rw [hmay] at HD2
  obtain ⟨my, hmy⟩ : ∃ my, mayR m.now path = my := ⟨_, rfl⟩
  have HMY : Hid _ := hmy
  rw [hmy] at HD2
  obtain ⟨z0, z1, z2, z3, z4, z5, z6, z7, z8⟩ := cellsAt9 (Ext.row HX3.out HG.out)
  clear hmy hmay d0 d1 d2 d3 d4 d5 d6 d7 d8
  go_wp2_with fail
  go_at_call 190
  refine (mayR_any path (ReadL.rowsExt HP.out.now HX3.out) HPB.out (fun e he => (HDN.out e he).1)).mono ?_
  rw [HMY.out]
  rintro e w4 ⟨rfl, hx4⟩
  cases my with
  | false =>
   have HW : Hid (putRM m path mode data only full room = (m, 9)) := by unfold Hid; rw [HD2.out]; simp
   go_wp2
   go_ret
   rw [HW.out]
   exact ⟨rfl, RefPost.same HH.out (Ext.trans HX3.out hx4)⟩
  | true =>
   have HX4 : Hid _ := Ext.trans HX3.out hx4
   cases full with
   | true =>
    have HW : Hid (putRM m path mode data only true room = (m, 10)) := by unfold Hid; rw [HD2.out]; simp
    go_wp2
    go_ret
    rw [HW.out]
    exact ⟨rfl, RefPost.same HH.out HX4.out⟩
   | false =>
    replace z1 := hx4.cell z1
    clear hx4
    go_wp2_with fail
    go_at_call 163
    refine (usedR_any (ReadL.rowsExt HP.out.now HX4.out) (by have := HU.out; omega)).mono ?_
    rw [HU.out]
    rintro e w5 ⟨rfl, hx5⟩
    have HX5 : Hid _ := Ext.trans HX4.out hx5
    clear hx5
    have hw1 : IntKind.i64.wrap ((U : Int) - 0) = (U : Int) - 0 := IntWalk.i64_in _ (by omega)
    have hw2 : IntKind.i64.wrap ((U : Int) + (data.length : Int)) = (U : Int) + (data.length : Int) := IntWalk.i64_in _ (by omega)
    by_cases hf : room < (U : Int) + (data.length : Int)
    ·have HW : Hid (putRM m path mode data only false room = (m, 10)) := by unfold Hid; rw [HD2.out]; simp; omega
     go_wp2
     go_ret
     rw [HW.out]
     exact ⟨rfl, RefPost.same HH.out HX5.out⟩
    ·have HW : Hid (putRM m path mode data only false room = (does m (.put path ⟨mode, data, 0⟩), 0)) := by unfold Hid; rw [HD2.out]; simp; omega
     go_wp2_with fail
     go_at_call 87
     refine (copyB_any _ data _ (IsBytes.ext HV.out HX5.out)).mono ?_
     rintro e w6 ⟨⟨v6, rfl, hd6⟩, hx6⟩
     obtain ⟨c1, c2, rfl, -⟩ := id hd6.bytes
     have HD6 : Hid _ := hd6
     clear hd6
     go_wp2_with (go_at_call 191; go_must (refine (put_change path mode c1 data c2 HH.out HX5.out hx6 HD6.out hp (by omega) (by omega) (by omega)).mono ?_; rintro e w7 ⟨rfl, h7⟩))
     go_ret
     rw [HW.out]
     exact ⟨rfl, h7⟩

set_option maxRecDepth 100000 in
set_option maxHeartbeats 4000000 in
theorem put_some {O R : Nat → Prop} {w : World} {p : Value} {m : Fs} (path : B8) (mode : Int) (v : Value) (data : B8) (only full : Bool) (room : Int) (h : IsRef O R w p m) (hok : OkM m) (ht : m.time ≤ 800000) (hp : path.length ≤ 400) (hv : IsBytes w v data) (hr0 : 0 ≤ room) (hr1 : room ≤ 1152921504606846976) (f : Fi) (hlk : look m.now path = some f) :
  Calls Tryz.prog 157 #[p, S8 path, .int .i64 mode, v, .bool only, .bool full, .int .i64 room] w fun e w' => e = .returned (.int .i64 (putRM m path mode data only full room).2) ∧ RefPost O R w p (putRM m path mode data only full room).1 w' := by
 have HH : Hid (IsRef O R w p m) := h
 have hl := hok.lnow
 have hpl := hok.lpend
 have HDN : Hid _ := hok.dnow
 have hu := used_bound hok (by omega)
 obtain ⟨U, hU⟩ : ∃ U : Nat, usedF m.now = U := ⟨_, rfl⟩
 have HU : Hid _ := hU
 rw [hU] at hu
 have hdef : putRM m path mode data only full room = if wrongE path mode data ≠ 0 then (m, wrongE path mode data) else if only = true then (m, 8) else if (!full && decide ((data.length : Int) ≤ room - U + f.data.length)) = false then (m, 10) else (does m (.put path ⟨mode, data, 0⟩), 0) := by
  unfold putRM putsM oldLen
  rw [hlk, hU]
  simp
 have HDEF : Hid _ := hdef
 have HV : Hid _ := hv
 have hdl := hv.len
 obtain ⟨va, vc, rfl, -⟩ := id hv
 obtain ⟨g, vn, vs, vp, vl, vu, rfl, hg, hO, hP⟩ := h
 obtain ⟨na, nc, rfl, n1, n2, n3, hget⟩ := rows_get hP.now
 have HGET : Hid _ := hget
 have hfl : f.data.length ≤ 20000 := (hok.dnow _ (look_mem hlk)).2
 clear hget
 obtain ⟨d0, d1, d2, d3, d4, d5, d6, d7, d8⟩ := cellsAt9 hg
 have HG : Hid _ := hg
 have HP : Hid _ := hP
 have HLK : Hid _ := hlk
 obtain ⟨pb, hpb⟩ : ∃ pb, pathB path = pb := ⟨_, rfl⟩
 have HPB : Hid _ := hpb
 clear hg hP hok hpb hU hv hdef hlk
 go_enter Tryz.func157, Tryz.ntmps157
 go_wp2_with fail
 go_at_call 164
 refine (find_any path HP.out.now).mono ?_
 rintro e w2 ⟨⟨i, rfl, hpl2⟩, hx2⟩
 obtain ⟨k, rfl, hk⟩ : ∃ k : Nat, i = k ∧ m.now[k]? = some (path, f) := by
  rcases hpl2 with ⟨h, _⟩ | ⟨k, f', h, h2, h3⟩
  ·rw [HLK.out] at h; cases h
  ·rw [HLK.out] at h3; cases h3; exact ⟨k, h, h2⟩
 obtain ⟨b, o, s1, s2, rfl, -, -, -, -, c2, -⟩ := HGET.out k path f hk
 have hkl := (List.getElem?_eq_some_iff.1 hk).1
 replace c2 := hx2.cell c2
 replace d1 := hx2.cell d1
 have hk0 : ¬ (k : Int) < 0 := by omega
 have hk1 : (0 : Int) ≤ (k : Int) := by omega
 clear hpl2 hk
 go_wp2_with fail
 go_at_call 155
 refine (rpath_any path _ (by omega)).mono ?_
 rw [HPB.out]
 rintro e w3 ⟨rfl, hx3⟩
 have HX3 : Hid _ := hx2.trans hx3
 clear hx2 hx3
 cases pb with
 | false =>
  have HW : Hid (putRM m path mode data only full room = (m, 6)) := by unfold Hid; rw [HDEF.out]; simp [wrongE, HPB.out]
  go_wp2
  go_ret
  rw [HW.out]
  exact ⟨rfl, RefPost.same HH.out HX3.out⟩
 | true =>
  by_cases hm1 : mode < 1
  ·have HW : Hid (putRM m path mode data only full room = (m, 1)) := by unfold Hid; rw [HDEF.out]; simp [wrongE, HPB.out, hm1]
   go_wp2
   go_ret
   rw [HW.out]
   exact ⟨rfl, RefPost.same HH.out HX3.out⟩
  by_cases hm3 : 3 < mode
  ·have HW : Hid (putRM m path mode data only full room = (m, 1)) := by unfold Hid; rw [HDEF.out]; simp [wrongE, HPB.out, hm3]
   go_wp2
   go_ret
   rw [HW.out]
   exact ⟨rfl, RefPost.same HH.out HX3.out⟩
  by_cases hdl2 : 20000 < data.length
  ·have HW : Hid (putRM m path mode data only full room = (m, 3)) := by unfold Hid; rw [HDEF.out]; simp [wrongE, HPB.out, hm1, hm3, hdl2]
   have hi : (20000 : Int) < (data.length : Int) := by omega
   go_wp2
   go_ret
   rw [HW.out]
   exact ⟨rfl, RefPost.same HH.out HX3.out⟩
  have hi : ¬ (20000 : Int) < (data.length : Int) := by omega
  have HD2 : Hid (putRM m path mode data only full room = if only = true then (m, 8) else if (!full && decide ((data.length : Int) ≤ room - U + f.data.length)) = false then (m, 10) else (does m (.put path ⟨mode, data, 0⟩), 0)) := by
   unfold Hid; rw [HDEF.out]; simp [wrongE, HPB.out, hm1, hm3, hdl2]
  clear HDEF
  obtain ⟨z0, z1, z2, z3, z4, z5, z6, z7, z8⟩ := cellsAt9 (Ext.row HX3.out HG.out)
  clear d0 d1 d2 d3 d4 d5 d6 d7 d8
  cases only with
  | true =>
   have HW : Hid (putRM m path mode data true full room = (m, 8)) := by unfold Hid; rw [HD2.out]; simp
   go_wp2
   go_ret
   rw [HW.out]
   exact ⟨rfl, RefPost.same HH.out HX3.out⟩
  | false =>
   cases full with
   | true =>
    have HW : Hid (putRM m path mode data false true room = (m, 10)) := by unfold Hid; rw [HD2.out]; simp
    go_wp2
    go_ret
    rw [HW.out]
    exact ⟨rfl, RefPost.same HH.out HX3.out⟩
   | false =>
    go_wp2_with fail
    go_at_call 163
    refine (usedR_any (ReadL.rowsExt HP.out.now HX3.out) (by have := HU.out; omega)).mono ?_
    rw [HU.out]
    rintro e w5 ⟨rfl, hx5⟩
    have HX5 : Hid _ := Ext.trans HX3.out hx5
    clear hx5
    have hw1 : IntKind.i64.wrap ((U : Int) - (f.data.length : Int)) = (U : Int) - (f.data.length : Int) := IntWalk.i64_in _ (by omega)
    have hw2 : IntKind.i64.wrap ((U : Int) - (f.data.length : Int) + (data.length : Int)) = (U : Int) - (f.data.length : Int) + (data.length : Int) := IntWalk.i64_in _ (by omega)
    by_cases hf : room < (U : Int) - (f.data.length : Int) + (data.length : Int)
    ·have HW : Hid (putRM m path mode data false false room = (m, 10)) := by unfold Hid; rw [HD2.out]; simp; omega
     go_wp2
     go_ret
     rw [HW.out]
     exact ⟨rfl, RefPost.same HH.out HX5.out⟩
    ·have HW : Hid (putRM m path mode data false false room = (does m (.put path ⟨mode, data, 0⟩), 0)) := by unfold Hid; rw [HD2.out]; simp; omega
     go_wp2_with fail
     go_at_call 87
     refine (copyB_any _ data _ (IsBytes.ext HV.out HX5.out)).mono ?_
     rintro e w6 ⟨⟨v6, rfl, hd6⟩, hx6⟩
     obtain ⟨c1, c2, rfl, -⟩ := id hd6.bytes
     have HD6 : Hid _ := hd6
     clear hd6
     go_wp2_with (go_at_call 191; go_must (refine (put_change path mode c1 data c2 HH.out HX5.out hx6 HD6.out hp (by omega) (by omega) (by omega)).mono ?_; rintro e w7 ⟨rfl, h7⟩))
     go_ret
     rw [HW.out]
     exact ⟨rfl, h7⟩

theorem put_any {O R : Nat → Prop} {w : World} {p : Value} {m : Fs} (path : B8) (mode : Int) (v : Value) (data : B8) (only full : Bool) (room : Int) (h : IsRef O R w p m) (hok : OkM m) (ht : m.time ≤ 800000) (hp : path.length ≤ 400) (hv : IsBytes w v data) (hr0 : 0 ≤ room) (hr1 : room ≤ 1152921504606846976) :
  Calls Tryz.prog 157 #[p, S8 path, .int .i64 mode, v, .bool only, .bool full, .int .i64 room] w fun e w' => e = .returned (.int .i64 (putRM m path mode data only full room).2) ∧ RefPost O R w p (putRM m path mode data only full room).1 w' := by
 cases hlk : look m.now path with
 | none => exact put_none path mode v data only full room h hok ht hp hv hr0 hr1 hlk
 | some f => exact put_some path mode v data only full room h hok ht hp hv hr0 hr1 f hlk

end Go.Proofs.YtfimfbdlegookaaGreatDoor
