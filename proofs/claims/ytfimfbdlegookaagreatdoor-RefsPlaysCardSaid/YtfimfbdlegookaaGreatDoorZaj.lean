/- A file system of the call's own; marlaw8.first: what the chapter's examples fix. Conditions: as each theorem states. -/
import Derived.Test.YtfimfbdlegookaaGreatDoorZai
import Derived.Test.YtfimfbdlegookaaGreatDoorZag
import Derived.Test.YtfimfbdlegookaaGreatDoorZaa
import Derived.Test.YtfimfbdlegookaaGreatDoorZaf
import Derived.Test.YtfimfbdlegookaaGreatDoorZah
import Derived.Deep.Upon
import Derived.Test.YtfimfbdlegookaaGreatDoorZad
import Derived.Lib.SlBytesConst

set_option linter.unusedVariables false
set_option linter.unusedSimpArgs false
set_option linter.unusedSectionVars false

/-! marref6: SetRef, DeleteRef (printed out of the walks of refs.Set, refs.Delete by gen_rset.py). Conditions: as each theorem states. -/
namespace Go.Proofs.YtfimfbdlegookaaGreatDoor
open Go Go.RowKit
set_option linter.unusedVariables false
set_option linter.unusedSimpArgs false
set_option linter.unusedSectionVars false
variable [Inhabited BaseW]

theorem RefPost.finR {O R : Nat → Prop} {w w' : World} {p : Value} {m m' : Fs} (h : RefIn O R w p m) (hp : RefPost O R w p m' w') {n : Nat} (hg : Good n m') (hn : n ≤ 1000) : RefIn (Nw O w w') (Nw R w w') w' p m' := by
 have hx := (ThruR.start h).post hp (hg.fit hn)
 exact hx.fin
structure AtR (O R : Nat → Prop) (w : World) (p : Value) (m : Fs) (n : Nat) (w1 : World) : Prop where
 first : ∃ m0, RefIn O R w p m0
 fin : RefIn (Nw O w w1) (Nw R w w1) w1 p m
 post : RefPost O R w p m w1
 good : Good n m
theorem AtR.start {O R : Nat → Prop} {w : World} {p : Value} {m : Fs} {n : Nat} (h : RefIn O R w p m) (hg : Good n m) (hn : n ≤ 1000) : AtR O R w p m n w :=
 ⟨⟨_, h⟩, RefPost.finR h (RefPost.same h.fs (Ext.refl _)) hg hn, RefPost.same h.fs (Ext.refl _), hg⟩
theorem AtR.next {O R : Nat → Prop} {w w1 w2 : World} {p : Value} {m m' : Fs} {n n' : Nat} (h : AtR O R w p m n w1) (hp : RefPost (Nw O w w1) (Nw R w w1) w1 p m' w2) (hg : Good n' m') (hn : n' ≤ 1000) : AtR O R w p m' n' w2 := by
 obtain ⟨m0, h0⟩ := h.first
 exact ⟨⟨m0, h0⟩, RefPost.finR h0 (h.post.trans hp) hg hn, h.post.trans hp, hg⟩
theorem AtR.more {O R : Nat → Prop} {w w1 w2 : World} {p : Value} {m : Fs} {n : Nat} (h : AtR O R w p m n w1) (hx : Ext w1 w2) (hn : n ≤ 1000) : AtR O R w p m n w2 := h.next (RefPost.same h.fin.fs hx) h.good hn

set_option maxRecDepth 100000 in
set_option maxHeartbeats 4000000 in
theorem deleteR_any {O R : Nat → Prop} {w : World} {p : Value} {m : Fs} {n : Nat} (name old : B8) (h : RefIn O R w p m) (hg : Good n m) (hn : n ≤ 990) (hnl : name.length ≤ 1000000) (hol : old.length ≤ 1000000) :
  Calls Tryz.prog 33 #[p, S8 name, S8 old] w fun e w' => e = .returned (.int .i64 (deleteM m name old).2) ∧ RefPost O R w p (deleteM m name old).1 w' := by
 have HA0 : Hid _ := AtR.start h hg (by omega)
 clear h hg
 obtain ⟨nb, hnb⟩ : ∃ nb, nameB name = nb := ⟨_, rfl⟩
 have HNB : Hid _ := hnb
 clear hnb
 go_enter Tryz.func33, Tryz.ntmps33
 go_wp2_with fail
 go_at_call 76
 refine (rname_any name _ (by omega)).mono ?_
 rw [HNB.out]
 rintro e w1 ⟨rfl, rfl⟩
 cases nb with
 | false =>
  have HM : Hid (deleteM m name old = (m, 6)) := by unfold Hid deleteM; rw [HNB.out]; rfl
  go_wp2
  go_ret
  rw [HM.out]
  exact ⟨rfl, HA0.out.post⟩
 | true =>
  have hlen := lock_len HNB.out
  obtain ⟨vb, hvb⟩ : ∃ vb, validB old = vb := ⟨_, rfl⟩
  have HVB : Hid _ := hvb
  clear hvb
  go_wp2_with fail
  go_at_call 78
  refine (rvalid_any old _ (by omega)).mono ?_
  rw [HVB.out]
  rintro e w2 ⟨rfl, hx2⟩
  have HA2 : Hid _ := AtR.more HA0.out hx2 (by omega)
  clear hx2
  cases vb with
  | false =>
   have HM : Hid (deleteM m name old = (m, 1)) := by unfold Hid deleteM; rw [HNB.out, if_neg (by simp), HVB.out]; rfl
   go_wp2
   go_ret
   rw [HM.out]
   exact ⟨rfl, HA2.out.post⟩
  | true =>
   have HM : Hid (deleteM m name old = if (readM m (placeP name)).2.2 ≠ 0 then ((readM m (placeP name)).1, (readM m (placeP name)).2.2)
     else if (readM m (placeP name)).2.1.data ≠ lineM old then ((readM m (placeP name)).1, 13)
     else if (removeM (readM m (placeP name)).1 (placeP name)).2 ≠ 0 then removeM (readM m (placeP name)).1 (placeP name)
     else syncM (removeM (readM m (placeP name)).1 (placeP name)).1) := by unfold Hid deleteM; rw [HNB.out, if_neg (by simp), HVB.out, if_neg (by simp)]
   have HR : Hid _ := readR_any (placeP name) HA2.out.fin hlen.2.1
   have HG1 : Hid _ := good_read HA2.out.good (placeP name)
   obtain ⟨⟨m1, fx, er⟩, hrd⟩ : ∃ q, readM m (placeP name) = q := ⟨_, rfl⟩
   rw [hrd] at HR HM HG1
   clear hrd
   go_wp2_with fail
   go_at_call 77
   refine Calls.mono HR.out ?_
   rintro e w3 ⟨⟨v, rfl, hd⟩, hp3⟩
   try dsimp only at hd hp3
   obtain ⟨s1, t1, rfl, -⟩ := id hd.bytes
   try dsimp only
   go_upto_region 6 with fail
   obtain ⟨w4, hw4⟩ : ∃ wq, wq = w3.alloc (.cells #[.int .i64 fx.mode, .slice s1 fx.data.length t1, .int .i64 fx.time] 134) := ⟨_, rfl⟩
   rw [← hw4]
   have hx4 : Ext w3 w4 := by rw [hw4]; exact (Ext.refl _).alloc _
   have hb4 : w4.heap[w3.heap.size]? = some (.cells #[.int .i64 fx.mode, .slice s1 fx.data.length t1, .int .i64 fx.time] 134 (0, 0)) := by rw [hw4]; exact alloc_at _ _
   have HA4 : Hid _ := AtR.more (AtR.next HA2.out hp3 HG1.out (by omega)) hx4 (by omega)
   have HD : Hid (IsBytes w4 (.slice s1 fx.data.length t1) fx.data) := (IsData.ext hd hx4).bytes
   obtain ⟨c0, c1, c2⟩ := cellsAt3 hb4
   clear hw4 hb4 hd hp3 HR hx4
   by_cases h0 : er = 0
   case neg =>
    have b0 : (er != 0) = true := by simpa using h0
    have HM2 : Hid (deleteM m name old = (m1, er)) := by unfold Hid; rw [HM.out]; exact if_pos h0
    clear h0
    go_wp2
    go_ret
    rw [HM2.out]
    exact ⟨rfl, HA4.out.post⟩
   subst h0
   obtain ⟨bq, hbq⟩ : ∃ bq, (fx.data == lineM old) = bq := ⟨_, rfl⟩
   have HBQ : Hid _ := hbq
   have hl1 : (fx.data == ((⟨old.toArray⟩ : ByteArray) ++ ⟨#[10]⟩).toList) = bq := by rw [line_bytes, ByteArray.toList_mk]; exact hbq
   have hl2 : (fx.data != ((⟨old.toArray⟩ : ByteArray) ++ ⟨#[10]⟩).toList) = !bq := by unfold bne; rw [hl1]
   have hcv := conv_bytes HD.out
   obtain ⟨w5, hw5⟩ : ∃ w5, w5 = w4 := ⟨_, rfl⟩
   have hx5 : Ext w4 w5 := by rw [hw5]; exact Ext.refl _
   subst hw5
   clear hbq
   have HA5 : Hid _ := AtR.more HA4.out hx5 (by omega)
   clear hx5
   cases bq with
   | false =>
    have HM2 : Hid (deleteM m name old = (m1, 13)) := by
     have hne : fx.data ≠ lineM old := by have := HBQ.out; simpa using this
     unfold Hid; rw [HM.out]
     try dsimp only
     rw [if_neg (by simp), if_pos hne]
    go_wp2
    go_ret
    rw [HM2.out]
    exact ⟨rfl, HA5.out.post⟩
   | true =>
    have HM2 : Hid (deleteM m name old = if (removeM m1 (placeP name)).2 ≠ 0 then removeM m1 (placeP name) else syncM (removeM m1 (placeP name)).1) := by
     have hne : fx.data = lineM old := by have := HBQ.out; simpa using this
     unfold Hid; rw [HM.out]
     try dsimp only
     rw [if_neg (by simp), if_neg (by simpa using hne)]
    have HR : Hid _ := removeR_any (placeP name) HA5.out.fin hlen.2.1
    have HG2 : Hid _ := good_remove HA5.out.good (placeP name)
    obtain ⟨⟨m2, e2⟩, hrd⟩ : ∃ q, removeM m1 (placeP name) = q := ⟨_, rfl⟩
    rw [hrd] at HR HM2 HG2
    clear hrd
    go_wp2_with fail
    go_at_call 82
    refine Calls.mono HR.out ?_
    rintro e w6 ⟨rfl, h6⟩
    have HA6 : Hid _ := AtR.next HA5.out h6 HG2.out (by omega)
    clear h6 HR
    try dsimp only
    by_cases h0 : e2 = 0
    case neg =>
     have b0 : (e2 != 0) = true := by simpa using h0
     have b2 : (e2 == 0) = false := by simpa using h0
     have HM3 : Hid (deleteM m name old = (m2, e2)) := by unfold Hid; rw [HM2.out]; exact if_pos h0
     clear h0
     go_wp2
     go_ret
     rw [HM3.out]
     exact ⟨rfl, HA6.out.post⟩
    subst h0
    have HM3 : Hid (deleteM m name old = syncM m2) := by unfold Hid; rw [HM2.out]; exact if_neg (by simp)
    have HG3 : Hid _ := good_sync HA6.out.good
    go_wp2_with fail
    go_at_call 81
    refine (syncR_any HA6.out.fin).mono ?_
    rintro e w7 ⟨rfl, h7⟩
    have HA7 : Hid _ := AtR.next HA6.out h7 HG3.out (by omega)
    clear h7
    go_wp2
    go_ret
    rw [HM3.out]
    exact ⟨rfl, HA7.out.post⟩


set_option maxRecDepth 100000 in
set_option maxHeartbeats 8000000 in
theorem setR_any {O R : Nat → Prop} {w : World} {p : Value} {m : Fs} {n : Nat} (name old next : B8) (h : RefIn O R w p m) (hg : Good n m) (hn : n ≤ 990) (hnl : name.length ≤ 1000000) (hol : old.length ≤ 1000000) (hxl : next.length ≤ 1000000) :
  Calls Tryz.prog 32 #[p, S8 name, S8 old, S8 next] w fun e w' => e = .returned (.int .i64 (setM m name old next).2) ∧ RefPost O R w p (setM m name old next).1 w' := by
 have HA0 : Hid _ := AtR.start h hg (by omega)
 clear h hg
 obtain ⟨nb, hnb⟩ : ∃ nb, nameB name = nb := ⟨_, rfl⟩
 have HNB : Hid _ := hnb
 clear hnb
 go_enter Tryz.func32, Tryz.ntmps32
 go_wp2_with fail
 go_at_call 76
 refine (rname_any name _ (by omega)).mono ?_
 rw [HNB.out]
 rintro e w1 ⟨rfl, rfl⟩
 cases nb with
 | false =>
  have HM : Hid (setM m name old next = (m, 6)) := by unfold Hid setM; rw [HNB.out]; rfl
  go_wp2
  go_ret
  rw [HM.out]
  exact ⟨rfl, HA0.out.post⟩
 | true =>
  have hlen := lock_len HNB.out
  obtain ⟨vb, hvb⟩ : ∃ vb, validB next = vb := ⟨_, rfl⟩
  have HVB : Hid _ := hvb
  clear hvb
  go_wp2_with fail
  go_at_call 78
  refine (rvalid_any next _ (by omega)).mono ?_
  rw [HVB.out]
  rintro e w2 ⟨rfl, hx2⟩
  have HA2 : Hid _ := AtR.more HA0.out hx2 (by omega)
  clear hx2
  cases vb with
  | false =>
   have HM : Hid (setM m name old next = (m, 1)) := by unfold Hid setM; rw [HNB.out, if_neg (by simp), if_pos (.inl HVB.out)]
   go_wp2
   go_ret
   rw [HM.out]
   exact ⟨rfl, HA2.out.post⟩
  | true =>
   obtain ⟨vo, hvo⟩ : ∃ vo, validB old = vo := ⟨_, rfl⟩
   have HVO : Hid _ := hvo
   clear hvo
   by_cases hbad : (old == ([] : B8)) = false ∧ vo = false
   case pos =>
    obtain ⟨hob, rfl⟩ := hbad
    have hob2 : (old != ([] : B8)) = true := by unfold bne; rw [hob]; rfl
    have HM : Hid (setM m name old next = (m, 1)) := by
     have hne : old ≠ [] := by simpa using hob
     unfold Hid setM; rw [HNB.out, if_neg (by simp), if_pos (.inr ⟨hne, HVO.out⟩)]
    go_wp2_with fail
    go_at_call 78
    refine (rvalid_any old _ (by omega)).mono ?_
    rw [HVO.out]
    rintro e w3 ⟨rfl, hx3⟩
    go_wp2
    go_ret
    rw [HM.out]
    exact ⟨rfl, RefPost.ext HA2.out.post hx3⟩
   have HM : Hid (setM m name old next = if (createM m (lockP name) 1 (lineM next)).2 ≠ 0 then ((createM m (lockP name) 1 (lineM next)).1, if (createM m (lockP name) 1 (lineM next)).2 = 8 then 13 else (createM m (lockP name) 1 (lineM next)).2)
     else setMid (expectM (createM m (lockP name) 1 (lineM next)).1 name old) name) := by
    unfold Hid setM
    rw [HNB.out, if_neg (by simp), if_neg ?_]
    rintro (h | ⟨h1, h2⟩)
    ·rw [HVB.out] at h; cases h
    ·exact hbad ⟨by simpa using h1, HVO.out.symm.trans h2⟩
   have HCR : Hid (∀ w3 w4 v4, Ext w2 w3 → Ext w3 w4 → IsBytes w4 v4 (lineM next) → TypB w4 v4 → Calls Tryz.prog 79 #[p, S8 (lockP name), .int .i64 1, v4] w4 fun e w' => e = .returned (.int .i64 (createM m (lockP name) 1 (lineM next)).2) ∧ AtR O R w1 p (createM m (lockP name) 1 (lineM next)).1 (n + 1) w') := fun w3 w4 v4 hx3 hx4 hb ht =>
    (createR_any (lockP name) 1 v4 (lineM next) (AtR.more (AtR.more HA2.out hx3 (by omega)) hx4 (by omega)).fin hlen.1 hb (typ_out ht)).mono (fun e w' ⟨he, hp⟩ => ⟨he, AtR.next (n' := n + 1) (AtR.more (AtR.more HA2.out hx3 (by omega)) hx4 (by omega)) hp (good_create HA2.out.good _ _ _) (by omega)⟩)
   obtain ⟨⟨m1, e1⟩, hrd⟩ : ∃ q, createM m (lockP name) 1 (lineM next) = q := ⟨_, rfl⟩
   rw [hrd] at HM HCR
   clear hrd
   have hll : (lineM next).length ≤ 1000000 := by
    have := (valid_len HVB.out).1
    unfold lineM
    rw [List.length_append, this]
    decide
   obtain ⟨ob, hob⟩ : ∃ ob, (old == ([] : B8)) = ob := ⟨_, rfl⟩
   have hob2 : (old != ([] : B8)) = !ob := by unfold bne; rw [hob]
   rw [hob] at hbad
   have go_no : True := trivial
   cases ob
   case' false =>
    have hvt : vo = true := by
     cases vo with
     | true => rfl
     | false => exact (hbad ⟨rfl, rfl⟩).elim
    subst hvt
    go_wp2_with fail
    go_at_call 78
    refine (rvalid_any old _ (by omega)).mono ?_
    rw [HVO.out]
    rintro e w3 ⟨rfl, hx3⟩
    have HX3 : Hid _ := hx3
    clear hx3
    go_upto_region 5 with fail
   case' true =>
    obtain ⟨w3, hw3⟩ : ∃ w3, w3 = w2 := ⟨_, rfl⟩
    have HX3 : Hid (Ext w2 w3) := by rw [hw3]; exact Ext.refl _
    go_upto_region 5 with fail
    rw [← hw3]
    clear hw3
   all_goals
    obtain ⟨v4, w4, hcv, hx4, hb4, ht4, s4, t4, rfl⟩ := str_bytes w3 (lineM next) hll
    rw [show S8 (lineM next) = Value.string ((⟨next.toArray⟩ : ByteArray) ++ ⟨#[10]⟩) by rw [line_bytes]] at hcv
    have HX4 : Hid _ := hx4
    have HB4 : Hid _ := hb4
    have HT4 : Hid _ := ht4
    clear hx4 hb4 ht4 hbad hob hob2
    go_wp2_with fail
    clear hcv
    go_at_call 79
    refine Calls.mono (HCR.out _ _ _ HX3.out HX4.out HB4.out HT4.out) ?_
    rintro e w5 ⟨rfl, h5⟩
    have HA5 : Hid _ := h5
    clear h5
    try dsimp only
    by_cases h0 : e1 = 0
    case neg =>
     have b0 : (e1 != 0) = true := by simpa using h0
     have b2 : (e1 == 0) = false := by simpa using h0
     by_cases h8 : e1 = 8
     ·subst h8
      have HM2 : Hid (setM m name old next = (m1, 13)) := by unfold Hid; rw [HM.out]; rfl
      clear h0 b0
      go_wp2
      go_ret
      rw [HM2.out]
      exact ⟨rfl, HA5.out.post⟩
     ·have b8 : (e1 == 8) = false := by simpa using h8
      have HM2 : Hid (setM m name old next = (m1, e1)) := by unfold Hid; rw [HM.out, if_pos h0, if_neg h8]
      clear h0 h8
      go_wp2
      go_ret
      rw [HM2.out]
      exact ⟨rfl, HA5.out.post⟩
    subst h0
    have HM2 : Hid (setM m name old next = setMid (expectM m1 name old) name) := by unfold Hid; rw [HM.out]; exact if_neg (by simp)
    have HEX : Hid _ := expectedR_any name old HA5.out.fin (by omega) hol
    have HG6 : Hid (Good (n + 2) (expectM m1 name old).1) := good_read HA5.out.good _
    obtain ⟨⟨m2, e2⟩, hrd⟩ : ∃ q, expectM m1 name old = q := ⟨_, rfl⟩
    rw [hrd] at HEX HM2 HG6
    clear hrd HM HCR
    go_wp2_with fail
    go_at_call 80
    refine Calls.mono HEX.out ?_
    rintro e w6 ⟨rfl, h6⟩
    have HA6 : Hid _ := AtR.next HA5.out h6 HG6.out (by omega)
    clear h6 HEX
    try dsimp only
    by_cases h0 : e2 = 0
    case neg =>
     have b0 : (e2 == 0) = false := by simpa using h0
     have b1 : (e2 != 0) = true := by simpa using h0
     have HM3 : Hid (setM m name old next = ((removeM m2 (lockP name)).1, e2)) := by
      unfold Hid; rw [HM2.out]; unfold setMid; simp only [if_neg h0]; exact if_pos h0
     have HG7 : Hid _ := good_remove HA6.out.good (lockP name)
     clear h0
     go_wp2_with fail
     go_at_call 82
     refine (removeR_any (lockP name) HA6.out.fin hlen.1).mono ?_
     rintro e w7 ⟨rfl, h7⟩
     have HA7 : Hid _ := AtR.next HA6.out h7 HG7.out (by omega)
     clear h7
     go_wp2
     go_ret
     rw [HM3.out]
     exact ⟨rfl, HA7.out.post⟩
    subst h0
    have HG7 : Hid _ := good_sync HA6.out.good
    have HSY : Hid _ := syncR_any HA6.out.fin
    have HM3 : Hid (setM m name old next = if (syncM m2).2 ≠ 0 then ((removeM (syncM m2).1 (lockP name)).1, (syncM m2).2) else setEnd (syncM m2).1 name) := by
     unfold Hid; rw [HM2.out]; unfold setMid; simp only [if_true]
    obtain ⟨⟨m3, e3⟩, hrd⟩ : ∃ q, syncM m2 = q := ⟨_, rfl⟩
    rw [hrd] at HSY HM3 HG7
    clear hrd HM2
    go_wp2_with fail
    go_at_call 81
    refine Calls.mono HSY.out ?_
    rintro e w7 ⟨rfl, h7⟩
    have HA7 : Hid _ := AtR.next HA6.out h7 HG7.out (by omega)
    clear h7 HSY
    try dsimp only
    by_cases h0 : e3 = 0
    case neg =>
     have b1 : (e3 != 0) = true := by simpa using h0
     have HM4 : Hid (setM m name old next = ((removeM m3 (lockP name)).1, e3)) := by
      unfold Hid; rw [HM3.out]; exact if_pos h0
     have HG8 : Hid _ := good_remove HA7.out.good (lockP name)
     clear h0
     go_wp2_with fail
     go_at_call 82
     refine (removeR_any (lockP name) HA7.out.fin hlen.1).mono ?_
     rintro e w8 ⟨rfl, h8⟩
     have HA8 : Hid _ := AtR.next HA7.out h8 HG8.out (by omega)
     clear h8
     go_wp2
     go_ret
     rw [HM4.out]
     exact ⟨rfl, HA8.out.post⟩
    subst h0
    have HG8 : Hid _ := good_move HA7.out.good (lockP name) (placeP name) false
    have HMV : Hid _ := moveR_any (lockP name) (placeP name) HA7.out.fin hlen.1 hlen.2.1
    have HM4 : Hid (setM m name old next = if (moveM m3 (lockP name) (placeP name) false).2 ≠ 0 then moveM m3 (lockP name) (placeP name) false else syncM (moveM m3 (lockP name) (placeP name) false).1) := by
     unfold Hid; rw [HM3.out]; rfl
    obtain ⟨⟨m4, e4⟩, hrd⟩ : ∃ q, moveM m3 (lockP name) (placeP name) false = q := ⟨_, rfl⟩
    rw [hrd] at HMV HM4 HG8
    clear hrd HM3
    go_wp2_with fail
    go_at_call 83
    refine Calls.mono HMV.out ?_
    rintro e w8 ⟨rfl, h8⟩
    have HA8 : Hid _ := AtR.next HA7.out h8 HG8.out (by omega)
    clear h8 HMV
    try dsimp only
    by_cases h0 : e4 = 0
    case neg =>
     have b1 : (e4 != 0) = true := by simpa using h0
     have b2 : (e4 == 0) = false := by simpa using h0
     have HM5 : Hid (setM m name old next = (m4, e4)) := by unfold Hid; rw [HM4.out]; exact if_pos h0
     clear h0
     go_wp2
     go_ret
     rw [HM5.out]
     exact ⟨rfl, HA8.out.post⟩
    subst h0
    have HM5 : Hid (setM m name old next = syncM m4) := by unfold Hid; rw [HM4.out]; exact if_neg (by simp)
    have HG9 : Hid _ := good_sync HA8.out.good
    go_wp2_with fail
    go_at_call 81
    refine (syncR_any HA8.out.fin).mono ?_
    rintro e w9 ⟨rfl, h9⟩
    have HA9 : Hid _ := AtR.next HA8.out h9 HG9.out (by omega)
    clear h9
    go_wp2
    go_ret
    rw [HM5.out]
    exact ⟨rfl, HA9.out.post⟩

end Go.Proofs.YtfimfbdlegookaaGreatDoor

/-! marref6.Direct: the last names of paths that stand just in a directory. Conditions: as each theorem states. -/
namespace Go.Proofs.YtfimfbdlegookaaGreatDoor
open Go Go.RowKit
set_option linter.unusedVariables false
set_option linter.unusedSimpArgs false

def directL (l : List B8) (n : Nat) : List B8 := (l.map fun p => p.drop (n + 1)).filter nameB
theorem direct_last {l : List B8} {dir : B8} (h : ∀ p ∈ l, isUnder dir p = true) : directL l dir.length = lastL l dir := by
 unfold directL lastL
 congr 1
 refine List.map_congr_left fun p hp => ?_
 obtain ⟨r, rfl⟩ := (under_iff _ _).1 (h p hp)
 unfold Lib.trimPrefix
 have : Lib.hasPrefix (dir ++ 47 :: r) (dir ++ [47]) = true := by
  unfold Lib.hasPrefix
  rw [List.isPrefixOf_iff_prefix]
  exact ⟨r, by simp⟩
 rw [if_pos this]
 simp
theorem direct_snoc {ss : List B8} {n k : Nat} {s : B8} (h : ss[k]? = some s) : directL (ss.take (k + 1)) n = directL (ss.take k) n ++ (if nameB (s.drop (n + 1)) = true then [s.drop (n + 1)] else []) := by
 unfold directL
 rw [List.take_add_one, h]
 simp only [Option.toList_some, List.map_append, List.filter_append, List.map_cons, List.map_nil, List.filter_cons, List.filter_nil]
theorem direct_len (ss : List B8) (n : Nat) : (directL ss n).length ≤ ss.length := by
 unfold directL
 exact Nat.le_trans (List.length_filter_le _ _) (by simp)

set_option maxRecDepth 100000 in
set_option maxHeartbeats 2000000 in
theorem direct_any {w : World} {v : Value} {ss : List B8} (dir : B8) (hv : IsStrs w v ss) (hs : ∀ s ∈ ss, s.length ≤ 100000 ∧ dir.length + 1 ≤ s.length) (hd : dir.length ≤ 1000) (hl : ss.length ≤ 1000000) :
  Calls Tryz.prog 86 #[v, S8 dir] w fun e w' => (∃ v', e = .returned v' ∧ w'.ownsRow w.heap.size 9 1 v' (directL ss dir.length).length ((directL ss dir.length).map S8)) ∧ Ext w w' := by
 obtain ⟨a, cap, rfl, l1, l2, l3, -⟩ := hv.get
 have HV : Hid _ := hv
 have HS : Hid _ := hs
 obtain ⟨N, hN⟩ : ∃ N, dir.length = N := ⟨_, rfl⟩
 rw [hN]
 clear hv hs
 go_enter Tryz.func86, Tryz.ntmps86
 go_wp2
 go_loopw [5, 6] (fun v i wr => ∃ (k n : Nat), k ≤ ss.length ∧ i = .int .i64 k ∧ Hid ((directL (ss.take k) N).length = n) ∧ wr.ownsRow w.heap.size 9 1 v n ((directL (ss.take k) N).map S8) ∧ Ext w wr) (fun _ i _ => ss.length - (intOf i).toNat)
 case atStart => exact ⟨0, 0, Nat.zero_le _, rfl, rfl, World.ownsRow_nil _ _ _ _, Ext.refl _⟩
 case round =>
  obtain ⟨k, n, hk, rfl, HN, hown, hx⟩ := hrel
  have hnk : n ≤ ss.length := by rw [← HN.out]; exact Nat.le_trans (direct_len _ _) (List.length_take_le' _ _)
  by_cases hlt : k < ss.length
  ·obtain ⟨s, hse⟩ : ∃ s, ss[k]? = some s := ⟨_, List.getElem?_eq_getElem hlt⟩
   obtain ⟨hsl, hsn⟩ := HS.out s (List.mem_of_getElem? hse)
   rw [hN] at hsn
   obtain ⟨_, _, he, -, -, -, hg⟩ := (IsStrs.ext HV.out hx).get
   cases he
   obtain ⟨bb, oo, rfl, hc⟩ := hg k hlt
   have y1 := hc k hlt
   rw [show ss.getD k [] = s by rw [List.getD_eq_getElem?_getD, hse]; rfl] at y1
   obtain ⟨t, ht⟩ : ∃ t, s.drop (N + 1) = t := ⟨_, rfl⟩
   have hsn2 := direct_snoc (n := N) hse
   rw [ht] at hsn2
   have htl : t.length ≤ 100000 := by rw [← ht, List.length_drop]; omega
   have HSN : Hid _ := hsn2
   obtain ⟨nb, hnb⟩ : ∃ nb, nameB t = nb := ⟨_, rfl⟩
   have HNB : Hid _ := hnb
   have hex : (⟨s.toArray⟩ : ByteArray).extract (N + 1) s.length = ⟨t.toArray⟩ := by
    have h9 := extract_list ⟨s.toArray⟩ (N + 1) s.length hsn (Nat.le_refl _)
    rw [h9, ← ht]
    congr 2
    rw [List.take_of_length_le]
    rw [List.length_drop]
    exact Nat.le_refl _
   clear hsn2 ht hnb hse hg hc
   go_wp2_with fail
   go_at_call 76
   refine (rname_any t _ (by omega)).mono ?_
   rw [HNB.out]
   rintro e w4 ⟨rfl, rfl⟩
   have hown4 := hown
   have hxx := hx
   have hsz := hxx.size
   clear hown hex
   cases nb with
   | true =>
    go_wp2_with (at_builtin; go_must (refine app_str rfl _ _ rfl w.heap.size _ n _ rfl (hown4.alloc _) w4.heap.size 1 1 [t] rfl rfl (alloc_at _ _) (by omega) (by simp; omega) ?_; intro v' w3 hown3 hg3))
    go_roundw
    case rel =>
     refine ⟨k + 1, n + 1, by omega, by go_num, ?_, ?_, owns_ext_app (hxx.alloc _) (hown4.alloc _) hg3⟩
     ·unfold Hid; rw [HSN.out, HNB.out, if_pos rfl, List.length_append, HN.out]; rfl
     ·rw [HSN.out, HNB.out, if_pos rfl]; exact hown3
    case measure => simp [intOf]; omega
   | false =>
    go_wp2
    go_roundw
    case rel => exact ⟨k + 1, n, by omega, by go_num, by unfold Hid; rw [HSN.out, HNB.out, if_neg (by simp), List.append_nil]; exact HN.out, by rw [HSN.out, HNB.out, if_neg (by simp), List.append_nil]; exact hown4, hxx⟩
    case measure => simp [intOf]; omega
  ·have hkk : k = ss.length := by omega
   subst hkk
   have hn := HN.out
   rw [List.take_length] at hown hn
   subst hn
   have HR : Hid _ := hown
   clear hown
   go_wp2
   go_ret
   exact ⟨⟨_, rfl, HR.out⟩, hx⟩

end Go.Proofs.YtfimfbdlegookaaGreatDoor

/-! marref.Unique over a list that rises: the list. Conditions: as each theorem states. -/
namespace Go.Proofs.YtfimfbdlegookaaGreatDoor
open Go Go.RowKit
set_option linter.unusedVariables false
set_option linter.unusedSimpArgs false

theorem bytesLess_ltB : ∀ a b : B8, Op.bytesLess a b = ltB a b
 | [], [] => by simp [Op.bytesLess, ltB]
 | [], _ :: _ => by simp [Op.bytesLess, ltB]
 | _ :: _, [] => by simp [Op.bytesLess, ltB]
 | a :: r, b :: s => by
  rw [Op.bytesLess, bytesLess_ltB r s]
  unfold ltB
  rw [Bool.eq_iff_iff]
  simp [List.cons_lt_cons_iff]
theorem app_nothing (w : World) (ty : TypeId) (base : Option Addr) (n c : Nat) (hle : n ≤ c) (x : Value) (hs : Src Tryz.prog 1 48 x 0 [] w) :
  (Builtin.append_ #[48, 48] ty #[.slice base n c, x]).run Tryz.prog w = .ok (.slice base n c) w := by
 obtain ⟨i0, hi, hz0, hz1, hz2⟩ := info_parts info_str
 exact run_append_nothing w _ _ ty _ i0 Tryz.underlying48 hi base n c hle x (by rw [hz1]; exact hs)
theorem src_empty (w : World) (c : Prop) [Decidable c] (a b : Addr) (n : Nat) : Src Tryz.prog 1 48 (.slice (if c then some a else some b) 0 n) 0 [] w := by
 split
 ·exact Src.ofSlice w Tryz.underlying48 a 0 n [] (by simp) (fun j u hu => by simp at hu) (fun u hu => by cases hu)
 ·exact Src.ofSlice w Tryz.underlying48 b 0 n [] (by simp) (fun j u hu => by simp at hu) (fun u hu => by cases hu)
def riseL (l : List B8) : Prop := l.Pairwise fun a b => ltB a b = true

set_option maxRecDepth 100000 in
set_option maxHeartbeats 2000000 in
theorem urise_any {w : World} {v : Value} {ss : List B8} (hv : IsStrs w v ss) (hr : riseL ss) (hs : ∀ s ∈ ss, s.length ≤ 100000) (hl : ss.length ≤ 1000000) :
  Calls Tryz.prog 85 #[v] w fun e w' => (∃ v', e = .returned v' ∧ w'.ownsRow w.heap.size 9 1 v' ss.length (ss.map S8)) ∧ Ext w w' := by
 obtain ⟨a, cap, rfl, l1, l2, l3, -⟩ := hv.get
 have HV : Hid _ := hv
 have HS : Hid _ := hs
 have HR : Hid (riseL ss) := hr
 clear hv hs hr
 go_enter Tryz.func85, Tryz.ntmps85
 go_wp2
 go_loopw [3, 4] (fun v i wr => ∃ k : Nat, k ≤ ss.length ∧ i = .int .i64 k ∧ (k = 0 → v = .slice none 0 0) ∧ wr.ownsRow w.heap.size 9 1 v k ((ss.take k).map S8) ∧ Ext w wr) (fun _ i _ => ss.length - (intOf i).toNat)
 case atStart => exact ⟨0, Nat.zero_le _, rfl, fun _ => rfl, World.ownsRow_nil _ _ _ _, Ext.refl _⟩
 case round =>
  obtain ⟨k, hk, rfl, hz0, hown, hx⟩ := hrel
  by_cases hlt : k < ss.length
  ·obtain ⟨s, hse⟩ : ∃ s, ss[k]? = some s := ⟨_, List.getElem?_eq_getElem hlt⟩
   have hsl := HS.out s (List.mem_of_getElem? hse)
   obtain ⟨_, _, he, -, -, -, hg⟩ := (IsStrs.ext HV.out hx).get
   cases he
   obtain ⟨bb, oo, rfl, hc⟩ := hg k hlt
   have y1 := hc k hlt
   rw [show ss.getD k [] = s by rw [List.getD_eq_getElem?_getD, hse]; rfl] at y1
   have HSE : Hid _ := hse
   have hio : IsStrs wr u3 (ss.take k) := by
    have h9 := Row.of_owns hown (by omega)
    unfold IsStrs
    rwa [show (ss.take k).length = k by rw [List.length_take]; omega]
   obtain ⟨oa, oc, hoe, o1, o2, o3, og⟩ := hio.get
   have hkl : (ss.take k).length = k := by rw [List.length_take]; omega
   rw [hkl] at hoe o1
   clear hg hc hio hse
   subst hoe
   have HZ0 : Hid _ := hz0
   clear hz0
   have HOW : Hid (wr.ownsRow w.heap.size 9 1 (.slice oa k oc) k ((ss.take k).map S8)) := hown
   have hprev : ∀ p, 0 < k → ss[k - 1]? = some p → ltB p s = true := fun p hk0 hp => by
    have h9 := HR.out
    unfold riseL at h9
    rw [List.pairwise_iff_getElem] at h9
    obtain ⟨hp1, hp2⟩ := List.getElem?_eq_some_iff.1 hp
    obtain ⟨hs1, hs2⟩ := List.getElem?_eq_some_iff.1 HSE.out
    have := h9 (k - 1) k hp1 hs1 (by omega)
    rwa [hp2, hs2] at this
   have HPV : Hid _ := hprev
   have HOG : Hid _ := og
   have HXX : Hid (Ext w wr) := hx
   clear hprev og hown hx
   go_wp2_with fail
   go_loopw [5] (fun kk wq => kk = .int .i64 k ∧ wq = wr) (fun _ _ => 0)
   case atStart => exact ⟨rfl, rfl⟩
   case round =>
    obtain ⟨rfl, rfl⟩ := hrel
    rcases Nat.eq_zero_or_pos k with hk0 | hk0
    ·subst hk0
     obtain ⟨rfl, rfl⟩ : oa = none ∧ oc = 0 := by have h9 := HZ0.out rfl; simp at h9; exact h9
     simp only [Nat.add_zero] at y1
     go_upto_region 6 with fail
     apply wp_region_mix 14 [_, _, _, _, _, _, _, _, _, _, _, _, _, .bool false] [none, none, none, none, none, none, none, none, none, none, none, none, none, none] [[], [0], [1], [2], [2], [2, 4], [2, 3, 5], [2, 6], [2], [2], [2, 8, 9], [2, 10], [2, 7, 11], [2, 12]] (by kernel_rfl) (by kernel_rfl) (by simp [mixV])
     ·trivial
     ·simp (maxSteps := 1000000) only [List.take_succ_cons, List.take_zero, oblFrom, stepObl, fillFrom, Act.put, List.setIfInBounds_toArray, List.set_cons_zero, List.set_cons_succ, knows, getV, mixV, List.getD_cons_zero, List.getD_cons_succ, and_true, true_and, forall_const]
      refine ⟨?_, ?_, ?_, ?_, ?_, ?_, ?_, ?_, ?_, ?_, ?_, ?_, ?_, ?_⟩
      ·intro xs wq hq R hR
       go_simp
       exact hR _ _ (Ext.refl _) rfl
      ·intro xs wq hq hk R hR
       go_simp
       exact hR _ _ (Ext.refl _) rfl
      ·intro xs wq hq hk R hR
       go_simp
       exact hR _ _ (Ext.refl _) rfl
      ·intro xs wq hq hk R hR
       go_simp
       exact hR _ _ (Ext.refl _) rfl
      ·intro xs wq hq hk R hR
       go_simp
       exact hR _ _ (Ext.refl _) rfl
      ·intro xs wq hq hk R hR
       obtain ⟨hk0, hk1⟩ := hk
       go_simp
       exact hR _ _ (Ext.refl _) rfl
      ·intro xs wq hq hk R hR
       obtain ⟨hk0, hk1, hk2⟩ := hk
       go_simp
       exact hR _ _ (Ext.refl _) rfl
      ·intro xs wq hq hk R hR
       obtain ⟨hk0, hk1⟩ := hk
       go_simp
       exact hR _ _ (Ext.refl _) rfl
      ·intro xs wq hq hk R hR
       go_simp
       exact hR _ _ (Ext.refl _) rfl
      ·intro xs wq hq hk R hR
       go_simp
       exact hR _ _ (Ext.refl _) rfl
      ·intro xs wq hq hk R hR
       obtain ⟨hk0, hk1, hk2⟩ := hk
       go_simp
       exact hR _ _ (Ext.refl _) rfl
      ·intro xs wq hq hk R hR
       obtain ⟨hk0, hk1⟩ := hk
       go_simp
       exact hR _ _ (Ext.refl _) rfl
      ·intro xs wq hq hk R hR
       obtain ⟨hk0, hk1, hk2⟩ := hk
       go_simp
       exact hR _ _ (Ext.refl _) rfl
      ·intro xs wq hq hk R hR
       obtain ⟨hk0, hk1⟩ := hk
       go_simp
       exact hR _ _ (Ext.refl _) rfl
     intro xs w2 hx2 hk
     simp only [heldV, Nat.zero_add, Nat.reduceAdd, and_true] at hk
     obtain ⟨q0, q1, q2, q3, q4, q5, q6, q7, q8, q9, q10, q11, q12, q13⟩ := hk
     simp (maxSteps := 1000000) only [List.take_succ_cons, List.take_zero, List.drop_succ_cons, List.drop_zero, fillFrom, Act.put, List.setIfInBounds_toArray, List.set_cons_zero, List.set_cons_succ, Nat.zero_add, Nat.reduceAdd, q0, q1, q2, q3, q4, q5, q6, q7, q8, q9, q10, q11, q12, q13]
     clear q0 q1 q2 q3 q4 q5 q6 q7 q8 q9 q10 q11 q12 q13
     have HX2 : Hid (Ext wr w2) := hx2
     have y2 := hx2.cell y1
     clear hx2 y1
     go_upto_region 8 with fail
     apply wp_region_mix 15 [_, _, _, _, _, _, _, _, _, _, _, _, _, _, .bool false] [none, none, none, none, none, none, none, none, none, none, none, none, none, none, none] [[], [], [1], [0, 2], [3], [4], [4], [4, 5, 6], [4, 7], [4], [4], [4, 9, 10], [4, 11], [4, 8, 12], [4, 13]] (by kernel_rfl) (by kernel_rfl) (by simp [mixV])
     ·trivial
     ·simp (maxSteps := 1000000) only [List.take_succ_cons, List.take_zero, oblFrom, stepObl, fillFrom, Act.put, List.setIfInBounds_toArray, List.set_cons_zero, List.set_cons_succ, knows, getV, mixV, List.getD_cons_zero, List.getD_cons_succ, and_true, true_and, forall_const]
      refine ⟨?_, ?_, ?_, ?_, ?_, ?_, ?_, ?_, ?_, ?_, ?_, ?_, ?_, ?_, ?_⟩
      ·intro xs wq hq R hR
       go_simp
       exact hR _ _ (Ext.refl _) rfl
      ·intro xs wq hq R hR
       go_simp
       exact hR _ _ (Ext.refl _) rfl
      ·intro xs wq hq hk R hR
       go_simp
       exact hR _ _ (Ext.refl _) rfl
      ·intro xs wq hq hk R hR
       obtain ⟨hk0, hk1⟩ := hk
       go_simp
       exact hR _ _ (Ext.refl _) rfl
      ·intro xs wq hq hk R hR
       go_simp
       exact hR _ _ (Ext.refl _) rfl
      ·intro xs wq hq hk R hR
       go_simp
       exact hR _ _ (Ext.refl _) rfl
      ·intro xs wq hq hk R hR
       go_simp
       exact hR _ _ (Ext.refl _) rfl
      ·intro xs wq hq hk R hR
       obtain ⟨hk0, hk1, hk2⟩ := hk
       go_simp
       exact hR _ _ (Ext.refl _) rfl
      ·intro xs wq hq hk R hR
       obtain ⟨hk0, hk1⟩ := hk
       go_simp
       exact hR _ _ (Ext.refl _) rfl
      ·intro xs wq hq hk R hR
       go_simp
       exact hR _ _ (Ext.refl _) rfl
      ·intro xs wq hq hk R hR
       go_simp
       exact hR _ _ (Ext.refl _) rfl
      ·intro xs wq hq hk R hR
       obtain ⟨hk0, hk1, hk2⟩ := hk
       go_simp
       exact hR _ _ (Ext.refl _) rfl
      ·intro xs wq hq hk R hR
       obtain ⟨hk0, hk1⟩ := hk
       go_simp
       exact hR _ _ (Ext.refl _) rfl
      ·intro xs wq hq hk R hR
       obtain ⟨hk0, hk1, hk2⟩ := hk
       go_simp
       exact hR _ _ (Ext.refl _) rfl
      ·intro xs wq hq hk R hR
       obtain ⟨hk0, hk1⟩ := hk
       go_simp
       exact hR _ _ (Ext.refl _) rfl
     intro xs w3 hx3 hk
     simp only [heldV, Nat.zero_add, Nat.reduceAdd, and_true] at hk
     obtain ⟨q0, q1, q2, q3, q4, q5, q6, q7, q8, q9, q10, q11, q12, q13, q14⟩ := hk
     simp (maxSteps := 1000000) only [List.take_succ_cons, List.take_zero, List.drop_succ_cons, List.drop_zero, fillFrom, Act.put, List.setIfInBounds_toArray, List.set_cons_zero, List.set_cons_succ, Nat.zero_add, Nat.reduceAdd, q0, q1, q2, q3, q4, q5, q6, q7, q8, q9, q10, q11, q12, q13, q14]
     clear q0 q1 q2 q3 q4 q5 q6 q7 q8 q9 q10 q11 q12 q13 q14
     have HX3 : Hid (Ext wr w3) := HX2.out.trans hx3
     have y3 := hx3.cell y2
     clear hx3 y2
     go_upto_region 9 with fail
     apply wp_region_mix 12 [_, _, .slice none 0 0, _, _, _, S8 s, undef, _, _, .slice none 0 0, undef] [none, none, none, none, none, none, none, some (fun u w' => ∃ b7 fr, u = .slice (some ⟨b7, 0, none⟩) 1 1 ∧ w'.heap[b7]? = some (.cells #[S8 s] 9 fr)), none, none, none, some (fun u w' => ∃ b7 fr, u = .slice (some ⟨b7, 0, none⟩) 1 1 ∧ w'.heap[b7]? = some (.cells #[S8 s] 9 fr))] [[], [], [0, 1], [], [], [3, 4], [5], [6], [], [], [8, 9], [7, 10]] (by kernel_rfl) (by kernel_rfl) (by simp [mixV])
     ·refine ⟨?_, ?_, trivial⟩
      ·exact fun _ _ _ he ⟨b7, fr, h1, h2⟩ => ⟨b7, fr, h1, he.row h2⟩
      ·exact fun _ _ _ he ⟨b7, fr, h1, h2⟩ => ⟨b7, fr, h1, he.row h2⟩
     ·simp (maxSteps := 1000000) only [List.take_succ_cons, List.take_zero, oblFrom, stepObl, fillFrom, Act.put, List.setIfInBounds_toArray, List.set_cons_zero, List.set_cons_succ, knows, getV, mixV, List.getD_cons_zero, List.getD_cons_succ, and_true, true_and, forall_const]
      refine ⟨?_, ?_, ?_, ?_, ?_, ?_, ?_, ?_, ?_, ?_, ?_, ?_⟩
      ·intro xs wq hq R hR
       have f1 := hq.cell y3
       go_simp
       exact hR _ _ (Ext.refl _) rfl
      ·intro xs wq hq R hR
       have f1 := hq.cell y3
       go_simp
       exact hR _ _ (Ext.refl _) rfl
      ·intro xs wq hq hk R hR
       obtain ⟨hk0, hk1⟩ := hk
       have f1 := hq.cell y3
       go_simp
       exact hR _ _ (Ext.refl _) rfl
      ·intro xs wq hq R hR
       have f1 := hq.cell y3
       go_simp
       exact hR _ _ (Ext.refl _) rfl
      ·intro xs wq hq R hR
       have f1 := hq.cell y3
       go_simp
       exact hR _ _ (Ext.refl _) rfl
      ·intro xs wq hq hk R hR
       obtain ⟨hk0, hk1⟩ := hk
       have f1 := hq.cell y3
       go_simp
       exact hR _ _ (Ext.refl _) rfl
      ·intro xs wq hq hk R hR
       have f1 := hq.cell y3
       go_simp
       exact hR _ _ (Ext.refl _) rfl
      ·intro xs wq hq hk R hR
       go_simp
       exact hR _ _ ((Ext.refl _).alloc _) ⟨_, _, rfl, alloc_at _ _⟩
      ·intro xs wq hq R hR
       have f1 := hq.cell y3
       go_simp
       exact hR _ _ (Ext.refl _) rfl
      ·intro xs wq hq R hR
       have f1 := hq.cell y3
       go_simp
       exact hR _ _ (Ext.refl _) rfl
      ·intro xs wq hq hk R hR
       obtain ⟨hk0, hk1⟩ := hk
       have f1 := hq.cell y3
       go_simp
       exact hR _ _ (Ext.refl _) rfl
      ·intro xs wq hq hk R hR
       obtain ⟨hk0, hk1⟩ := hk
       obtain ⟨b7, fr7, h7, hc7⟩ := hk0
       apply rel_append (.tmp 52) (.tmp 55) 48 (v := xs 7) (xv := xs 10) (v' := .slice (some ⟨b7, 0, none⟩) 1 1) (w' := wq)
       ·rfl
       ·rfl
       ·rfl
       ·rfl
       ·rw [h7, hk1]; exact app_nothing wq _ _ _ _ (Nat.le_refl _) _ (Src.ofNil wq Tryz.underlying48 0)
       ·exact hR _ _ (Ext.refl _) ⟨_, _, rfl, hc7⟩
     intro xs w4 hx4 hk
     simp only [heldV, Nat.zero_add, Nat.reduceAdd, and_true] at hk
     obtain ⟨q0, q1, q2, q3, q4, q5, q6, q7, q8, q9, q10, q11⟩ := hk
     simp (maxSteps := 1000000) only [List.take_succ_cons, List.take_zero, List.drop_succ_cons, List.drop_zero, fillFrom, Act.put, List.setIfInBounds_toArray, List.set_cons_zero, List.set_cons_succ, Nat.zero_add, Nat.reduceAdd, q0, q1, q2, q3, q4, q5, q6, q8, q9, q10]
     clear q0 q1 q2 q3 q4 q5 q6 q8 q9 q10
     generalize xs 7 = x7 at *
     generalize xs 11 = x11 at *
     obtain ⟨b7, fr7, rfl, hc7⟩ := q11
     have hx14 : Ext w w4 := HXX.out.trans (HX3.out.trans hx4)
     have hown4 : w4.ownsRow w.heap.size 9 1 (.slice none 0 0) (0) ((ss.take (0)).map S8) := owns_ext HOW.out (HX3.out.trans hx4)
     have hsz4 := hx14.size
     clear hx4 y3 q7
     go_wp2_with (at_builtin; go_must (refine app_str rfl _ _ rfl w.heap.size _ (0) _ rfl hown4 b7 1 1 [s] rfl rfl hc7 (by omega) (by omega) ?_; intro v' w5 hown5 hg5))
     go_roundw
     case rel => exact ⟨0 + 1, by omega, by go_num, (fun h => by omega), (by rw [List.take_add_one, HSE.out]; exact hown5), owns_ext_app hx14 hown4 hg5⟩
     case measure => simp [intOf]; omega
    ·obtain ⟨j, rfl⟩ : ∃ j, k = j + 1 := ⟨k - 1, by omega⟩
     obtain ⟨ob, oo2, rfl, hoc⟩ := HOG.out j (by rw [hkl]; omega)
     have hp1 := hoc j (by rw [hkl]; omega)
     obtain ⟨p, hpe⟩ : ∃ p, (ss.take (j + 1)).getD j [] = p := ⟨_, rfl⟩
     rw [hpe] at hp1
     have hlp0 : ltB p s = true := HPV.out p (by omega) (by
      rw [← hpe, List.getD_eq_getElem?_getD, List.getElem?_take, if_pos (by omega)]
      have : j < ss.length := by omega
      rw [show j + 1 - 1 = j by omega, List.getElem?_eq_getElem this]
      rfl)
     have hlp : Op.bytesLess p s = true := by rw [bytesLess_ltB]; exact hlp0
     have HLP : Hid _ := hlp0
     have hjn : IntKind.i64.wrap (j : Int) = j := IntWalk.i64_in _ (by omega)
     have hj1 : (j : Int) < (j : Int) + 1 := by omega
     have hj2 : (0 : Int) ≤ (j : Int) + 1 := by omega
     have hj3 : (j : Int) + 1 < (ss.length : Int) := by omega
     have hj4 : (j : Int) + 1 ≤ (oc : Int) := by omega
     clear hoc hpe hlp0
     go_upto_region 6 with fail
     apply wp_region_mix 14 [_, _, _, _, _, .int .i64 (j : Int), _, S8 p, _, _, _, _, .bool false, .bool false] [none, none, none, none, none, none, none, none, none, none, none, none, none, none] [[], [0], [1], [2], [2], [2, 4], [2, 3, 5], [2, 6], [2], [2], [2, 8, 9], [2, 10], [2, 7, 11], [2, 12]] (by kernel_rfl) (by kernel_rfl) (by simp [mixV])
     ·trivial
     ·simp (maxSteps := 1000000) only [List.take_succ_cons, List.take_zero, oblFrom, stepObl, fillFrom, Act.put, List.setIfInBounds_toArray, List.set_cons_zero, List.set_cons_succ, knows, getV, mixV, List.getD_cons_zero, List.getD_cons_succ, and_true, true_and, forall_const]
      refine ⟨?_, ?_, ?_, ?_, ?_, ?_, ?_, ?_, ?_, ?_, ?_, ?_, ?_, ?_⟩
      ·intro xs wq hq R hR
       have f1 := hq.cell hp1; have f2 := hq.cell y1
       go_simp
       exact hR _ _ (Ext.refl _) rfl
      ·intro xs wq hq hk R hR
       have f1 := hq.cell hp1; have f2 := hq.cell y1
       go_simp
       exact hR _ _ (Ext.refl _) rfl
      ·intro xs wq hq hk R hR
       have f1 := hq.cell hp1; have f2 := hq.cell y1
       go_simp
       exact hR _ _ (Ext.refl _) rfl
      ·intro xs wq hq hk R hR
       have f1 := hq.cell hp1; have f2 := hq.cell y1
       go_simp
       exact hR _ _ (Ext.refl _) rfl
      ·intro xs wq hq hk R hR
       have f1 := hq.cell hp1; have f2 := hq.cell y1
       go_simp
       exact hR _ _ (Ext.refl _) rfl
      ·intro xs wq hq hk R hR
       obtain ⟨hk0, hk1⟩ := hk
       have f1 := hq.cell hp1; have f2 := hq.cell y1
       go_simp
       exact hR _ _ (Ext.refl _) rfl
      ·intro xs wq hq hk R hR
       obtain ⟨hk0, hk1, hk2⟩ := hk
       have f1 := hq.cell hp1; have f2 := hq.cell y1
       go_simp
       exact hR _ _ (Ext.refl _) rfl
      ·intro xs wq hq hk R hR
       obtain ⟨hk0, hk1⟩ := hk
       have f1 := hq.cell hp1; have f2 := hq.cell y1
       go_simp
       exact hR _ _ (Ext.refl _) rfl
      ·intro xs wq hq hk R hR
       have f1 := hq.cell hp1; have f2 := hq.cell y1
       go_simp
       exact hR _ _ (Ext.refl _) rfl
      ·intro xs wq hq hk R hR
       have f1 := hq.cell hp1; have f2 := hq.cell y1
       go_simp
       exact hR _ _ (Ext.refl _) rfl
      ·intro xs wq hq hk R hR
       obtain ⟨hk0, hk1, hk2⟩ := hk
       have f1 := hq.cell hp1; have f2 := hq.cell y1
       go_simp
       exact hR _ _ (Ext.refl _) rfl
      ·intro xs wq hq hk R hR
       obtain ⟨hk0, hk1⟩ := hk
       have f1 := hq.cell hp1; have f2 := hq.cell y1
       go_simp
       exact hR _ _ (Ext.refl _) rfl
      ·intro xs wq hq hk R hR
       obtain ⟨hk0, hk1, hk2⟩ := hk
       have f1 := hq.cell hp1; have f2 := hq.cell y1
       go_simp
       exact hR _ _ (Ext.refl _) rfl
      ·intro xs wq hq hk R hR
       obtain ⟨hk0, hk1⟩ := hk
       have f1 := hq.cell hp1; have f2 := hq.cell y1
       go_simp
       exact hR _ _ (Ext.refl _) rfl
     intro xs w2 hx2 hk
     simp only [heldV, Nat.zero_add, Nat.reduceAdd, and_true] at hk
     obtain ⟨q0, q1, q2, q3, q4, q5, q6, q7, q8, q9, q10, q11, q12, q13⟩ := hk
     simp (maxSteps := 1000000) only [List.take_succ_cons, List.take_zero, List.drop_succ_cons, List.drop_zero, fillFrom, Act.put, List.setIfInBounds_toArray, List.set_cons_zero, List.set_cons_succ, Nat.zero_add, Nat.reduceAdd, q0, q1, q2, q3, q4, q5, q6, q7, q8, q9, q10, q11, q12, q13]
     clear q0 q1 q2 q3 q4 q5 q6 q7 q8 q9 q10 q11 q12 q13
     have HX2 : Hid (Ext wr w2) := hx2
     have y2 := hx2.cell y1
     clear hx2 y1
     go_upto_region 8 with fail
     apply wp_region_mix 15 [_, _, _, _, _, _, _, _, _, _, _, _, _, _, .bool false] [none, none, none, none, none, none, none, none, none, none, none, none, none, none, none] [[], [], [1], [0, 2], [3], [4], [4], [4, 5, 6], [4, 7], [4], [4], [4, 9, 10], [4, 11], [4, 8, 12], [4, 13]] (by kernel_rfl) (by kernel_rfl) (by simp [mixV])
     ·trivial
     ·simp (maxSteps := 1000000) only [List.take_succ_cons, List.take_zero, oblFrom, stepObl, fillFrom, Act.put, List.setIfInBounds_toArray, List.set_cons_zero, List.set_cons_succ, knows, getV, mixV, List.getD_cons_zero, List.getD_cons_succ, and_true, true_and, forall_const]
      refine ⟨?_, ?_, ?_, ?_, ?_, ?_, ?_, ?_, ?_, ?_, ?_, ?_, ?_, ?_, ?_⟩
      ·intro xs wq hq R hR
       go_simp
       exact hR _ _ (Ext.refl _) rfl
      ·intro xs wq hq R hR
       go_simp
       exact hR _ _ (Ext.refl _) rfl
      ·intro xs wq hq hk R hR
       go_simp
       exact hR _ _ (Ext.refl _) rfl
      ·intro xs wq hq hk R hR
       obtain ⟨hk0, hk1⟩ := hk
       go_simp
       exact hR _ _ (Ext.refl _) rfl
      ·intro xs wq hq hk R hR
       go_simp
       exact hR _ _ (Ext.refl _) rfl
      ·intro xs wq hq hk R hR
       go_simp
       exact hR _ _ (Ext.refl _) rfl
      ·intro xs wq hq hk R hR
       go_simp
       exact hR _ _ (Ext.refl _) rfl
      ·intro xs wq hq hk R hR
       obtain ⟨hk0, hk1, hk2⟩ := hk
       go_simp
       exact hR _ _ (Ext.refl _) rfl
      ·intro xs wq hq hk R hR
       obtain ⟨hk0, hk1⟩ := hk
       go_simp
       exact hR _ _ (Ext.refl _) rfl
      ·intro xs wq hq hk R hR
       go_simp
       exact hR _ _ (Ext.refl _) rfl
      ·intro xs wq hq hk R hR
       go_simp
       exact hR _ _ (Ext.refl _) rfl
      ·intro xs wq hq hk R hR
       obtain ⟨hk0, hk1, hk2⟩ := hk
       go_simp
       exact hR _ _ (Ext.refl _) rfl
      ·intro xs wq hq hk R hR
       obtain ⟨hk0, hk1⟩ := hk
       go_simp
       exact hR _ _ (Ext.refl _) rfl
      ·intro xs wq hq hk R hR
       obtain ⟨hk0, hk1, hk2⟩ := hk
       go_simp
       exact hR _ _ (Ext.refl _) rfl
      ·intro xs wq hq hk R hR
       obtain ⟨hk0, hk1⟩ := hk
       go_simp
       exact hR _ _ (Ext.refl _) rfl
     intro xs w3 hx3 hk
     simp only [heldV, Nat.zero_add, Nat.reduceAdd, and_true] at hk
     obtain ⟨q0, q1, q2, q3, q4, q5, q6, q7, q8, q9, q10, q11, q12, q13, q14⟩ := hk
     simp (maxSteps := 1000000) only [List.take_succ_cons, List.take_zero, List.drop_succ_cons, List.drop_zero, fillFrom, Act.put, List.setIfInBounds_toArray, List.set_cons_zero, List.set_cons_succ, Nat.zero_add, Nat.reduceAdd, q0, q1, q2, q3, q4, q5, q6, q7, q8, q9, q10, q11, q12, q13, q14]
     clear q0 q1 q2 q3 q4 q5 q6 q7 q8 q9 q10 q11 q12 q13 q14
     have HX3 : Hid (Ext wr w3) := HX2.out.trans hx3
     have y3 := hx3.cell y2
     clear hx3 y2
     go_upto_region 9 with fail
     apply wp_region_mix 12 [_, _, .slice (some ⟨ob, oo2, none⟩) (j + 1) oc, _, _, _, S8 s, undef, _, _, .slice (if oc = j + 1 then some ⟨ob, oo2, none⟩ else some ⟨ob, oo2 + (j + 1), none⟩) 0 (oc - (j + 1)), undef] [none, none, none, none, none, none, none, some (fun u w' => ∃ b7 fr, u = .slice (some ⟨b7, 0, none⟩) 1 1 ∧ w'.heap[b7]? = some (.cells #[S8 s] 9 fr)), none, none, none, some (fun u w' => ∃ b7 fr, u = .slice (some ⟨b7, 0, none⟩) 1 1 ∧ w'.heap[b7]? = some (.cells #[S8 s] 9 fr))] [[], [], [0, 1], [], [], [3, 4], [5], [6], [], [], [8, 9], [7, 10]] (by kernel_rfl) (by kernel_rfl) (by simp [mixV])
     ·refine ⟨?_, ?_, trivial⟩
      ·exact fun _ _ _ he ⟨b7, fr, h1, h2⟩ => ⟨b7, fr, h1, he.row h2⟩
      ·exact fun _ _ _ he ⟨b7, fr, h1, h2⟩ => ⟨b7, fr, h1, he.row h2⟩
     ·simp (maxSteps := 1000000) only [List.take_succ_cons, List.take_zero, oblFrom, stepObl, fillFrom, Act.put, List.setIfInBounds_toArray, List.set_cons_zero, List.set_cons_succ, knows, getV, mixV, List.getD_cons_zero, List.getD_cons_succ, and_true, true_and, forall_const]
      refine ⟨?_, ?_, ?_, ?_, ?_, ?_, ?_, ?_, ?_, ?_, ?_, ?_⟩
      ·intro xs wq hq R hR
       have f1 := hq.cell y3
       go_simp
       exact hR _ _ (Ext.refl _) rfl
      ·intro xs wq hq R hR
       have f1 := hq.cell y3
       go_simp
       exact hR _ _ (Ext.refl _) rfl
      ·intro xs wq hq hk R hR
       obtain ⟨hk0, hk1⟩ := hk
       have f1 := hq.cell y3
       go_simp
       exact hR _ _ (Ext.refl _) rfl
      ·intro xs wq hq R hR
       have f1 := hq.cell y3
       go_simp
       exact hR _ _ (Ext.refl _) rfl
      ·intro xs wq hq R hR
       have f1 := hq.cell y3
       go_simp
       exact hR _ _ (Ext.refl _) rfl
      ·intro xs wq hq hk R hR
       obtain ⟨hk0, hk1⟩ := hk
       have f1 := hq.cell y3
       go_simp
       exact hR _ _ (Ext.refl _) rfl
      ·intro xs wq hq hk R hR
       have f1 := hq.cell y3
       go_simp
       exact hR _ _ (Ext.refl _) rfl
      ·intro xs wq hq hk R hR
       go_simp
       exact hR _ _ ((Ext.refl _).alloc _) ⟨_, _, rfl, alloc_at _ _⟩
      ·intro xs wq hq R hR
       have f1 := hq.cell y3
       go_simp
       exact hR _ _ (Ext.refl _) rfl
      ·intro xs wq hq R hR
       have f1 := hq.cell y3
       go_simp
       exact hR _ _ (Ext.refl _) rfl
      ·intro xs wq hq hk R hR
       obtain ⟨hk0, hk1⟩ := hk
       have f1 := hq.cell y3
       go_simp
       exact hR _ _ (Ext.refl _) rfl
      ·intro xs wq hq hk R hR
       obtain ⟨hk0, hk1⟩ := hk
       obtain ⟨b7, fr7, h7, hc7⟩ := hk0
       apply rel_append (.tmp 52) (.tmp 55) 48 (v := xs 7) (xv := xs 10) (v' := .slice (some ⟨b7, 0, none⟩) 1 1) (w' := wq)
       ·rfl
       ·rfl
       ·rfl
       ·rfl
       ·rw [h7, hk1]; exact app_nothing wq _ _ _ _ (Nat.le_refl _) _ (src_empty _ _ _ _ _)
       ·exact hR _ _ (Ext.refl _) ⟨_, _, rfl, hc7⟩
     intro xs w4 hx4 hk
     simp only [heldV, Nat.zero_add, Nat.reduceAdd, and_true] at hk
     obtain ⟨q0, q1, q2, q3, q4, q5, q6, q7, q8, q9, q10, q11⟩ := hk
     simp (maxSteps := 1000000) only [List.take_succ_cons, List.take_zero, List.drop_succ_cons, List.drop_zero, fillFrom, Act.put, List.setIfInBounds_toArray, List.set_cons_zero, List.set_cons_succ, Nat.zero_add, Nat.reduceAdd, q0, q1, q2, q3, q4, q5, q6, q8, q9, q10]
     clear q0 q1 q2 q3 q4 q5 q6 q8 q9 q10
     generalize xs 7 = x7 at *
     generalize xs 11 = x11 at *
     obtain ⟨b7, fr7, rfl, hc7⟩ := q11
     have hx14 : Ext w w4 := HXX.out.trans (HX3.out.trans hx4)
     have hown4 : w4.ownsRow w.heap.size 9 1 (.slice (some ⟨ob, oo2, none⟩) (j + 1) oc) (j + 1) ((ss.take (j + 1)).map S8) := owns_ext HOW.out (HX3.out.trans hx4)
     have hsz4 := hx14.size
     clear hx4 y3 q7
     go_wp2_with (at_builtin; go_must (refine app_str rfl _ _ rfl w.heap.size _ (j + 1) _ rfl hown4 b7 1 1 [s] rfl rfl hc7 (by omega) (by omega) ?_; intro v' w5 hown5 hg5))
     go_roundw
     case rel => exact ⟨j + 1 + 1, by omega, by go_num, (fun h => by omega), (by rw [List.take_add_one, HSE.out]; exact hown5), owns_ext_app hx14 hown4 hg5⟩
     case measure => simp [intOf]; omega
  ·have hkk : k = ss.length := by omega
   subst hkk
   rw [List.take_length] at hown
   have HO : Hid _ := hown
   clear hown
   go_wp2
   go_ret
   exact ⟨⟨_, rfl, HO.out⟩, hx⟩

end Go.Proofs.YtfimfbdlegookaaGreatDoor

/-! marref5.FS: List, New, Plan, User, and what each tells of itself. Conditions: what holds of a file system at all times; short paths. -/
namespace Go.Proofs.YtfimfbdlegookaaGreatDoor
open Go Go.RowKit
variable [Inhabited BaseW]

def inDir (dir q : B8) : Bool := dir == [] || isUnder dir q
theorem filt_snoc {l : Files} {k : Nat} {q : B8} {f : Fi} {g : B8 → Bool} (h : l[k]? = some (q, f)) : (pathsL (l.take (k + 1))).filter g = (pathsL (l.take k)).filter g ++ (if g q then [q] else []) := by
 rw [pathsL_take h, List.filter_append]
 congr 1
 by_cases hg : g q = true
 ·rw [if_pos hg, List.filter_cons_of_pos hg]; rfl
 ·rw [if_neg hg, List.filter_cons_of_neg hg]; rfl
set_option maxRecDepth 100000 in
set_option maxHeartbeats 4000000 in
theorem listR_any {O R : Nat → Prop} {w : World} {p : Value} {m : Fs} (dir : B8) (h : RefIn O R w p m) (hp : dir.length ≤ 400) :
  Calls Tryz.prog 84 #[p, S8 dir] w fun e w' => (∃ v, e = .returned (.tuple #[v, .int .i64 (listM m dir).2.2]) ∧ IsStrs w' v (listM m dir).2.1) ∧ RefPost O R w p (listM m dir).1 w' := by
 obtain ⟨m1, full, er, hcm⟩ : ∃ m1 full er, callM m = (m1, full, er) := ⟨_, _, _, rfl⟩
 have hcl := (call_left h.ok h.plan).1
 rw [hcm] at hcl
 have hln : m1.now.length ≤ m1.time := hcl.ok.lnow
 have htm1 : m1.time ≤ m.time + 1000 := hcl.time
 have HDN : Hid _ := hcl.ok.dnow
 have hdef : listM m dir = if er ≠ 0 then (m1, [], er) else if dir = [] then (m1, pathsL m1.now, 0) else if pathB dir = false then (m1, [], 6) else (m1, (pathsL m1.now).filter (isUnder dir), 0) := by unfold listM; rw [hcm]
 have HDEF : Hid _ := hdef
 have HCM : Hid _ := hcm
 have HI : Hid _ := h
 have htm := h.time
 have hcs := h.calls
 have htd := tl dir
 obtain ⟨g, rfl⟩ := h.fs.ptr
 clear hdef hcm hcl h
 go_enter Tryz.func84, Tryz.ntmps84
 go_wp2_with fail
 go_at_call 154
 refine (begin_any HI.out.fs HI.out.base HI.out.high HI.out.ok HI.out.plan (by omega) (by omega)).mono ?_
 rw [HCM.out]
 rintro e w1 ⟨rfl, h1⟩
 have H1 : Hid (RefPost O R w (.pointer (some ⟨g, 0, none⟩)) m1 w1) := h1
 clear h1
 by_cases her : er = 0
 ·subst her
  obtain ⟨bd, hbd⟩ : ∃ bd, (dir == []) = bd := ⟨_, rfl⟩
  obtain ⟨pd, hpd⟩ : ∃ pd, pathB dir = pd := ⟨_, rfl⟩
  have HBD : Hid _ := hbd
  have HPD : Hid _ := hpd
  clear hpd
  -- a name that may not be
  by_cases hno : bd = false ∧ pd = false
  ·obtain ⟨rfl, rfl⟩ := hno
   have hde : dir ≠ [] := by simpa using hbd
   have HDD : Hid (listM m dir = (m1, [], 6)) := by unfold Hid; rw [HDEF.out, if_neg (by simp), if_neg hde, if_pos HPD.out]
   have hdb : (dir != []) = true := by simpa using hde
   clear hde
   go_wp2_with (go_at_call 155; go_must (refine (rpath_any dir _ (by omega)).mono ?_; rw [HPD.out]; rintro e w2 ⟨rfl, hx2⟩))
   go_ret2
   rw [HDD.out]
   exact ⟨⟨_, rfl, IsStrs.nil _⟩, RefPost.ext H1.out hx2⟩
  ·have HOKD : Hid (bd = true ∨ pd = true) := by
    cases bd <;> cases pd <;> simp_all [Hid]
   have HDD : Hid (listM m dir = (m1, (pathsL m1.now).filter (inDir dir), 0)) := by
    unfold Hid
    rw [HDEF.out, if_neg (by simp)]
    by_cases hd0 : dir = []
    ·rw [if_pos hd0]
     congr 2
     refine (List.filter_eq_self.2 fun q _ => ?_).symm
     unfold inDir; rw [hd0]; rfl
    ·have hb : bd = false := by rw [← hbd]; simpa using hd0
     rcases HOKD.out with h | h
     ·rw [hb] at h; cases h
     ·rw [if_neg hd0, if_neg (by rw [HPD.out, h]; simp)]
      congr 2
      refine List.filter_congr fun q _ => ?_
      unfold inDir
      rw [HBD.out, hb]; rfl
   clear hno HDEF
   -- both ways in one
   cases bd
   case' true =>
    have hdb : (dir != []) = false := by simpa using hbd
    go_upto_region 6 with fail
    obtain ⟨w2, hw2⟩ : ∃ w2, w2 = w1 := ⟨_, rfl⟩
    have hx2 : Ext w1 w2 := by rw [hw2]; exact Ext.refl _
    rw [show w1 = w2 from hw2.symm]
    clear hw2
   case' false =>
    have hdb : (dir != []) = true := by simpa using hbd
    have HPT : Hid (pathB dir = true) := by
     rcases HOKD.out with h | h
     ·cases h
     ·rw [HPD.out, h]; rfl
    go_wp2_with fail
    go_at_call 155
    refine (rpath_any dir _ (by omega)).mono ?_
    rw [HPT.out]
    rintro e w2 ⟨rfl, hx2⟩
    go_upto_region 6 with fail
   all_goals
    have H2 : Hid (RefPost O R w (.pointer (some ⟨g, 0, none⟩)) m1 w2) := RefPost.ext H1.out hx2
    obtain ⟨g', vn, vs, vp, vl, vu, hpe, hg, hO, hP⟩ := H2.out.fs
    cases hpe
    obtain ⟨a, cap, rfl, h1, h2, h3, h4⟩ := rows_get hP.now
    obtain ⟨d0, d1, d2, d3, d4, d5, d6, d7, d8⟩ := cellsAt9 hg
    have H4 : Hid _ := h4
    clear hg hP h4 d0 d2 d3 d4 d5 d6 d7 d8 hx2 hO
    go_wp2_with fail
    go_loopw [8, 9] (fun out i wr => ∃ k n : Nat, k ≤ m1.now.length ∧ i = .int .i64 k ∧ ((pathsL (m1.now.take k)).filter (inDir dir)).length = n ∧ n ≤ k ∧ wr.ownsRow w2.heap.size 9 1 out n (((pathsL (m1.now.take k)).filter (inDir dir)).map S8) ∧ Ext w2 wr) (fun _ i _ => m1.now.length - (intOf i).toNat)
    case atStart => exact ⟨0, 0, Nat.zero_le _, rfl, rfl, Nat.le_refl _, World.ownsRow_nil _ _ _ _, Ext.refl _⟩
    case round =>
     obtain ⟨k, n, hk, rfl, hn, hnk, hown, hx⟩ := hrel
     replace d1 := hx.cell d1
     have hsz := hx.size
     have HN : Hid _ := hn
     clear hn
     by_cases hlt : k < m1.now.length
     ·obtain ⟨⟨q, f⟩, hke⟩ : ∃ e, m1.now[k]? = some e := ⟨_, List.getElem?_eq_getElem hlt⟩
      obtain ⟨b, o, s, c, rfl, hql, hd, c0, -, -, -⟩ := H4.out k q f hke
      replace c0 := hx.cell c0
      have HK : Hid _ := filt_snoc (g := inDir dir) hke
      have HQ : Hid (pathB q = true) := (HDN.out _ (List.mem_of_getElem? hke)).1
      clear hd hke
      by_cases hd0 : dir = []
      ·first
        | exact absurd hd0 (by simpa using hbd)
        | (have HIN : Hid (inDir dir q = true) := by unfold Hid inDir; rw [hd0]; rfl
           clear hd0
           rw [HIN.out, if_pos rfl] at HK
           go_wp2_with (at_builtin; go_must (refine app_str rfl _ _ rfl w2.heap.size _ n ((pathsL (m1.now.take k)).filter (inDir dir)) rfl (hown.alloc _) wr.heap.size 1 1 [q] rfl rfl (alloc_at _ _) (by omega) (by simp; omega) ?_); intro v' w4 hown4 hgr4)
           go_roundw
           case rel => exact ⟨k + 1, n + 1, by omega, by go_num, by rw [HK.out, List.length_append, HN.out]; rfl, by omega, by rw [HK.out]; exact hown4, owns_ext_app (hx.alloc _) (hown.alloc _) hgr4⟩
           case measure => simp [intOf]; omega)
      ·first
        | exact absurd (by simpa using hbd) hd0
        | (have HIN : Hid (inDir dir q = isUnder dir q) := by unfold Hid inDir; rw [hbd]; rfl
           clear hd0
           obtain ⟨u, hu⟩ : ∃ u, isUnder dir q = u := ⟨_, rfl⟩
           have HU : Hid _ := hu
           rw [HIN.out, hu] at HK
           clear hu
           go_wp2_with fail
           go_at_call 161
           refine (runder_any dir q _ (by omega) (by omega)).mono ?_
           rw [HPT.out, HQ.out, HU.out]
           rintro e w3 ⟨rfl, hx3⟩
           replace d1 := hx3.cell d1
           replace c0 := hx3.cell c0
           have hown3 := owns_ext hown hx3
           have hxr := hx.trans hx3
           have hs3 := hx3.size
           cases u with
           | true =>
            go_wp2_with (at_builtin; go_must (refine app_str rfl _ _ rfl w2.heap.size _ n ((pathsL (m1.now.take k)).filter (inDir dir)) rfl (hown3.alloc _) w3.heap.size 1 1 [q] rfl rfl (alloc_at _ _) (by omega) (by simp; omega) ?_); intro v' w4 hown4 hgr4)
            go_roundw
            case rel => exact ⟨k + 1, n + 1, by omega, by go_num, by rw [HK.out, if_pos (by simp), List.length_append, HN.out]; rfl, by omega, by rw [HK.out, if_pos (by simp)]; exact hown4, owns_ext_app (hxr.alloc _) (hown3.alloc _) hgr4⟩
            case measure => simp [intOf]; omega
           | false =>
            go_wp2
            go_roundw
            case rel => exact ⟨k + 1, n, by omega, by go_num, by rw [HK.out, if_neg (by simp), List.append_nil]; exact HN.out, by omega, by rw [HK.out, if_neg (by simp), List.append_nil]; exact hown3, hxr⟩
            case measure => simp [intOf]; omega)
     ·have hkk : k = m1.now.length := by omega
      subst hkk
      have hn := HN.out
      rw [List.take_length] at hown hn
      have HO : Hid _ := strs_owned hown hn.symm (by omega)
      clear hown hn
      go_wp2
      go_ret2
      rw [HDD.out]
      exact ⟨⟨_, rfl, HO.out⟩, RefPost.ext H2.out hx⟩
 ·have hb : (er == 0) = false := by simpa using her
  have hb' : (er != 0) = true := by simpa using her
  have HDD : Hid (listM m dir = (m1, [], er)) := by unfold Hid; rw [HDEF.out]; simp [her]
  clear her HDEF
  go_wp2
  go_ret2
  rw [HDD.out]
  exact ⟨⟨_, rfl, IsStrs.nil _⟩, H1.out⟩

end Go.Proofs.YtfimfbdlegookaaGreatDoor

/-! marref6: ListRefs, Unlock. Conditions: as each theorem states. -/
namespace Go.Proofs.YtfimfbdlegookaaGreatDoor
open Go Go.RowKit
set_option linter.unusedVariables false
set_option linter.unusedSimpArgs false
set_option linter.unusedSectionVars false

theorem ltB_app : ∀ (d a b : B8), ltB (d ++ a) (d ++ b) = ltB a b
 | [], _, _ => rfl
 | x :: d, a, b => by
  have ih := ltB_app d a b
  unfold ltB at ih ⊢
  rw [List.cons_append, List.cons_append, ← ih, Bool.eq_iff_iff]
  simp [List.cons_lt_cons_iff]
theorem direct_rise {l : List B8} {dir : B8} (h : ∀ p ∈ l, isUnder dir p = true) (hr : riseL l) : riseL (directL l dir.length) := by
 unfold riseL directL
 refine List.Pairwise.filter _ ?_
 rw [List.pairwise_map]
 refine List.Pairwise.imp_of_mem (fun {a b} ha hb hab => ?_) hr
 obtain ⟨r, rfl⟩ := (under_iff _ _).1 (h a ha)
 obtain ⟨s, rfl⟩ := (under_iff _ _).1 (h b hb)
 rw [ltB_app] at hab
 have e : ∀ t : B8, (dir ++ 47 :: t).drop (dir.length + 1) = t := fun t => by simp
 rw [e, e]
 have h2 := ltB_app [47] r s
 exact h2.symm.trans hab
theorem list_rise {m : Fs} {dir : B8} (hr : Rising (callM m).1.now) (h0 : dir ≠ []) : riseL (listM m dir).2.1 ∧ ∀ p ∈ (listM m dir).2.1, isUnder dir p = true := by
 unfold listM
 split
 ·exact ⟨List.Pairwise.nil, fun p hp => by cases hp⟩
 ·try rw [if_neg h0]
  split
  ·exact ⟨List.Pairwise.nil, fun p hp => by cases hp⟩
  ·refine ⟨?_, fun p hp => (List.mem_filter.1 hp).2⟩
   unfold riseL pathsL
   refine List.Pairwise.filter _ ?_
   rw [List.pairwise_map]
   exact hr
theorem list_err {m : Fs} {dir : B8} (h0 : dir ≠ []) (he : (listM m dir).2.2 ≠ 0) : (listM m dir).2.1 = [] := by
 unfold listM at he ⊢
 by_cases h1 : (callM m).2.2 ≠ 0
 ·rw [if_pos h1]
 ·rw [if_neg h1, if_neg h0] at he ⊢
  by_cases h2 : pathB dir = false
  ·rw [if_pos h2]
  ·rw [if_neg h2] at he; exact (he rfl).elim
theorem under_len {l : List B8} {dir : B8} (h : ∀ p ∈ l, isUnder dir p = true) (hs : ∀ s ∈ l, s.length ≤ 200) : ∀ s ∈ l, s.length ≤ 100000 ∧ dir.length + 1 ≤ s.length := fun s hm => by
 obtain ⟨r, hr⟩ := (under_iff _ _).1 (h s hm)
 refine ⟨by have := hs s hm; omega, by rw [hr]; simp⟩
theorem direct_short {l : List B8} {n : Nat} (hs : ∀ s ∈ l, s.length ≤ 200) : ∀ s ∈ directL l n, s.length ≤ 100000 := fun s hm => by
 obtain ⟨p, hp, rfl⟩ := List.mem_map.1 (List.mem_filter.1 hm).1
 have := hs p hp
 rw [List.length_drop]
 omega

variable [Inhabited BaseW]
set_option maxRecDepth 100000 in
set_option maxHeartbeats 2000000 in
theorem listRefs_any {O R : Nat → Prop} {w : World} {p : Value} {m : Fs} (h : RefIn O R w p m) (hr : Rising (callM m).1.now) :
  Calls Tryz.prog 34 #[p] w fun e w' => (∃ v, e = .returned (.tuple #[v, .int .i64 (refsM m).2.2]) ∧ IsStrs w' v (refsM m).2.1) ∧ RefPost O R w p (refsM m).1 w' := by
 have HS : Hid _ := list_short (dir := placeD) h.ok h.plan
 have HL : Hid _ := list_len (dir := placeD) h.ok h.plan (by have := h.time; omega)
 have HR : Hid _ := listR_any placeD h (by decide)
 have HRI : Hid _ := list_rise (dir := placeD) hr (by decide)
 have HER : Hid _ := list_err (m := m) (dir := placeD) (by decide)
 unfold refsM
 obtain ⟨⟨m1, ls, er⟩, hrd⟩ : ∃ q, listM m placeD = q := ⟨_, rfl⟩
 rw [hrd] at HR HS HL HRI HER ⊢
 clear hrd h hr
 go_enter Tryz.func34, Tryz.ntmps34
 go_wp2_with fail
 go_at_call 84
 refine Calls.mono HR.out ?_
 rintro e w1 ⟨⟨v, rfl, hv⟩, hp1⟩
 have hls : ls.length ≤ 701000 := HL.out
 have hv' : IsStrs w1 v ls := hv
 have HV : Hid _ := hv'
 have HP : Hid _ := hp1
 clear hv hv' hp1 HR
 by_cases h0 : er = 0
 case neg =>
  have b1 : (er != 0) = true := by simpa using h0
  have HE : Hid (ls = []) := HER.out h0
  clear h0 HER
  go_wp2
  go_ret2
  rw [HE.out]
  exact ⟨⟨_, rfl, Row.nil _⟩, HP.out⟩
 subst h0
 have HD : Hid (directL ls placeD.length = lastL ls placeD) := direct_last HRI.out.2
 have HDR : Hid (riseL (directL ls placeD.length)) := direct_rise HRI.out.2 HRI.out.1
 have HDS : Hid _ := direct_short (n := placeD.length) HS.out
 go_wp2_with fail
 go_at_call 86
 refine (direct_any placeD HV.out (under_len HRI.out.2 HS.out) (by decide) (by omega)).mono ?_
 rintro e w2 ⟨⟨v2, rfl, ho⟩, hx2⟩
 have hll := direct_len ls placeD.length
 rw [HD.out] at ho hll HDR HDS
 have HO : Hid (IsStrs w2 v2 (lastL ls placeD)) := Row.of_owns ho (by omega)
 have HP2 : Hid _ := RefPost.ext HP.out hx2
 clear ho hx2
 go_wp2_with fail
 go_at_call 85
 refine (urise_any HO.out HDR.out HDS.out (by omega)).mono ?_
 rintro e w3 ⟨⟨v3, rfl, ho⟩, hx3⟩
 have HO3 : Hid (IsStrs w3 v3 (lastL ls placeD)) := Row.of_owns ho (by omega)
 have HP3 : Hid _ := RefPost.ext HP2.out hx3
 clear ho hx3
 go_wp2
 go_ret2
 exact ⟨⟨_, rfl, HO3.out⟩, HP3.out⟩

set_option maxRecDepth 100000 in
set_option maxHeartbeats 4000000 in
theorem unlockR_any {O R : Nat → Prop} {w : World} {p : Value} {m : Fs} (h : RefIn O R w p m) (hr : Rising (callM m).1.now) (hf : Fit (listM m lockD).1) (hd : (listM m lockD).2.2 = 0 → FitAll (listM m lockD).1 (lastL (listM m lockD).2.1 lockD)) :
  Calls Tryz.prog 36 #[p] w fun e w' => e = .returned (.tuple #[.int .i64 (unlockM m).2.1, .int .i64 (unlockM m).2.2]) ∧ RefPost O R w p (unlockM m).1 w' := by
 have HS : Hid _ := list_short (dir := lockD) h.ok h.plan
 have HL : Hid _ := list_len (dir := lockD) h.ok h.plan (by have := h.time; omega)
 have HR : Hid _ := listR_any lockD h (by decide)
 have HRI : Hid _ := list_rise (dir := lockD) hr (by decide)
 have HT0 : Hid _ := ThruR.start h
 obtain ⟨U, hU⟩ : ∃ U, unlockM m = U := ⟨_, rfl⟩
 have hU2 := hU
 rw [hU]
 unfold unlockM at hU2
 have HF : Hid _ := hf
 have HD : Hid _ := hd
 obtain ⟨⟨m1, ls, er⟩, hrd⟩ : ∃ q, listM m lockD = q := ⟨_, rfl⟩
 rw [hrd] at HR HS HL hU2 HF HD HRI
 have HU : Hid _ := hU2
 clear hrd h hU hU2 hf hd hr
 go_enter Tryz.func36, Tryz.ntmps36
 go_wp2_with fail
 go_at_call 84
 refine Calls.mono HR.out ?_
 rintro e w1 ⟨⟨v, rfl, hv⟩, hp1⟩
 have hls : ls.length ≤ 701000 := HL.out
 have hv' : IsStrs w1 v ls := hv
 have HV : Hid _ := hv'
 have HT1 : Hid (ThruR O R w p m1 (Nw O w w1) (Nw R w w1) w1) := ThruR.post HT0.out hp1 HF.out
 clear hv hv' hp1 HR HT0
 by_cases h0 : er = 0
 case neg =>
  have b1 : (er != 0) = true := by simpa using h0
  have HU2 : Hid ((m1, (0 : Int), er) = U) := by
   have h9 := HU.out
   rw [if_pos h0] at h9
   exact h9
  clear h0 HU
  go_wp2
  go_ret2
  rw [← HU2.out]
  exact ⟨rfl, HT1.out.out⟩
 subst h0
 have HU2 : Hid ((if (dropsM m1 (lastL ls lockD)).2 ≠ 0 then ((dropsM m1 (lastL ls lockD)).1, (0 : Int), (dropsM m1 (lastL ls lockD)).2) else ((dropsM m1 (lastL ls lockD)).1, ((lastL ls lockD).length : Int), 0)) = U) := by
  have h9 := HU.out
  rw [if_neg (by simp)] at h9
  exact h9
 have HD1 : Hid (FitAll m1 (lastL ls lockD)) := HD.out rfl
 have HDD : Hid (directL ls lockD.length = lastL ls lockD) := direct_last HRI.out.2
 have HDR : Hid (riseL (directL ls lockD.length)) := direct_rise HRI.out.2 HRI.out.1
 have HDS : Hid _ := direct_short (n := lockD.length) HS.out
 clear HU HD
 go_wp2_with fail
 go_at_call 86
 refine (direct_any lockD HV.out (under_len HRI.out.2 HS.out) (by decide) (by omega)).mono ?_
 rintro e w2a ⟨⟨v2a, rfl, hoa⟩, hx2a⟩
 have hll := direct_len ls lockD.length
 rw [HDD.out] at hoa hll HDR HDS
 have HOa : Hid (IsStrs w2a v2a (lastL ls lockD)) := Row.of_owns hoa (by omega)
 have HXa : Hid (Ext w1 w2a) := hx2a
 clear hoa hx2a
 go_wp2_with fail
 go_at_call 85
 refine (urise_any HOa.out HDR.out HDS.out (by omega)).mono ?_
 rintro e w2 ⟨⟨v2, rfl, ho⟩, hx2b⟩
 have hx2 : Ext w1 w2 := HXa.out.trans hx2b
 have hsh : ∀ n ∈ lastL ls lockD, nameB n = true := fun n hn => (List.mem_filter.1 hn).2
 obtain ⟨L, hL⟩ : ∃ L, lastL ls lockD = L := ⟨_, rfl⟩
 rw [hL] at ho hll HU2 HD1 hsh
 have HSH : Hid _ := hsh
 have hLn : L.length ≤ 701000 := by omega
 have HT2 : Hid (ThruR O R w p m1 (Nw O w w1) (Nw R w w1) w2) := ThruR.more HT1.out hx2
 have hr2 : IsStrs w2 v2 L := Row.of_owns ho (by omega)
 have HR2 : Hid (RowOut (Nw O w w1) w2 v2 L) := by
  refine ⟨hr2, fun k hk => ?_⟩
  have h1 := ho.lt k hk
  refine ⟨fun hno => ?_, h1.2⟩
  have h2 := HT1.out.fin.low k hno
  have h3 := HXa.out.size
  omega
 obtain ⟨sa, sc, rfl, -⟩ := hr2.get
 clear ho hx2 hx2b hr2 hL HV HS HL hls hll HT1 hsh HDD HDR HDS HOa HXa HRI
 go_wp2_with fail
 go_loopw [5, 7] (fun e5 i wr => e5 = .int .i64 0 ∧ ∃ (k : Nat) (mk : Fs) (Ok Rk : Nat → Prop), k ≤ L.length ∧ i = .int .i64 k ∧ Hid (dropsM m1 L = dropsM mk (L.drop k)) ∧ Hid (FitAll mk (L.drop k)) ∧ ThruR O R w p mk Ok Rk wr ∧ RowOut Ok wr (.slice sa L.length sc) L) (fun _ i _ => L.length - (intOf i).toNat)
 case atStart => exact ⟨rfl, 0, m1, _, _, Nat.zero_le _, rfl, rfl, HD1.out, HT2.out, HR2.out⟩
 case round =>
  obtain ⟨rfl, k, mk, Ok, Rk, hk, rfl, HDR, HFA, hth, hro⟩ := hrel
  have HTH : Hid (ThruR O R w p mk Ok Rk wr) := hth
  have HRO : Hid (RowOut Ok wr (.slice sa L.length sc) L) := hro
  clear hth hro
  by_cases hlt : k < L.length
  ·obtain ⟨s, hse⟩ : ∃ s, L[k]? = some s := ⟨_, List.getElem?_eq_getElem hlt⟩
   obtain ⟨_, _, he, -, -, -, hg⟩ := HRO.out.row.get
   cases he
   obtain ⟨bb, oo, rfl, hc⟩ := hg k hlt
   have y1 := hc k hlt
   rw [show L.getD k [] = s by rw [List.getD_eq_getElem?_getD, hse]; rfl] at y1
   have hsn := HSH.out s (List.mem_of_getElem? hse)
   have hsl := lock_len hsn
   have hs64 := hsl.2.2
   have hdk : L.drop k = s :: L.drop (k + 1) := by
    rw [List.drop_eq_getElem_cons hlt]
    congr 1
    exact (List.getElem?_eq_some_iff.1 hse).2
   have HDR2 : Hid (dropsM m1 L = if (removeM mk (lockP s)).2 ≠ 0 then removeM mk (lockP s) else dropsM (removeM mk (lockP s)).1 (L.drop (k + 1))) := by
    unfold Hid
    rw [HDR.out, hdk]
    rfl
   have HFA2 : Hid (FitAll (removeM mk (lockP s)).1 (L.drop (k + 1))) := by
    have h9 := HFA.out
    rw [hdk] at h9
    exact h9.2
   have HRM : Hid _ := removeR_any (lockP s) HTH.out.fin hsl.1
   obtain ⟨⟨m2, e2⟩, hrd⟩ : ∃ q, removeM mk (lockP s) = q := ⟨_, rfl⟩
   rw [hrd] at HDR2 HFA2 HRM
   clear hse hg hc hsn hsl hdk HDR HFA hrd
   go_wp2_with fail
   go_at_call 82
   refine Calls.mono HRM.out ?_
   rintro e w4 ⟨rfl, h4⟩
   have HT4 : Hid _ := ThruR.post HTH.out h4 HFA2.out.head
   have HR4 : Hid _ := HRO.out.post h4.fr
   clear h4 HRM
   try dsimp only
   by_cases h0 : e2 = 0
   case neg =>
    have b1 : (e2 != 0) = true := by simpa using h0
    have HU3 : Hid ((m2, (0 : Int), e2) = U) := by
     have h9 := HU2.out
     have h8 := HDR2.out
     rw [if_pos h0] at h8
     rw [h8] at h9
     rw [if_pos h0] at h9
     exact h9
    clear h0
    go_wp2
    go_ret2
    rw [← HU3.out]
    exact ⟨rfl, HT4.out.out⟩
   subst h0
   have HDR3 : Hid (dropsM m1 L = dropsM m2 (L.drop (k + 1))) := by
    have h8 := HDR2.out
    rw [if_neg (by simp)] at h8
    exact h8
   go_wp2
   go_roundw
   case rel => exact ⟨rfl, k + 1, m2, _, _, by omega, by go_num, HDR3.out, HFA2.out, HT4.out, HR4.out⟩
   case measure => simp [intOf]; omega
  ·have hkk : k = L.length := by omega
   subst hkk
   have HU3 : Hid ((mk, (L.length : Int), (0 : Int)) = U) := by
    have h9 := HU2.out
    have h8 := HDR.out
    rw [List.drop_length] at h8
    rw [h8] at h9
    exact h9
   go_wp2
   go_ret2
   rw [← HU3.out]
   exact ⟨rfl, HTH.out.out⟩

end Go.Proofs.YtfimfbdlegookaaGreatDoor

/-! How many files, ticks, calls there can be: in plain Lean. Conditions: as each theorem states. -/
namespace Go.Proofs.YtfimfbdlegookaaGreatDoor
open Go Go.RowKit

/-- Behind however many pending changes: so many files, by rising paths. -/
def LR (C : Nat) (m : Fs) : Prop := ∀ k, ((m.pend.take k).foldl ap m.sure).length ≤ C ∧ Rising ((m.pend.take k).foldl ap m.sure)
theorem LR.mono {C D : Nat} {m : Fs} (h : LR C m) (hc : C ≤ D) : LR D m := fun k => ⟨Nat.le_trans (h k).1 hc, (h k).2⟩
theorem LR.now {C : Nat} {m : Fs} (h : LR C m) (hok : OkM m) : m.now.length ≤ C ∧ Rising m.now := by
 have := h m.pend.length
 rwa [List.take_length, hok.fold] at this
theorem LR.same {C : Nat} {m m' : Fs} (h : LR C m) (h1 : m'.sure = m.sure) (h2 : m'.pend = m.pend) : LR C m' := by
 intro k
 rw [h1, h2]
 exact h k
theorem lr_of {C : Nat} {m : Fs} (hp : m.pend = []) (h : m.sure.length ≤ C ∧ Rising m.sure) : LR C m := by
 intro k
 rw [hp]
 simpa using h
theorem lr_does {C D : Nat} {m : Fs} {c : Ch} (hok : OkM m) (h : LR C m) (hcd : C ≤ D) (hc : (ap m.now (c.at (m.time + 1))).length ≤ D) : LR D (does m c) := by
 intro k
 show ((((m.pend ++ [c.at (m.time + 1)]).take k).foldl ap m.sure).length ≤ D ∧ _)
 by_cases hk : k ≤ m.pend.length
 ·rw [show (does m c).pend = m.pend ++ [c.at (m.time + 1)] from rfl, show (does m c).sure = m.sure from rfl, List.take_append_of_le_length hk]
  exact ⟨Nat.le_trans (h k).1 hcd, (h k).2⟩
 ·rw [show (does m c).pend = m.pend ++ [c.at (m.time + 1)] from rfl, show (does m c).sure = m.sure from rfl, List.take_of_length_le (by simp; omega), List.foldl_append, hok.fold]
  exact ⟨hc, (h.now hok).2.ap _⟩
theorem del_look {l : Files} {p : B8} (h : (look l p).isSome = true) : (delF l p).length + 1 ≤ l.length := by
 obtain ⟨e, he, hp⟩ := look_some.1 h
 have h1 : (delF l p).length < l.length := by
  unfold delF
  refine Nat.lt_of_le_of_ne (List.length_filter_le _ _) (fun hl => ?_)
  have := List.length_filter_eq_length_iff.1 hl e he
  simp [hp] at this
 omega
theorem ap_mv_len (l : Files) (s d : B8) : (ap l (.mv s d)).length ≤ l.length := by
 show (match look l s with | some x => putF (delF l s) d x | none => l).length ≤ _
 cases hq : look l s with
 | none => exact Nat.le_refl _
 | some x =>
  have h1 := del_look (l := l) (p := s) (by rw [hq]; rfl)
  have h2 := putF_length (delF l s) d x
  simp only
  omega
theorem ap_del_len (l : Files) (p : B8) : (ap l (.del p)).length ≤ l.length := delF_length l p
theorem ap_put_len (l : Files) (p : B8) (f : Fi) : (ap l (.put p f)).length ≤ l.length + 1 := putF_length l p f
theorem lr_put {C : Nat} {m : Fs} {p : B8} {f : Fi} (hok : OkM m) (h : LR C m) : LR (C + 1) (does m (.put p f)) :=
 lr_does hok h (by omega) (by have h1 := ap_put_len m.now p { f with time := ((m.time + 1 : Nat) : Int) }; have h2 := (h.now hok).1; exact Nat.le_trans h1 (by omega))
theorem lr_mv {C : Nat} {m : Fs} {s d : B8} (hok : OkM m) (h : LR C m) : LR C (does m (.mv s d)) :=
 lr_does hok h (Nat.le_refl _) (Nat.le_trans (ap_mv_len m.now s d) (h.now hok).1)
theorem lr_del {C : Nat} {m : Fs} {p : B8} (hok : OkM m) (h : LR C m) : LR C (does m (.del p)) :=
 lr_does hok h (Nat.le_refl _) (Nat.le_trans (ap_del_len m.now p) (h.now hok).1)
theorem lr_settle {C : Nat} {m : Fs} (hok : OkM m) (h : LR C m) : LR C (settle m) := lr_of rfl (h.now hok)
theorem lr_puts {C : Nat} {m : Fs} {path : B8} {mode : Int} {data : B8} {fits : Bool} (hok : OkM m) (h : LR C m) : LR (C + 1) (putsM m path mode data fits).1 := by
 unfold putsM
 split
 ·exact h.mono (by omega)
 ·split
  ·exact h.mono (by omega)
  ·exact lr_put hok h
theorem lr_removes {C : Nat} {m : Fs} {path : B8} (hok : OkM m) (h : LR C m) : LR C (removesM m path).1 := by
 unfold removesM
 split
 ·exact h
 ·split
  ·exact h
  ·exact lr_del hok h
theorem lr_crash {C : Nat} {m : Fs} (h : LR C m) (keep torn : Int) : LR C (crash m keep torn) := by
 unfold crash
 split
 ·exact h
 ·refine lr_of rfl ?_
  show (fallen m keep torn).length ≤ C ∧ Rising (fallen m keep torn)
  unfold fallen
  have h1 := h (keepN m keep)
  unfold torn1
  split
  ·rename_i p f hk
   split
   ·refine ⟨?_, h1.2.ap _⟩
    have h2 := (h (keepN m keep + 1)).1
    rw [fold_snoc hk] at h2
    have h3 : (ap ((m.pend.take (keepN m keep)).foldl ap m.sure) (.put p { f with data := f.data.take torn.toNat })).length = (ap ((m.pend.take (keepN m keep)).foldl ap m.sure) (.put p f)).length := by
     show (putF _ p _).length = (putF _ p _).length
     unfold putF
     rw [insF_length, insF_length]
    rw [h3]
    exact h2
   ·exact h1
  ·exact h1
theorem lr_userWrite {C : Nat} {m : Fs} {path : B8} {mode : Int} {data : B8} (hok : OkM m) (h : LR C m) : LR (C + 1) (userWrite m path mode data).1 := by
 unfold userWrite
 split
 ·exact h.mono (by omega)
 ·split
  ·exact h.mono (by omega)
  ·rename_i hw
   have hw0 := wrong_zero (by simpa using hw)
   have hp := lr_puts (path := path) (mode := mode) (data := data) (fits := true) hok h
   split
   ·exact hp
   ·exact (lr_settle (ok_puts hok hw0.1 hw0.2.2.2) hp).same rfl rfl
theorem lr_userRemove {C : Nat} {m : Fs} {path : B8} (hok : OkM m) (h : LR C m) : LR C (userRemove m path).1 := by
 unfold userRemove
 split
 ·exact h
 ·have hp := lr_removes (path := path) hok h
  split
  ·exact hp
  ·exact (lr_settle (ok_removes hok) hp).same rfl rfl
theorem lr_hap {C : Nat} {m : Fs} (hok : OkM m) (h : LR C m) (e : Ev) : LR (C + 1) (hapM m e) := by
 unfold hapM
 split
 ·exact (lr_crash h _ _).mono (by omega)
 ·split
  ·exact lr_userWrite hok h
  ·split
   ·exact (lr_userRemove hok h).mono (by omega)
   ·exact h.mono (by omega)
theorem hap_users (m : Fs) (e : Ev) : (hapM m e).users.length ≤ m.users.length + 1 := by
 unfold hapM
 split
 ·unfold crash
  split <;> exact Nat.le_succ _
 ·split
  ·unfold userWrite
   split
   ·exact Nat.le_succ _
   ·split
    ·exact Nat.le_succ _
    ·split
     ·rw [puts_size.2.1]; exact Nat.le_succ _
     ·simp
  ·split
   ·unfold userRemove
    split
    ·exact Nat.le_succ _
    ·split
     ·rw [removes_size.2.1]; exact Nat.le_succ _
     ·simp
   ·exact Nat.le_succ _
/-- How many events of a plan are at this call; behind it. -/
def atN (n : Nat) (l : List Ev) : Nat := (l.filter fun e => decide (e.t = (n : Int))).length
def remN (n : Nat) (l : List Ev) : Nat := (l.filter fun e => decide ((n : Int) < e.t)).length
theorem rem_at (n : Nat) : ∀ l : List Ev, remN n l = remN (n + 1) l + atN (n + 1) l
 | [] => rfl
 | e :: l => by
  have ih := rem_at n l
  unfold remN atN at ih ⊢
  simp only [List.filter_cons]
  by_cases h1 : (n : Int) < e.t
  ·by_cases h2 : e.t = ((n + 1 : Nat) : Int)
   ·have h3 : ¬ ((n + 1 : Nat) : Int) < e.t := by omega
    simp only [decide_eq_true h1, decide_eq_true h2, decide_eq_false h3, if_true, List.length_cons]
    simp only [Bool.false_eq_true, if_false]
    omega
   ·have h3 : ((n + 1 : Nat) : Int) < e.t := by omega
    simp only [decide_eq_true h1, decide_eq_false h2, decide_eq_true h3, if_true, List.length_cons]
    simp only [Bool.false_eq_true, if_false]
    omega
  ·have h2 : ¬ e.t = ((n + 1 : Nat) : Int) := by omega
   have h3 : ¬ ((n + 1 : Nat) : Int) < e.t := by omega
   simp only [decide_eq_false h1, decide_eq_false h2, decide_eq_false h3, Bool.false_eq_true, if_false]
   exact ih
theorem rem_le (n : Nat) (l : List Ev) : remN n l ≤ l.length := List.length_filter_le _ _
theorem fold_lr (n : Nat) : ∀ (l : List Ev) (C : Nat) (x : Fs × Bool × Bool), OkM x.1 → LR C x.1 →
  LR (C + atN n l) (l.foldl (happen n) x).1 ∧ (l.foldl (happen n) x).1.time ≤ x.1.time + atN n l ∧ (l.foldl (happen n) x).1.users.length ≤ x.1.users.length + atN n l
 | [], C, x, _, h => ⟨h, Nat.le_refl _, Nat.le_refl _⟩
 | e :: l, C, x, hok, h => by
  have he := happen_eq n x e
  by_cases ht : e.t = (n : Int)
  ·have h1 : happen n x e = (hapM x.1 e, x.2.1 || hapE e == 10, x.2.2 || hapE e == 11) := by rw [he, if_neg (by simpa using ht)]
   have ha : atN n (e :: l) = atN n l + 1 := by unfold atN; rw [List.filter_cons, decide_eq_true ht]; rfl
   obtain ⟨i1, i2, i3⟩ := fold_lr n l (C + 1) (happen n x e) (by rw [h1]; exact ok_hap hok e) (by rw [h1]; exact lr_hap hok h e)
   rw [ha]
   have h4 : (happen n x e).1.users.length ≤ x.1.users.length + 1 := by rw [h1]; exact hap_users x.1 e
   refine ⟨i1.mono (by omega), ?_, Nat.le_trans i3 (by omega)⟩
   have h2 : (happen n x e).1.time ≤ x.1.time + 1 := by rw [h1]; exact (hap_time x.1 e).2
   show (l.foldl (happen n) (happen n x e)).1.time ≤ _
   omega
  ·have h1 : happen n x e = x := by rw [he, if_pos (by simpa using ht)]
   have ha : atN n (e :: l) = atN n l := by unfold atN; rw [List.filter_cons, decide_eq_false ht]; rfl
   rw [ha, List.foldl_cons, h1]
   exact fold_lr n l C x hok h

/-- So many files, ticks, calls, with all that is planned. -/
structure Pot (C T K : Nat) (m : Fs) : Prop where
 ok : OkM m
 plan : PlanOk m
 few : m.plan.length ≤ 60
 room0 : 0 ≤ m.room
 room1 : m.room ≤ 1073741824
 lr : ∃ c, LR c m ∧ c + remN m.calls m.plan ≤ C
 time : m.time + remN m.calls m.plan ≤ T
 calls : m.calls ≤ K
 users : m.users.length + remN m.calls m.plan ≤ C
section
variable {C T K : Nat} {m : Fs}
theorem Pot.good (h : Pot C T K m) (hT : T ≤ 390000) (hK : K ≤ 490000) : Good 980 m := ⟨h.ok, h.plan, h.few, by have := h.time; omega, by have := h.calls; omega, h.room0, h.room1⟩
theorem Pot.fit (h : Pot C T K m) (hT : T ≤ 500000) (hK : K ≤ 900000) : Fit m := ⟨h.ok, h.plan, by have := h.time; omega, by have := h.calls; omega, h.room0, h.room1⟩
theorem Pot.mono {C' T' K' : Nat} (h : Pot C T K m) (h1 : C ≤ C') (h2 : T ≤ T') (h3 : K ≤ K') : Pot C' T' K' m := by
 obtain ⟨c, hc, hl⟩ := h.lr
 exact ⟨h.ok, h.plan, h.few, h.room0, h.room1, ⟨c, hc, by omega⟩, by have := h.time; omega, by have := h.calls; omega, by have := h.users; omega⟩
theorem pot_new {room : Int} (h0 : 0 ≤ room) (h1 : room ≤ 1073741824) : Pot 0 0 0 ⟨room, [], [], [], [], 0, [], 0, false⟩ := by
 refine ⟨⟨Nat.le_refl _, Nat.le_refl _, Nat.le_refl _, Nat.le_refl _, Nat.le_refl _, (fun e he => by cases he), (fun e he => by cases he), (fun c hc => by cases hc), rfl, (fun k s d hk => by simp at hk)⟩, ⟨Nat.zero_le _, (fun e he => by cases he)⟩, Nat.zero_le _, h0, h1, ⟨0, ?_, Nat.le_refl _⟩, Nat.le_refl _, Nat.le_refl _, Nat.le_refl _⟩
 exact lr_of rfl ⟨Nat.le_refl _, List.Pairwise.nil⟩
theorem pot_call (h : Pot C T K m) : Pot C T (K + 1) (callM m).1 := by
 obtain ⟨c, hc, hl⟩ := h.lr
 have hL := call_leftN h.ok h.few
 obtain ⟨f1, f2, f3⟩ := fold_lr (m.calls + 1) m.plan c ({ m with calls := m.calls + 1 }, false, false) (h.ok.same rfl rfl rfl h.ok.lusers (Nat.le_refl _)) (hc.same rfl rfl)
 have hr := rem_at m.calls m.plan
 have ht := h.time
 have hf2 : (callM m).1.time ≤ m.time + atN (m.calls + 1) m.plan := f2
 have hf3 : (callM m).1.users.length ≤ m.users.length + atN (m.calls + 1) m.plan := f3
 have hu := h.users
 refine ⟨hL.1.ok, ⟨by rw [hL.1.plan]; exact h.plan.len, by rw [hL.1.plan]; exact h.plan.ev⟩, by rw [hL.1.plan]; exact h.few, by rw [hL.1.room]; exact h.room0, by rw [hL.1.room]; exact h.room1, ⟨c + atN (m.calls + 1) m.plan, f1, ?_⟩, ?_, ?_, ?_⟩
 ·rw [hL.1.plan, hL.2]; omega
 ·rw [hL.1.plan, hL.2]; omega
 ·rw [hL.2]; have := h.calls; omega
 ·rw [hL.1.plan, hL.2]; omega
theorem pot_does {c : Ch} {D : Nat} (h : Pot C T K m) (hc : ChOk c) (hmv : ∀ s d, c = .mv s d → (look m.now s).isSome = true) (hl : ∀ k, LR k m → LR (k + D) (does m c)) : Pot (C + D) (T + 1) K (does m c) := by
 obtain ⟨k, hk, hle⟩ := h.lr
 have ht := h.time
 exact ⟨ok_does h.ok hc hmv, ⟨h.plan.len, h.plan.ev⟩, h.few, h.room0, h.room1, ⟨k + D, hl k hk, by show _ + remN m.calls m.plan ≤ _; omega⟩, by show m.time + 1 + remN m.calls m.plan ≤ _; omega, h.calls, by show m.users.length + remN m.calls m.plan ≤ _; have := h.users; omega⟩
theorem pot_settle (h : Pot C T K m) : Pot C T K (settle m) := by
 obtain ⟨k, hk, hle⟩ := h.lr
 exact ⟨ok_settle h.ok, ⟨h.plan.len, h.plan.ev⟩, h.few, h.room0, h.room1, ⟨k, lr_settle h.ok hk, hle⟩, h.time, h.calls, h.users⟩
theorem pot_puts {path : B8} {mode : Int} {data : B8} {fits : Bool} (h : Pot C T K m) (hp : pathB path = true) (hd : data.length ≤ 20000) : Pot (C + 1) (T + 1) K (putsM m path mode data fits).1 := by
 unfold putsM
 split
 ·exact h.mono (by omega) (by omega) (Nat.le_refl _)
 ·split
  ·exact h.mono (by omega) (by omega) (Nat.le_refl _)
  ·exact pot_does h ⟨hp, hd⟩ (fun s d e => by cases e) (fun k hk => lr_put h.ok hk)
theorem pot_removes {path : B8} (h : Pot C T K m) : Pot C (T + 1) K (removesM m path).1 := by
 unfold removesM
 split
 ·exact h.mono (Nat.le_refl _) (by omega) (Nat.le_refl _)
 ·split
  ·exact h.mono (Nat.le_refl _) (by omega) (Nat.le_refl _)
  ·rename_i h1 _
   exact pot_does (D := 0) h (show pathB path = true by simpa using h1) (fun s d e => by cases e) (fun k hk => lr_del h.ok hk)
theorem pot_put {path : B8} {mode : Int} {data : B8} {only : Bool} (h : Pot C T K m) : Pot (C + 1) (T + 1) (K + 1) (putM (callM m) path mode data only).1 := by
 have hc := pot_call h
 unfold putM
 split
 ·exact hc.mono (by omega) (by omega) (Nat.le_refl _)
 ·split
  ·exact hc.mono (by omega) (by omega) (Nat.le_refl _)
  ·rename_i hw
   have hw0 := wrong_zero (by simpa using hw)
   split
   ·exact hc.mono (by omega) (by omega) (Nat.le_refl _)
   ·exact pot_puts hc hw0.1 hw0.2.2.2
theorem pot_move {s d : B8} {fresh : Bool} (h : Pot C T K m) : Pot C (T + 1) (K + 1) (moveM m s d fresh).1 := by
 have hc := pot_call h
 have hz : Pot C (T + 1) (K + 1) (callM m).1 := hc.mono (Nat.le_refl _) (by omega) (Nat.le_refl _)
 unfold moveM mvM
 split
 ·exact hz
 ·split
  ·exact hz
  ·rename_i hpb
   split
   ·exact hz
   ·rename_i hs
    split
    ·exact hz
    ·split
     ·exact hz
     ·rename_i hne
      split
      ·exact hz
      ·refine pot_does (D := 0) hc ?_ (fun s' d' e => ?_) (fun k hk => lr_mv hc.ok hk)
       ·simp only [not_or, Bool.not_eq_false] at hpb
        exact ⟨hpb.1, hpb.2, hne⟩
       ·cases e
        cases hl : look (callM m).1.now s with
        | none => rw [hl] at hs; simp at hs
        | some f => rfl
theorem pot_remove {p : B8} (h : Pot C T K m) : Pot C (T + 1) (K + 1) (removeM m p).1 := by
 have hc := pot_call h
 unfold removeM
 split
 ·exact hc.mono (Nat.le_refl _) (by omega) (Nat.le_refl _)
 ·exact pot_removes hc
theorem pot_sync (h : Pot C T K m) : Pot C T (K + 1) (syncM m).1 := by
 have hc := pot_call h
 unfold syncM
 split
 ·exact pot_settle hc
 ·exact hc
theorem pot_read {p : B8} (h : Pot C T K m) : Pot C T (K + 1) (readM m p).1 := by rw [read_fst]; exact pot_call h
theorem pot_list {p : B8} (h : Pot C T K m) : Pot C T (K + 1) (listM m p).1 := by rw [list_fst]; exact pot_call h
theorem pot_drops : ∀ {l : List B8} {T K : Nat} {m : Fs}, Pot C T K m → Pot C (T + l.length) (K + l.length) (dropsM m l).1 ∧ (T + l.length ≤ 500000 → K + l.length ≤ 900000 → FitAll m l)
 | [], T, K, m, h => ⟨h, fun h1 h2 => h.fit h1 h2⟩
 | x :: l, T, K, m, h => by
  have h1 := pot_remove (p := lockP x) h
  obtain ⟨i1, i2⟩ := pot_drops (l := l) h1
  refine ⟨?_, fun e1 e2 => ⟨h.fit (by simp at e1; omega) (by simp at e2; omega), i2 (by simp at e1; omega) (by simp at e2; omega)⟩⟩
  unfold dropsM
  rw [List.length_cons]
  split
  ·exact h1.mono (Nat.le_refl _) (by omega) (by omega)
  ·exact i1.mono (Nat.le_refl _) (by omega) (by omega)
theorem locks_le (h : Pot C T K m) : (lastL (listM m lockD).2.1 lockD).length ≤ C := by
 have hc := pot_call h
 obtain ⟨c, hc1, hc2⟩ := hc.lr
 have hn := (hc1.now hc.ok).1
 refine Nat.le_trans (last_len _ _) ?_
 unfold listM
 split
 ·exact Nat.zero_le _
 ·split
  ·show (pathsL (callM m).1.now).length ≤ C
   unfold pathsL; rw [List.length_map]; omega
  ·split
   ·exact Nat.zero_le _
   ·refine Nat.le_trans (List.length_filter_le _ _) ?_
    unfold pathsL; rw [List.length_map]; omega
theorem pot_unlock (h : Pot C T K m) (hT : T + C ≤ 500000) (hK : K + 1 + C ≤ 900000) : Pot C (T + C) (K + 1 + C) (unlockM m).1 ∧ Fit (listM m lockD).1 ∧ FitAll (listM m lockD).1 (lastL (listM m lockD).2.1 lockD) ∧ Rising (callM m).1.now := by
 have h1 := pot_list (p := lockD) h
 have hl := locks_le h
 obtain ⟨d1, d2⟩ := pot_drops (l := lastL (listM m lockD).2.1 lockD) h1
 obtain ⟨c, hc1, hc2⟩ := (pot_call h).lr
 refine ⟨?_, h1.fit (by omega) (by omega), d2 (by omega) (by omega), (hc1.now (pot_call h).ok).2⟩
 unfold unlockM
 split
 ·exact h1.mono (Nat.le_refl _) (by omega) (by omega)
 ·split
  ·exact d1.mono (Nat.le_refl _) (by omega) (by omega)
  ·exact d1.mono (Nat.le_refl _) (by omega) (by omega)
theorem pot_hap (h : Pot C T K m) (e : Ev) : Pot (C + 1) (T + 1) K (hapM m e) := by
 obtain ⟨c, hc, hl⟩ := h.lr
 obtain ⟨p1, p2, p3⟩ := hap_plan m e
 have ht := h.time
 have hh := (hap_time m e).2
 refine ⟨ok_hap h.ok e, ⟨by rw [p1]; exact h.plan.len, by rw [p1]; exact h.plan.ev⟩, by rw [p1]; exact h.few, by rw [p3]; exact h.room0, by rw [p3]; exact h.room1, ⟨c + 1, lr_hap h.ok hc e, ?_⟩, ?_, by rw [p2]; exact h.calls, ?_⟩
 ·rw [p1, p2]; omega
 ·rw [p1, p2]; omega
 ·rw [p1, p2]; have h1 := hap_users m e; have h2 := h.users; omega
theorem pot_reboot (h : Pot C T K m) : Pot C T K (rebootM m) := by
 obtain ⟨c, hc, hl⟩ := h.lr
 exact ⟨reboot_ok h.ok, ⟨h.plan.len, h.plan.ev⟩, h.few, h.room0, h.room1, ⟨c, hc.same rfl rfl, hl⟩, h.time, h.calls, h.users⟩
theorem pot_planM (h : Pot C T K m) {L : List Ev} (hl : L.length ≤ 60) (he : ∀ e ∈ L, I64 e.keep ∧ I64 e.torn ∧ e.path.length ≤ 400) : Pot (C + 60) (T + 60) K (planM m L) := by
 obtain ⟨c, hc, hle⟩ := h.lr
 have hf : (planM m L).plan.length ≤ L.length := List.length_filter_le _ _
 have hr := rem_le m.calls (planM m L).plan
 have ht := h.time
 refine ⟨planM_ok h.ok L, ⟨by omega, fun e hm => he e (List.mem_filter.1 hm).1⟩, by omega, h.room0, h.room1, ⟨c, hc.same rfl rfl, ?_⟩, ?_, h.calls, ?_⟩
 ·show c + remN m.calls (planM m L).plan ≤ _; omega
 ·show m.time + remN m.calls (planM m L).plan ≤ _; omega
 ·show m.users.length + remN m.calls (planM m L).plan ≤ _; have := h.users; omega
theorem pot_step {o : Opn} (h : Pot C T K m) (ho : OpOk o) : Pot (C + 60) (T + 60) (K + 1) (stepM m o) := by
 have up : ∀ {C' T' K' : Nat} {m' : Fs}, Pot C' T' K' m' → C' ≤ C + 60 → T' ≤ T + 60 → K' ≤ K + 1 → Pot (C + 60) (T + 60) (K + 1) m' := fun h h1 h2 h3 => h.mono h1 h2 h3
 have g0 : Pot (C + 60) (T + 60) (K + 1) (createM m o.path o.mode o.data).1 := up (pot_put h) (by omega) (by omega) (by omega)
 have g1 : Pot (C + 60) (T + 60) (K + 1) (writeM m o.path o.mode o.data).1 := up (pot_put h) (by omega) (by omega) (by omega)
 have g2 : Pot (C + 60) (T + 60) (K + 1) (moveM m o.path o.dest false).1 := up (pot_move h) (by omega) (by omega) (by omega)
 have g3 : Pot (C + 60) (T + 60) (K + 1) (moveM m o.path o.dest true).1 := up (pot_move h) (by omega) (by omega) (by omega)
 have g4 : Pot (C + 60) (T + 60) (K + 1) (removeM m o.path).1 := up (pot_remove h) (by omega) (by omega) (by omega)
 have g5 : Pot (C + 60) (T + 60) (K + 1) (syncM m).1 := up (pot_sync h) (by omega) (by omega) (by omega)
 have g6 : Pot (C + 60) (T + 60) (K + 1) (readM m o.path).1 := up (pot_read h) (by omega) (by omega) (by omega)
 have g7 : Pot (C + 60) (T + 60) (K + 1) (listM m o.path).1 := up (pot_list h) (by omega) (by omega) (by omega)
 have g8 : Pot (C + 60) (T + 60) (K + 1) (userWrite m o.path o.mode o.data).1 := up (pot_hap h ⟨0, 4, o.mode, 0, 0, o.path, o.data⟩) (by omega) (by omega) (by omega)
 have g9 : Pot (C + 60) (T + 60) (K + 1) (userRemove m o.path).1 := up (pot_hap h ⟨0, 5, o.mode, 0, 0, o.path, o.data⟩) (by omega) (by omega) (by omega)
 have g10 : Pot (C + 60) (T + 60) (K + 1) (crash m o.keep o.torn) := up (pot_hap h ⟨0, 1, 0, o.keep, o.torn, [], []⟩) (by omega) (by omega) (by omega)
 have g11 : Pot (C + 60) (T + 60) (K + 1) (rebootM m) := up (pot_reboot h) (by omega) (by omega) (by omega)
 have g12 : Pot (C + 60) (T + 60) (K + 1) (planM m o.plan) := up (pot_planM h ho.few ho.ev) (by omega) (by omega) (by omega)
 have gz : Pot (C + 60) (T + 60) (K + 1) m := up h (by omega) (by omega) (by omega)
 exact ite_fs g0 (ite_fs g1 (ite_fs g2 (ite_fs g3 (ite_fs g4 (ite_fs g5 (ite_fs g6 (ite_fs g7 (ite_fs g8 (ite_fs g9 (ite_fs g10 (ite_fs g11 (ite_fs g12 gz))))))))))))
theorem pot_setM (h : Pot C T K m) (name old next : B8) : Pot (C + 60) (T + 60) (K + 6) (setM m name old next).1 := by
 have h1 : Pot (C + 1) (T + 1) (K + 1) (createM m (lockP name) 1 (lineM next)).1 := pot_put h
 have h2 : Pot (C + 1) (T + 1) (K + 2) (expectM (createM m (lockP name) 1 (lineM next)).1 name old).1 := pot_read h1
 have hend : ∀ y : Fs, Pot (C + 1) (T + 1) (K + 3) y → Pot (C + 60) (T + 60) (K + 6) (setEnd y name).1 := fun y hy => by
  have i1 := pot_move (s := lockP name) (d := placeP name) (fresh := false) hy
  unfold setEnd
  split
  ·exact i1.mono (by omega) (by omega) (by omega)
  ·exact (pot_sync i1).mono (by omega) (by omega) (by omega)
 have hmid : ∀ x : Fs × Int, Pot (C + 1) (T + 1) (K + 2) x.1 → Pot (C + 60) (T + 60) (K + 6) (setMid x name).1 := fun x hx => by
  have i1 : Pot (C + 1) (T + 1) (K + 3) (if x.2 = 0 then syncM x.1 else x).1 := by
   split
   ·exact pot_sync hx
   ·exact hx.mono (by omega) (by omega) (by omega)
  unfold setMid
  generalize (if x.2 = 0 then syncM x.1 else x) = y at i1 ⊢
  split
  ·exact (pot_remove i1).mono (by omega) (by omega) (by omega)
  ·exact hend _ i1
 unfold setM
 split
 ·exact h.mono (by omega) (by omega) (by omega)
 ·split
  ·exact h.mono (by omega) (by omega) (by omega)
  ·split
   ·exact h1.mono (by omega) (by omega) (by omega)
   ·exact hmid _ h2
theorem pot_deleteM (h : Pot C T K m) (name old : B8) : Pot (C + 60) (T + 60) (K + 6) (deleteM m name old).1 := by
 have h1 := pot_read (p := placeP name) h
 have h2 := pot_remove (p := placeP name) h1
 unfold deleteM
 split
 ·exact h.mono (by omega) (by omega) (by omega)
 ·split
  ·exact h.mono (by omega) (by omega) (by omega)
  ·split
   ·exact h1.mono (by omega) (by omega) (by omega)
   ·split
    ·exact h1.mono (by omega) (by omega) (by omega)
    ·split
     ·exact h2.mono (by omega) (by omega) (by omega)
     ·exact (pot_sync h2).mono (by omega) (by omega) (by omega)
theorem pot_getM (h : Pot C T K m) (name : B8) : Pot (C + 60) (T + 60) (K + 6) (getM m name).1 := by
 unfold getM
 split
 ·exact h.mono (by omega) (by omega) (by omega)
 ·exact (pot_read h).mono (by omega) (by omega) (by omega)
theorem pot_refsM (h : Pot C T K m) : Pot (C + 60) (T + 60) (K + 6) (refsM m).1 := (pot_list h).mono (by omega) (by omega) (by omega)
theorem pot_rise (h : Pot C T K m) : Rising (callM m).1.now := by
 obtain ⟨c, hc1, hc2⟩ := (pot_call h).lr
 exact (hc1.now (pot_call h).ok).2
/-- Behind k operations. -/
def PotK (k : Nat) (m : Fs) : Prop := Pot (60 * k) (3700 * k) (3700 * k) m
theorem PotK.good {k : Nat} (h : PotK k m) (hk : k ≤ 60) : Good 980 m := Pot.good h (by omega) (by omega)
theorem PotK.small {k : Nat} (h : PotK k m) (hk : k ≤ 61) : m.time ≤ 400000 ∧ m.users.length ≤ 90000 := by
 have h1 := Pot.time h
 have h2 := Pot.users h
 omega
theorem PotK.up {k C' T' K' : Nat} {m' : Fs} (h : Pot C' T' K' m') (h1 : C' ≤ 60 * k + 60) (h2 : T' ≤ 3700 * k + 3700) (h3 : K' ≤ 3700 * k + 3700) : PotK (k + 1) m' := Pot.mono h (by omega) (by omega) (by omega)
end

end Go.Proofs.YtfimfbdlegookaaGreatDoor

/-! sha.New, Sum, ID. Conditions: at most 100000 bytes; the roots of the primes as laid. -/
namespace Go.Proofs.YtfimfbdlegookaaGreatDoor
open Go Go.RowKit
set_option linter.unusedVariables false
set_option linter.unusedSimpArgs false
set_option linter.unusedSectionVars false

theorem zero_c : Tryz.zeroCells246 = eCells (oCells 0 0 0) (List.replicate 72 (.int .u32 0)) := by first | rfl | kernel_rfl
def zX : List Value := List.replicate 72 (.int .u32 0)

set_option maxRecDepth 100000 in
set_option maxHeartbeats 2000000 in
theorem new_sha (w : World) (hE : EnvS w) : Calls Tryz.prog 172 #[] w fun e w' => (∃ hb cb : Nat, e = .returned (.pointer (some ⟨hb, 0, none⟩)) ∧ hb ≠ cb ∧ w.heap.size ≤ hb ∧ w.heap.size ≤ cb ∧ w'.heap[cb]? = some (.cells (kCells (oCells 1 0 0)) 246 (0, 0)) ∧ w'.heap[hb]? = some (.cells (hCells cb shaH (.slice none 0 0) (0 : Nat)) 248 (0, 0))) ∧ Ext w w' := by
 obtain ⟨w1, hw1⟩ : ∃ w1, w1 = w.alloc (.cells (eCells (oCells 0 0 0) zX) 246) := ⟨_, rfl⟩
 have hx1 : Ext w w1 := by rw [hw1]; exact (Ext.refl _).alloc _
 have hg1 : w1.heap[w.heap.size]? = some (.cells (eCells (oCells 0 0 0) zX) 246 (0, 0)) := by rw [hw1]; exact alloc_at _ _
 have hE1 : EnvS w1 := hE.ext hx1
 have h2 := hE.two
 have HG1 : Hid _ := hg1
 have HE1 : Hid (EnvS w1) := hE1
 have HX1 : Hid (Ext w w1) := hx1
 have HW1 : Hid _ := hw1
 clear hg1 hE1 hx1 hw1 hE
 have hmf : ∀ (fn : Fn) (first cap : Array Value) (w : World), (Instr.makeFunc fn first cap).run Tryz.prog w = .ok (.func fn first cap) w := fun _ _ _ _ => rfl
 go_enter Tryz.func172, Tryz.ntmps172
 go_upto_region 2 with fail
 rw [show w.alloc (.cells Tryz.zeroCells246 246) = w1 from (congrArg (fun c => w.alloc (.cells c 246)) zero_c).trans HW1.out.symm]
 generalize Tryz.zeroCells246 = zc
 go_upto_region 3 with (go_at_call 165; go_must (refine (do_fill w.heap.size 0 zX w1 rfl HE1.out h2 HG1.out).mono ?_; rintro e w2 ⟨rfl, hg2, hf2⟩))
 have hx2 : Ext w w2 := Ext.of_fr HX1.out hf2 (fun k hk => by cases hk; exact Nat.le_refl _)
 obtain ⟨i0, i1, i2, i3, i4, i5, i6, i7, hH⟩ := list8 (show shaH.length = 8 from rfl)
 have hk : kCells (oCells 1 0 0) = (oCells 1 0 0 ++ ([i0, i1, i2, i3, i4, i5, i6, i7].map U32 ++ shaK.map U32)).toArray := by unfold kCells; rw [hH]
 have hg2' := hg2
 rw [hk] at hg2'
 have c1 : w2.cell? ⟨w.heap.size, 3, none⟩ = some (U32 i0) := (cell_of_row _ _ 3 _ _ _ hg2').trans rfl
 have c2 : w2.cell? ⟨w.heap.size, 4, none⟩ = some (U32 i1) := (cell_of_row _ _ 4 _ _ _ hg2').trans rfl
 have c3 : w2.cell? ⟨w.heap.size, 5, none⟩ = some (U32 i2) := (cell_of_row _ _ 5 _ _ _ hg2').trans rfl
 have c4 : w2.cell? ⟨w.heap.size, 6, none⟩ = some (U32 i3) := (cell_of_row _ _ 6 _ _ _ hg2').trans rfl
 have c5 : w2.cell? ⟨w.heap.size, 7, none⟩ = some (U32 i4) := (cell_of_row _ _ 7 _ _ _ hg2').trans rfl
 have c6 : w2.cell? ⟨w.heap.size, 8, none⟩ = some (U32 i5) := (cell_of_row _ _ 8 _ _ _ hg2').trans rfl
 have c7 : w2.cell? ⟨w.heap.size, 9, none⟩ = some (U32 i6) := (cell_of_row _ _ 9 _ _ _ hg2').trans rfl
 have c8 : w2.cell? ⟨w.heap.size, 10, none⟩ = some (U32 i7) := (cell_of_row _ _ 10 _ _ _ hg2').trans rfl
 have hlt2 := (Array.getElem?_eq_some_iff.1 hg2).1
 obtain ⟨w3, hw3⟩ : ∃ w3, w3 = w2.alloc (.cells (hCells w.heap.size [i0, i1, i2, i3, i4, i5, i6, i7] (.slice none 0 0) (0 : Nat)) 248) := ⟨_, rfl⟩
 have hx3 : Ext w2 w3 := by rw [hw3]; exact (Ext.refl _).alloc _
 have hg3 : w3.heap[w2.heap.size]? = some (.cells (hCells w.heap.size [i0, i1, i2, i3, i4, i5, i6, i7] (.slice none 0 0) (0 : Nat)) 248 (0, 0)) := by rw [hw3]; exact alloc_at _ _
 have HX2 : Hid (Ext w w2) := hx2
 have HX3 : Hid (Ext w2 w3) := hx3
 have HG3 : Hid _ := hg3
 have HW3 : Hid _ := hw3
 have HG2 : Hid _ := hg2
 have HH : Hid _ := hH
 have hs2 := hx2.size
 clear hg2 hg2' hk hf2 hH hx2 hx3 hg3 hw3
 go_wp2_with fail
 go_ret
 rw [HH.out]
 have hfin : w2.alloc (.cells (hCells w.heap.size [i0, i1, i2, i3, i4, i5, i6, i7] (.slice none 0 0) (0 : Nat)) 248) = w3 := HW3.out.symm
 refine ⟨⟨w2.heap.size, w.heap.size, rfl, by omega, hs2, Nat.le_refl _, ?_, ?_⟩, ?_⟩
 ·exact hfin ▸ Ext.row HX3.out HG2.out
 ·exact hfin ▸ HG3.out
 ·exact hfin ▸ HX2.out.trans HX3.out

theorem absorb_rest (h : List UInt32) (l : B8) : (absorb h l).2.length < 64 := by
 induction h, l using absorb.induct with
 | case1 h l hc ih => rw [absorb, if_pos hc]; exact ih
 | case2 h l hc => rw [absorb, if_neg hc]; show l.length < 64; omega

set_option maxRecDepth 100000 in
set_option maxHeartbeats 2000000 in
theorem sum_sha (v : Value) (l : B8) (w : World) (hE : EnvS w) (hv : IsBytes w v l) (hl : l.length ≤ 1000000) :
  Calls Tryz.prog 122 #[v] w fun e w' => (∃ v', e = .returned v' ∧ w'.ownsRow w.heap.size 5 1 v' 32 ((sumM l).map fun x => .int .u8 x.toNat)) ∧ Ext w w' := by
 have HE : Hid (EnvS w) := hE
 have HV : Hid (IsBytes w v l) := hv
 obtain ⟨a, cap, rfl, h1, h2, h3, h4⟩ := hv.get
 have hout : ∀ (k : Nat), w.heap.size ≤ k → ∀ w1, Out (fun j => j = k) w1 (.slice a l.length cap) := by
  intro k hk w1 a' n' c' he hn'
  simp only [Value.slice.injEq] at he
  obtain ⟨rfl, rfl, rfl⟩ := he
  obtain ⟨b, o, hb, hc⟩ := h4 0 (by omega)
  cases hb
  have hlt := World.block_lt_of_cell? _ _ (hc 0 (by omega))
  exact .inl (fun h => by dsimp only at h hlt; omega)
 have HOUT : Hid (∀ (k : Nat), w.heap.size ≤ k → ∀ w1, Out (fun j => j = k) w1 (.slice a l.length cap)) := hout
 clear h4 hout hv hE
 go_enter Tryz.func122, Tryz.ntmps122
 go_upto_region 2 with (go_at_call 172; go_must (refine (new_sha w HE.out).mono ?_; rintro e w1 ⟨⟨hb, cb, rfl, hne, hb1, hb2, hgc, hgh⟩, hx1⟩))
 have HGC : Hid _ := hgc
 have HGH : Hid _ := hgh
 have HX1 : Hid (Ext w w1) := hx1
 clear hgc hgh hx1
 go_upto_region 3 with (go_at_call 173; go_must (refine (write_sha hb cb shaH (.slice none 0 0) (.slice a l.length cap) [] l 0 (oCells 1 0 0) w1 rfl rfl hne (by omega) HGH.out HGC.out (IsBytes.nil _) (TypB.nil _ _ _) (HV.out.ext HX1.out) (HOUT.out hb hb1 w1) (by simp) hl).mono ?_; rintro e w2 ⟨rfl, st2, rv2, r2, hw2, hab⟩))
 rw [List.nil_append] at hw2 hab
 have hx2 : Ext w w2 := Ext.of_fr HX1.out hw2.fr (fun k hk => by cases hk; exact hb1)
 have hgc2 := hw2.fr.row HGC.out (fun h => hne h.symm)
 have hgh2 : w2.heap[hb]? = some (.cells (hCells cb st2 rv2 (l.length : Nat)) 248 (0, 0)) := by
  have h9 := hw2.cells
  rwa [show (((0 : Nat) : Int) + (l.length : Int)) = ((l.length : Nat) : Int) by omega] at h9
 have hr2 : r2.length < 64 := by
  have h9 := absorb_rest shaH l
  rw [← hab] at h9
  exact h9
 have hsum : sumM l = (absorb st2 (r2 ++ padM l.length)).1.flatMap outM := by unfold sumM; rw [← hab]
 have HX2 : Hid (Ext w w2) := hx2
 have HW2 : Hid (Wr w1 w2 hb cb (absorb shaH l) (((0 : Nat) : Int) + l.length) st2 rv2 r2) := hw2
 have HGC2 : Hid _ := hgc2
 have HGH2 : Hid _ := hgh2
 have HSUM : Hid _ := hsum
 have hs2 := hx2.size
 clear hx2 hgc2 hgh2 hsum hw2 hab
 go_wp2_with (go_at_call 174; go_must (refine (sumH_any hb cb st2 rv2 r2 l.length (oCells 1 0 0) w2 HW2.out.hst rfl hl HGH2.out HGC2.out HW2.out.bytes (by omega)).mono ?_; rintro e w3 ⟨⟨v3, rfl, hown3⟩, hx3⟩))
 go_ret
 rw [HSUM.out]
 exact ⟨⟨_, rfl, owns_low hown3 hs2⟩, HX2.out.trans hx3⟩

theorem sum32 (l : B8) {w : World} {base : Nat} {v : Value} (h : w.ownsRow base 5 1 v 32 ((sumM l).map fun x => .int .u8 x.toNat)) : (sumM l).length = 32 := by
 have h9 := h.1
 simpa using h9

set_option maxRecDepth 100000 in
set_option maxHeartbeats 2000000 in
theorem id_sha (v : Value) (l : B8) (w : World) (hE : EnvS w) (hv : IsBytes w v l) (hl : l.length ≤ 1000000) :
  Calls Tryz.prog 45 #[v] w fun e w' => e = .returned (S8 (shaM l)) ∧ Ext w w' := by
 have HE : Hid (EnvS w) := hE
 have HV : Hid (IsBytes w v l) := hv
 clear hv hE
 go_enter Tryz.func45, Tryz.ntmps45
 go_wp2_with (first
  | (go_at_call 122; go_must (refine (sum_sha v l w HE.out HV.out hl).mono ?_; rintro e w1 ⟨⟨v1, rfl, hown1⟩, hx1⟩; have h32 := sum32 l hown1; have hb1 : IsBytes w1 v1 (sumM l) := by unfold IsBytes; rw [h32]; exact Row.of_owns hown1 (by omega)))
  | (go_at_call 121; go_must (refine (hex_any v1 (sumM l) w1 hb1 (by omega)).mono ?_; rintro e w2 ⟨rfl, hx2⟩)))
 go_ret
 exact ⟨rfl, hx1.trans hx2⟩

end Go.Proofs.YtfimfbdlegookaaGreatDoor

/-! A file system of the call's own; marlaw8.first: what the chapter's examples fix. Conditions: as each theorem states. -/
namespace Go.Proofs.YtfimfbdlegookaaGreatDoor
open Go Go.RowKit
set_option linter.unusedVariables false
set_option linter.unusedSimpArgs false
set_option linter.unusedSectionVars false

theorem env_ltR {w0 : World} (hE : Env w0) : 2 < w0.heap.size := by
 obtain ⟨m, hm⟩ := hE
 exact World.block_lt_of_cell? _ _ hm
/-- A file system of the call's own. -/
structure One (w0 : World) (S O : Nat → Prop) (w : World) (f : Value) (m : Fs) : Prop where
 ext : Ext w0 w
 fs : IsFs S O (fun k => k < w.heap.size) w f m
 lo : ∀ k, O k → w0.heap.size ≤ k ∧ k < w.heap.size
 loS : ∀ k, S k → w0.heap.size ≤ k ∧ k < w.heap.size
 disS : ∀ k, S k → ¬ O k
section
variable {w0 w w' : World} {S O : Nat → Prop} {f : Value} {m m' : Fs} {n : Nat}
theorem One.noG (h : One w0 S O w f m) (hE : Env w0) : NoG O := fun k hk e => by have := h.lo k hk; have := env_ltR hE; omega
theorem One.fin (h : One w0 S O w f m) (hE : Env w0) (hg : Good n m) (hn : n ≤ 1000) : FsIn S O (fun k => k < w.heap.size) w f m := by
 have ht := hg.time
 have hc := hg.calls
 exact ⟨hE.ext h.ext, h.fs, hg.ok, hg.plan, by omega, by omega, h.noG hE, fun k hk => ⟨h.disS k hk, (h.loS k hk).2⟩, fun k hk => (h.lo k hk).2, hg.room0, hg.room1⟩
theorem One.more (h : One w0 S O w f m) (hx : Ext w w') : One w0 S O w' f m := by
 have hs := hx.size
 exact ⟨h.ext.trans hx, (h.fs.ext hx).mono (fun _ h => h) (fun k hk => Nat.lt_of_lt_of_le hk hs), fun k hk => by have := h.lo k hk; omega, fun k hk => by have := h.loS k hk; omega, h.disS⟩
theorem One.post (h : One w0 S O w f m) (hp : FsPost S O (fun k => k < w.heap.size) w f m' w') : One w0 S (Nw O w w') w' f m' := by
 have hs := hp.fr.size
 have hs0 := h.ext.size
 refine ⟨Ext.of_fr h.ext hp.fr (fun k hk => (h.lo k hk).1), hp.fs.mono (fun _ h => h) (fun k hk => by rcases hk with hk | hk <;> omega), fun k hk => ?_, fun k hk => by have := h.loS k hk; omega, fun k hk ho => ?_⟩
 ·rcases hk with hk | hk
  ·have := h.lo k hk; omega
  ·exact ⟨by omega, hk.2⟩
 ·rcases ho with ho | ho
  ·exact h.disS k hk ho
  ·have := h.loS k hk; omega
end
theorem One.new {w w' : World} {p : Value} {room : Int} (h : IsFs (fun _ => False) (Nu w w') (fun _ => False) w' p (newM room)) (hx : Ext w w') : One w (fun _ => False) (Nu w w') w' p (newM room) :=
 ⟨hx, h.mono (fun _ h => h) (fun _ h => h.elim), fun k hk => hk, fun k hk => hk.elim, fun k hk => hk.elim⟩
theorem good_new {room : Int} (h0 : 0 ≤ room) (h1 : room ≤ 1073741824) : Good 0 (newM room) :=
 ⟨(new_ok room).1, (new_ok room).2, Nat.zero_le _, Nat.le_refl _, Nat.le_refl _, h0, h1⟩


theorem ex_new : Ex (newM 1000) [] := ⟨rfl, rfl, by decide, .inl ⟨rfl, rfl⟩⟩
theorem one_byte {w : World} {g : Nat} {x : UInt8} {fr : Nat × Nat} (h : w.heap[g]? = some (.cells #[.int .u8 (x.toNat : Int)] 5 fr)) : IsBytes w (.slice (some ⟨g, 0, none⟩) 1 1) [x] := Row.new h (by decide) _ rfl
def aB : B8 := shaM [97]
def bB : B8 := shaM [98]
theorem a_valid : validB aB = true := sha_valid _
theorem b_valid : validB bB = true := sha_valid _
def rm0 : Fs := newM 1000
def rm1 : Fs := (setM rm0 headB [] aB).1
def rm2 : Fs := (setM rm1 headB [] bB).1
def rm3 : Fs := (getM rm2 headB).1
theorem r_first : (setM rm0 headB [] aB).2 = 0 ∧ (setM rm1 headB [] bB).2 = 13 ∧ (getM rm2 headB).2 = (aB, 0) := ex_first ex_new a_valid b_valid
theorem r_good : Good 0 rm0 ∧ Good 6 rm1 ∧ Good 12 rm2 := by
 have g0 : Good 0 rm0 := good_new (by omega) (by omega)
 exact ⟨g0, good_set g0 _ _ _, good_set (good_set g0 _ _ _) _ _ _⟩

set_option maxRecDepth 100000 in
set_option maxHeartbeats 4000000 in
theorem first8_any (w : World) (hE : Env w) (hS : EnvS w) :
  Calls Tryz.prog 10 #[] w fun e w' => e = .returned (.bool true) ∧ Ext w w' := by
 obtain ⟨g0, g1, g2⟩ := r_good
 obtain ⟨f0, f1, f2⟩ := r_first
 have HE : Hid (Env w) := hE
 have HS : Hid (EnvS w) := hS
 have F0 : Hid _ := f0
 have F1 : Hid _ := f1
 have F2 : Hid _ := f2
 have al : aB.length = 64 := sha_len _
 have bl : bB.length = 64 := sha_len _
 clear hE hS f0 f1 f2
 have kc := fun (w : World) (C : Array Value) (n c : Nat) => Lib.run_convert_bytes_const (P := Tryz.prog) w 31 5 C n c Tryz.underlying31 Tryz.underlying5
 go_enter Tryz.func10, Tryz.ntmps10
 go_wp2_with fail
 go_at_call 11
 refine (new_yes 1000 _ (by omega) (by omega)).mono ?_
 rintro e w1 ⟨⟨p, rfl, hf⟩, hx1⟩
 have H1 : Hid (One w (fun _ => False) (Nu w w1) w1 p rm0) := One.new hf hx1
 obtain ⟨g, rfl⟩ : ∃ g, p = .pointer (some ⟨g, 0, none⟩) := by
  obtain ⟨g, gm, gd, vp, vl, vu, L, c0, hpe, -⟩ := hf
  exact ⟨g, hpe⟩
 clear hf hx1
 go_upto_region 4 with fail
 obtain ⟨wa, hwa⟩ : ∃ wa, wa = w1.alloc (.cells #[.int .u8 97] 5 (1, 2)) := ⟨_, rfl⟩
 have hxa : Ext w1 wa := by rw [hwa]; exact (Ext.refl _).alloc _
 have hba : IsBytes wa (.slice (some ⟨w1.heap.size, 0, none⟩) 1 1) [97] := one_byte (x := 97) (fr := (1, 2)) (by rw [hwa]; exact alloc_at _ _)
 have HWA : Hid _ := hwa
 have HBA : Hid (IsBytes wa (.slice (some ⟨w1.heap.size, 0, none⟩) 1 1) [97]) := hba
 have H1a : Hid (One w _ _ wa _ rm0) := One.more H1.out hxa
 clear hwa hba hxa
 go_wp2_with fail
 rw [show w1.alloc (.cells #[.int .u8 97] 5 (1, 2)) = wa from HWA.out.symm]
 go_at_call 45
 refine (id_sha _ [97] wa (HS.out.ext H1a.out.ext) HBA.out (by decide)).mono ?_
 rintro e w2 ⟨rfl, hx2⟩
 have H2 : Hid (One w _ _ w2 _ rm0) := One.more H1a.out hx2
 obtain ⟨wb, hwb⟩ : ∃ wb, wb = w2.alloc (.cells #[.int .u8 98] 5 (1, 2)) := ⟨_, rfl⟩
 have hxb : Ext w2 wb := by rw [hwb]; exact (Ext.refl _).alloc _
 have hbb : IsBytes wb (.slice (some ⟨w2.heap.size, 0, none⟩) 1 1) [98] := one_byte (x := 98) (fr := (1, 2)) (by rw [hwb]; exact alloc_at _ _)
 have HWB : Hid _ := hwb
 have HBB : Hid (IsBytes wb (.slice (some ⟨w2.heap.size, 0, none⟩) 1 1) [98]) := hbb
 have H2b : Hid (One w _ _ wb _ rm0) := One.more H2.out hxb
 clear hwb hbb hxb hx2
 go_wp2_with fail
 rw [show w2.alloc (.cells #[.int .u8 98] 5 (1, 2)) = wb from HWB.out.symm]
 go_at_call 45
 refine (id_sha _ [98] wb (HS.out.ext H2b.out.ext) HBB.out (by decide)).mono ?_
 rintro e w3 ⟨rfl, hx3⟩
 have H3 : Hid (One w _ _ w3 _ rm0) := One.more H2b.out hx3
 clear hx3
 rw [show shaM [97] = aB from rfl, show shaM [98] = bB from rfl]
 go_wp2_with fail
 go_at_call 15
 refine (set_any headB [] aB (One.fin H3.out HE.out g0 (by omega)) g0 (by omega) (by decide) (by decide) (by omega)).mono ?_
 rw [F0.out]
 rintro e w4 ⟨rfl, h4⟩
 have H4 : Hid (One w _ _ w4 _ rm1) := One.post H3.out h4
 clear h4
 go_wp2_with fail
 go_at_call 15
 refine (set_any headB [] bB (One.fin H4.out HE.out g1 (by omega)) g1 (by omega) (by decide) (by decide) (by omega)).mono ?_
 rw [F1.out]
 rintro e w5 ⟨rfl, h5⟩
 have H5 : Hid (One w _ _ w5 _ rm2) := One.post H4.out h5
 clear h5
 go_wp2_with fail
 go_at_call 18
 refine (get_any headB (One.fin H5.out HE.out g2 (by omega)) (by decide)).mono ?_
 rw [show (getM rm2 headB).2.1 = aB from congrArg Prod.fst F2.out, show (getM rm2 headB).2.2 = 0 from congrArg Prod.snd F2.out]
 rintro e w6 ⟨rfl, h6⟩
 have H6 : Hid (One w _ _ w6 _ rm3) := One.post H5.out h6
 clear h6
 go_wp2
 go_ret
 exact ⟨rfl, H6.out.ext⟩

end Go.Proofs.YtfimfbdlegookaaGreatDoor
