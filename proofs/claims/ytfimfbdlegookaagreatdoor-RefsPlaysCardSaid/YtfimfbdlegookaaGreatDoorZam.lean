/- marlaw8.RefsPlays. Conditions: as each theorem states. -/
import Derived.Test.YtfimfbdlegookaaGreatDoorZaj
import Derived.Test.YtfimfbdlegookaaGreatDoorZae
import Derived.Test.YtfimfbdlegookaaGreatDoorZal
import Derived.Test.YtfimfbdlegookaaGreatDoorZak

set_option linter.unusedVariables false
set_option linter.unusedSimpArgs false
set_option linter.unusedSectionVars false

/-! marlaw8.RefsPlays. Conditions: as each theorem states. -/
namespace Go.Proofs.YtfimfbdlegookaaGreatDoor
open Go Go.RowKit
set_option linter.unusedVariables false
set_option linter.unusedSimpArgs false
set_option linter.unusedSectionVars false

/-- refs.List: where what it tells lies. -/
theorem refs_own {S O R : Nat → Prop} {w : World} {p : Value} {m : Fs} (h : FsIn S O R w p m) :
  Calls Tryz.prog 22 #[p] w fun e w' => (∃ v, e = .returned (.tuple #[v, .int .i64 (refsM m).2.2]) ∧ IsStrs w' v (refsM m).2.1 ∧ ∀ k, v.ownBlock = some k → w.heap.size ≤ k ∧ k < w'.heap.size) ∧ FsPost S O R w p (refsM m).1 w' := by
 have HS : Hid _ := list_short (dir := placeD) h.ok h.plan
 have HL : Hid _ := list_len (dir := placeD) h.ok h.plan h.time
 have HR : Hid _ := list_any placeD h (by decide)
 unfold refsM
 obtain ⟨⟨m1, ls, er⟩, hrd⟩ : ∃ q, listM m placeD = q := ⟨_, rfl⟩
 rw [hrd] at HR HS HL ⊢
 clear hrd h
 go_enter Tryz.func22, Tryz.ntmps22
 go_wp2_with fail
 go_at_call 70
 refine Calls.mono HR.out ?_
 rintro e w1 ⟨⟨v, rfl, hv, -⟩, hp1⟩
 have hls : ls.length ≤ 701000 := HL.out
 have hv' : IsStrs w1 v ls := hv
 have HV : Hid _ := hv'
 have HP : Hid _ := hp1
 clear hv hv' hp1 HR
 go_wp2_with fail
 go_at_call 71
 refine (last_any placeD HV.out (fun s hs => Nat.le_trans (HS.out s hs) (by omega)) (by decide) (by omega)).mono ?_
 rintro e w2 ⟨⟨v2, rfl, ho⟩, hx2⟩
 have hll := last_len ls placeD
 have HO : Hid (IsStrs w2 v2 (lastL ls placeD)) := Row.of_owns ho (by omega)
 have HOB : Hid (∀ k, v2.ownBlock = some k → w.heap.size ≤ k ∧ k < w2.heap.size) := fun k hk => by
  have h1 := ho.lt k hk
  have h2 := HP.out.fr.size
  omega
 clear ho
 go_wp2
 go_ret2
 exact ⟨⟨_, rfl, HO.out, HOB.out⟩, FsPost.ext HP.out hx2⟩
theorem cells123 {w : World} {g : Nat} {v0 v1 v2 v3 v4 v5 v6 v7 v8 v9 v10 v11 : Value} {t : TypeId} {fr : Nat × Nat} (h : w.heap[g]? = some (.cells #[v0, v1, v2, v3, v4, v5, v6, v7, v8, v9, v10, v11] t fr)) :
  w.cell? ⟨g, 1, none⟩ = some v1 ∧ w.cell? ⟨g, 2, none⟩ = some v2 ∧ w.cell? ⟨g, 3, none⟩ = some v3 := by
 simp [World.cell?, h]
theorem fewR_ops {l : List Rop} (h : fewR l = true) : l.length ≤ 60 ∧ fewOps (l.map Rop.f) = true ∧ ∀ e ∈ l, okN e = true := by
 unfold fewR at h
 simp only [Bool.and_eq_true, decide_eq_true_eq] at h
 refine ⟨h.2.1, h.2.2, fun e he => ?_⟩
 have h1 := h.1
 rw [List.take_of_length_le h.2.1] at h1
 exact List.all_eq_true.1 h1 e he
theorem okN_len {e : Rop} (h : okN e = true) : e.name.length ≤ 400 ∧ e.old.length ≤ 400 ∧ e.next.length ≤ 400 := by
 unfold okN at h
 simpa using h
variable [Inhabited BaseW]
theorem two_of {w0 w w1 w2 : World} {S O O' : Nat → Prop} {f x : Value} {m m' : Fs} (hT : Two w0 S O O' w f x m) (hx : Ext w w1) (hb : Both S O O' (fun k => k < w.heap.size) w1 f x m' m' w2) : ∃ S1 O1 O1' : Nat → Prop, Two w0 S1 O1 O1' w2 f x m' := by
 obtain ⟨S1, O1, O1', h, -, -⟩ := Two2.done hT hx hb (vin := .slice none 0 0) (fun k hk => by cases hk) ⟨rfl, rfl, rfl, Nat.le_refl _, fun _ _ _ => rfl⟩
 exact ⟨S1, O1, O1', h⟩
theorem two_more {w0 w w' : World} {S O O' : Nat → Prop} {f x : Value} {m : Fs} (h : Two w0 S O O' w f x m) (hx : Ext w w') : Two w0 S O O' w' f x m := by
 have hs := hx.size
 exact ⟨h.base, h.ext.trans hx, (h.fs.ext hx).mono (fun _ h => h) (fun k hk => Nat.lt_of_lt_of_le hk hs), (h.ref.ext hx).mono (fun _ h => h) (fun k hk => Nat.lt_of_lt_of_le hk hs), fun k hk => by have := h.lo k hk; omega, fun k hk => by have := h.lo' k hk; omega, fun k hk => by have := h.loS k hk; omega, h.dis, h.disS⟩
theorem two_new {w w1 w2 : World} {p q : Value} {room : Int} (h : IsFs (fun _ => False) (Nu w w1) (fun _ => False) w1 p (newM room)) (hx : Ext w w1) (h2 : IsRef (Nu w1 w2) (fun _ => False) w2 q (newM room)) (hx2 : Ext w1 w2) (hb : Ext baseW w) : Two w (fun _ => False) (Nu w w1) (Nu w1 w2) w2 p q (newM room) := by
 have hs := hx.size
 have hs2 := hx2.size
 exact ⟨hb, hx.trans hx2, (h.ext hx2).mono (fun _ h => h) (fun _ h => h.elim), h2.mono (fun _ h => h) (fun _ h => h.elim), fun k hk => by have := hk.1; have := hk.2; omega, fun k hk => by have := hk.1; have := hk.2; omega, fun _ hk => hk.elim, fun k h1 h2 => by have := h1.2; have := h2.1; omega, fun _ hk => hk.elim⟩
theorem two_base {w w0 w1 : World} {S O O' : Nat → Prop} {f x : Value} {m : Fs} (h : Two w0 S O O' w1 f x m) (hx : Ext w w0) (hb : Ext baseW w) : Two w S O O' w1 f x m := by
 have hs := hx.size
 exact ⟨hb, hx.trans h.ext, h.fs, h.ref, fun k hk => by have := h.lo k hk; omega, fun k hk => by have := h.lo' k hk; omega, fun k hk => by have := h.loS k hk; omega, h.dis, h.disS⟩

set_option maxRecDepth 100000 in
set_option maxHeartbeats 16000000 in
theorem rplays_any (room : Int) (v : Value) (l : List Rop) (w : World) (hb : Ext baseW w) (hE : Env w) (hS : EnvS w) (hv : IsRops w v l) (hi : ∀ o ∈ l, I64 o.f.keep ∧ I64 o.f.torn ∧ ∀ e ∈ o.f.plan, I64 e.keep ∧ I64 e.torn) :
  Calls Tryz.prog 6 #[.int .i64 room, v] w fun e w' => e = .returned (.bool true) ∧ Ext w w' := by
 obtain ⟨a, cap, rfl, h1, h2, h3, h4⟩ := rops_cells hv
 have H4 : Hid _ := h4
 have HV : Hid (IsRops w (.slice a l.length cap) l) := hv
 have HE : Hid (Env w) := hE
 have HS : Hid (EnvS w) := hS
 have HB : Hid (Ext baseW w) := hb
 have HI : Hid (∀ o ∈ l, I64 o.f.keep ∧ I64 o.f.torn ∧ ∀ e ∈ o.f.plan, I64 e.keep ∧ I64 e.torn) := hi
 clear h4 hv hi hE hS hb
 go_enter Tryz.func6, Tryz.ntmps6
 go_wp2_with fail
 go_at_call 10
 refine (first8_any w HE.out HS.out).mono ?_
 rintro e w1 ⟨rfl, hx1⟩
 have HX1 : Hid (Ext w w1) := hx1
 clear hx1
 obtain ⟨fw, hfw⟩ : ∃ b, fewR l = b := ⟨_, rfl⟩
 have HFW : Hid _ := hfw
 clear hfw
 go_wp2_with fail
 go_at_call 12
 refine (fewR_any HX1.out HV.out).mono ?_
 rw [HFW.out]
 rintro e w2 ⟨rfl, hx2⟩
 have HX2 : Hid (Ext w w2) := HX1.out.trans hx2
 clear hx2
 cases fw with
 | false =>
  go_wp2_with fail
  go_at_call 10
  refine (first8_any w2 (HE.out.ext HX2.out) (HS.out.ext HX2.out)).mono ?_
  rintro e w3 ⟨rfl, hx3⟩
  go_wp2
  go_ret
  exact ⟨rfl, HX2.out.trans hx3⟩
 | true =>
  obtain ⟨hl60, hfo, hok⟩ := fewR_ops HFW.out
  have HOKN : Hid (∀ e ∈ l, okN e = true) := hok
  have HOPK : Hid (∀ e ∈ l, OpOk e.f) := fun e he => (few_ops hfo (fun o ho => by obtain ⟨r, hr, rfl⟩ := List.mem_map.1 ho; exact HI.out r hr)).2 e.f (List.mem_map.2 ⟨e, he, rfl⟩)
  clear hfo hok
  go_wp2_with fail
  go_at_call 11
  by_cases hroom : room < 0 ∨ 1073741824 < room
  ·refine (new_no room _ hroom).mono ?_
   rintro e w3 ⟨rfl, rfl⟩
   go_wp2_with fail
   go_at_call 30
   refine (newR_no room _ hroom).mono ?_
   rintro e w3 ⟨rfl, rfl⟩
   clear hroom
   go_wp2_with fail
   go_at_call 10
   refine (first8_any w3 (HE.out.ext HX2.out) (HS.out.ext HX2.out)).mono ?_
   rintro e w4 ⟨rfl, hx4⟩
   go_wp2
   go_ret
   exact ⟨rfl, HX2.out.trans hx4⟩
  have hr0 : 0 ≤ room := by omega
  have hr1 : room ≤ 1073741824 := by omega
  refine (new_yes room _ hr0 hr1).mono ?_
  rintro e w3 ⟨⟨p, rfl, hf⟩, hx3⟩
  obtain ⟨gf, rfl⟩ : ∃ g, p = .pointer (some ⟨g, 0, none⟩) := by
   obtain ⟨g, gm, gd, vp, vl, vu, L, c0, hpe, -⟩ := hf
   exact ⟨g, hpe⟩
  go_wp2_with fail
  go_at_call 30
  refine (newR_yes room _ hr0 hr1).mono ?_
  rintro e w4 ⟨⟨q, rfl, hq⟩, hx4⟩
  obtain ⟨gx, rfl⟩ := hq.ptr
  have HT : Hid (Two w (fun _ => False) (Nu w2 w3) (Nu w3 w4) w4 (.pointer (some ⟨gf, 0, none⟩)) (.pointer (some ⟨gx, 0, none⟩)) (newM room)) := two_base (two_new hf hx3 hq hx4 (Ext.trans HB.out HX2.out)) HX2.out HB.out
  have HP0 : Hid (PotK 0 (newM room)) := pot_new hr0 hr1
  clear hf hq hx3 hx4 hroom hr0 hr1
  go_wp2_with fail
  go_loopw [9] (fun i wr => ∃ (k : Nat) (S O O' : Nat → Prop) (m : Fs), k ≤ l.length ∧ i = .int .i64 k ∧ Hid (Two w S O O' wr (.pointer (some ⟨gf, 0, none⟩)) (.pointer (some ⟨gx, 0, none⟩)) m) ∧ Hid (PotK k m)) (fun i _ => l.length - (intOf i).toNat)
  case atStart => exact ⟨0, _, _, _, _, Nat.zero_le _, rfl, HT.out, HP0.out⟩
  case round =>
   obtain ⟨k, S, O, O', m, hk, rfl, HT1, HPK⟩ := hrel
   have HXR : Hid (Ext w wr) := HT1.out.ext
   by_cases hlt : k < l.length
   case neg =>
    go_wp2_with fail
    go_at_call 10
    refine (first8_any wr (HE.out.ext HXR.out) (HS.out.ext HXR.out)).mono ?_
    rintro e w5 ⟨rfl, hx5⟩
    go_wp2
    go_ret
    exact ⟨rfl, HXR.out.trans hx5⟩
   obtain ⟨e, hke⟩ : ∃ e, l[k]? = some e := ⟨_, List.getElem?_eq_getElem hlt⟩
   have hem := List.mem_of_getElem? hke
   obtain ⟨b, o, cs, rfl, ⟨fs, rfl, hop⟩, hc⟩ := H4.out k e hke
   have HOP : Hid (IsOpn w fs e.f) := hop
   obtain ⟨vd, vp, rfl, hd, hpl⟩ := hop
   obtain ⟨d1, d2, rfl, -⟩ := id hd.bytes
   obtain ⟨_, ⟨p1, p2, rfl, -⟩, -⟩ := id hpl
   have c0 := HXR.out.cell (hc 0 _ rfl)
   have c1 := HXR.out.cell (hc 1 _ rfl)
   have c2 := HXR.out.cell (hc 2 _ rfl)
   have c3 := HXR.out.cell (hc 3 _ rfl)
   have c4 := HXR.out.cell (hc 4 _ rfl)
   have c5 := HXR.out.cell (hc 5 _ rfl)
   have c6 := HXR.out.cell (hc 6 _ rfl)
   have c7 := HXR.out.cell (hc 7 _ rfl)
   have c8 := HXR.out.cell (hc 8 _ rfl)
   have c9 := HXR.out.cell (hc 9 _ rfl)
   have c10 := HXR.out.cell (hc 10 _ rfl)
   have c11 := HXR.out.cell (hc 11 _ rfl)
   simp only [Nat.add_zero] at c0
   obtain ⟨hnl, hol, hxl⟩ := okN_len (HOKN.out e hem)
   have HOK : Hid (OpOk e.f) := HOPK.out e hem
   clear hd hpl hc hke hem
   go_upto_region 13 with fail
   obtain ⟨wa, hwa⟩ : ∃ wa, wa = wr.alloc (.cells #[.int .i64 e.kind, S8 e.name, S8 e.old, S8 e.next, .int .i64 e.f.kind, .int .i64 e.f.mode, .int .i64 e.f.keep, .int .i64 e.f.torn, S8 e.f.path, S8 e.f.dest, .slice d1 e.f.data.length d2, .slice p1 e.f.plan.length p2] 36) := ⟨_, rfl⟩
   have hxa : Ext wr wa := by rw [hwa]; exact (Ext.refl _).alloc _
   have hga : wa.heap[wr.heap.size]? = some (.cells #[.int .i64 e.kind, S8 e.name, S8 e.old, S8 e.next, .int .i64 e.f.kind, .int .i64 e.f.mode, .int .i64 e.f.keep, .int .i64 e.f.torn, S8 e.f.path, S8 e.f.dest, .slice d1 e.f.data.length d2, .slice p1 e.f.plan.length p2] 36 (0, 0)) := by rw [hwa]; exact alloc_at _ _
   rw [show wr.alloc (.cells #[.int .i64 e.kind, S8 e.name, S8 e.old, S8 e.next, .int .i64 e.f.kind, .int .i64 e.f.mode, .int .i64 e.f.keep, .int .i64 e.f.torn, S8 e.f.path, S8 e.f.dest, .slice d1 e.f.data.length d2, .slice p1 e.f.plan.length p2] 36) = wa from hwa.symm]
   obtain ⟨go, hgo⟩ : ∃ go, wr.heap.size = go := ⟨_, rfl⟩
   have HNO : Hid (¬ O go ∧ ¬ O' go) := ⟨fun h => by have := HT1.out.lo _ h; omega, fun h => by have := HT1.out.lo' _ h; omega⟩
   have HG : Hid (Good 980 m) := HPK.out.good (by omega)
   have HP : Hid (Pair S O O' (fun k => k < wr.heap.size) wa (.pointer (some ⟨gf, 0, none⟩)) (.pointer (some ⟨gx, 0, none⟩)) m m) := Two2.pair HT1.out HE.out HG.out HG.out (by omega) hxa
   have HNG : Hid (NoG O') := (Two2.noG HT1.out HE.out).2
   have HTA : Hid (Two w S O O' wa (.pointer (some ⟨gf, 0, none⟩)) (.pointer (some ⟨gx, 0, none⟩)) m) := two_more HT1.out hxa
   have HXA : Hid (Ext wr wa) := hxa
   rw [hgo] at hga
   rw [hgo]
   clear hgo
   have HGA : Hid _ := hga
   have q0 : wa.cell? ⟨go, 0, none⟩ = some (.int .i64 e.kind) := (cell_of_row _ _ 0 _ _ _ hga).trans rfl
   obtain ⟨q1, q2, q3⟩ := cells123 hga
   clear hwa hxa hga c0 c1 c2 c3 c4 c5 c6 c7 c8 c9 c10 c11
   by_cases k0 : e.kind = 0
   case pos =>
    have hk0 : (e.kind == 0) = true := by simpa using k0
    clear k0
    obtain ⟨⟨m', x, er⟩, hrd⟩ : ∃ q, getM m e.name = q := ⟨_, rfl⟩
    have hfc := get_any e.name HP.out.fin (by omega)
    have hpp := pot_getM HPK.out e.name
    rw [hrd] at hfc hpp
    have HFC : Hid _ := hfc
    have HPP : Hid _ := hpp
    have HRD : Hid _ := hrd

    clear hfc hpp hrd
    go_wp2_with fail
    go_at_call 18
    refine Calls.mono HFC.out ?_
    rintro e9 w2 ⟨rfl, hp2⟩
    have HD2 : Hid (DJ S O O' (fun k => k < wr.heap.size) wa (.pointer (some ⟨gf, 0, none⟩)) (.pointer (some ⟨gx, 0, none⟩)) m' m' (fun _ => True) (fun _ => True) (some (.int .i64 0)) none w2) := DJ.setF HP.out (DJ.start (Ext.refl _)) trivial hp2
    obtain ⟨q12, -, -⟩ := cells123 (DJ.row HD2.out HGA.out HNO.out.1 HNO.out.2)
    have hxc := getR_any e.name (DJ.rin HP.out HD2.out) (by omega)
    rw [HRD.out] at hxc
    have HXC : Hid _ := hxc
    clear hp2 hxc q1 q2 q3
    go_wp2_with fail
    go_at_call 31
    refine Calls.mono HXC.out ?_
    rintro e9 w3 ⟨rfl, hp3⟩
    have HBO : Hid (Both S O O' (fun k => k < wr.heap.size) wa (.pointer (some ⟨gf, 0, none⟩)) (.pointer (some ⟨gx, 0, none⟩)) m' m' w3) := (DJ.setR HP.out HD2.out (v := .int .i64 0) trivial hp3).2.2
    clear hp3 HXC
    obtain ⟨S2, O2, O2', hT2⟩ := two_of HT1.out HXA.out HBO.out
    have HT2 : Hid (Two w S2 O2 O2' w3 (.pointer (some ⟨gf, 0, none⟩)) (.pointer (some ⟨gx, 0, none⟩)) m') := hT2
    have HP2 : Hid (PotK (k + 1) m') := PotK.up (HPP.out) (by omega) (by omega) (by omega)
    obtain ⟨ht4, hu4⟩ := HP2.out.small (by omega)
    clear hT2 HBO
    go_wp2_with fail
    go_at_call 38
    refine (same_any HT2.out.fs HT2.out.ref (Pot.ok HP2.out) ht4 hu4).mono ?_
    rintro e9 w4 ⟨rfl, hx4⟩
    go_wp2_with fail
    go_roundw
    case rel => exact ⟨k + 1, S2, O2, O2', m', by omega, by go_num, two_more HT2.out hx4, HP2.out⟩
    case measure => simp [intOf]; omega
   have hk0 : (e.kind == 0) = false := by simpa using k0
   clear k0
   by_cases k1 : e.kind = 1
   case pos =>
    have hk1 : (e.kind == 1) = true := by simpa using k1
    clear k1
    obtain ⟨er, her⟩ : ∃ er, (setM m e.name e.old e.next).2 = er := ⟨_, rfl⟩
    have HER : Hid _ := her
    obtain ⟨m', hm'⟩ : ∃ m', (setM m e.name e.old e.next).1 = m' := ⟨_, rfl⟩
    have HM : Hid _ := hm'
    have hpm := pot_setM HPK.out e.name e.old e.next
    rw [hm'] at hpm
    have HPM : Hid _ := hpm
    clear her hm' hpm q1 q2 q3
    go_upto_region 21 with fail
    apply wp_region_inv 17 (fun z w' => DJ S O O' (fun k => k < wr.heap.size) wa (.pointer (some ⟨gf, 0, none⟩)) (.pointer (some ⟨gx, 0, none⟩)) m' m' (fun u => u = .int .i64 er) (fun u => u = .int .i64 er) (z 7) (z 15) w') [false, false, false, false, false, false, false, true, false, false, false, false, false, false, false, true, false] [_, _, _, _, _, _, _, undef, _, _, _, _, _, _, _, undef, .bool true] [none, none, none, none, none, none, none, none, none, none, none, none, none, none, none, none, none] [[], [], [1], [], [3], [], [5], [0, 2, 4, 6], [], [], [9], [], [11], [], [13], [8, 10, 12, 14], [7, 15]] (by kernel_rfl) (by kernel_rfl) rfl
    ·exact DJ.start ⟨rfl, rfl, rfl, Nat.le_refl _, fun _ _ => rfl⟩
    ·simp (maxSteps := 1000000) only [oblI, stepI, knowsI, getP, mixP, List.getD_cons_zero, List.getD_cons_succ, Bool.false_eq_true, if_false, if_true, and_true, true_and, forall_const, Nat.zero_add, Nat.reduceAdd, List.take_succ_cons, List.take_zero, fillFrom, Act.put, List.setIfInBounds_toArray, List.set_cons_zero, List.set_cons_succ]
     refine ⟨?_, ?_, ?_, ?_, ?_, ?_, ?_, ?_, ?_, ?_, ?_, ?_, ?_, ?_, ?_, ?_, ?_⟩
     ·intro xs z wq hj R hR
      obtain ⟨f1, f2, f3⟩ := cells123 (hj.row HGA.out HNO.out.1 HNO.out.2)
      go_simp
      exact hR _ _ hj rfl
     ·intro xs z wq hj R hR
      obtain ⟨f1, f2, f3⟩ := cells123 (hj.row HGA.out HNO.out.1 HNO.out.2)
      go_simp
      exact hR _ _ hj rfl
     ·intro xs z wq hj hk R hR
      obtain ⟨f1, f2, f3⟩ := cells123 (hj.row HGA.out HNO.out.1 HNO.out.2)
      go_simp
      exact hR _ _ hj rfl
     ·intro xs z wq hj R hR
      obtain ⟨f1, f2, f3⟩ := cells123 (hj.row HGA.out HNO.out.1 HNO.out.2)
      go_simp
      exact hR _ _ hj rfl
     ·intro xs z wq hj hk R hR
      obtain ⟨f1, f2, f3⟩ := cells123 (hj.row HGA.out HNO.out.1 HNO.out.2)
      go_simp
      exact hR _ _ hj rfl
     ·intro xs z wq hj R hR
      obtain ⟨f1, f2, f3⟩ := cells123 (hj.row HGA.out HNO.out.1 HNO.out.2)
      go_simp
      exact hR _ _ hj rfl
     ·intro xs z wq hj hk R hR
      obtain ⟨f1, f2, f3⟩ := cells123 (hj.row HGA.out HNO.out.1 HNO.out.2)
      go_simp
      exact hR _ _ hj rfl
     ·intro xs z wq hj hz hk R hR
      obtain ⟨hk0, hk1, hk2, hk3⟩ := hk
      rw [hz] at hj
      go_simp
      exact (set_any e.name e.old e.next (DJ.fin HP.out HNG.out hj) HG.out (by omega) (by omega) (by omega) (by omega)).mono (by rintro e' w4 ⟨rfl, h4⟩; rw [HM.out] at h4; exact ⟨_, rfl, hR _ _ (DJ.setF HP.out hj (by rw [HER.out]) h4)⟩)
     ·intro xs z wq hj R hR
      obtain ⟨f1, f2, f3⟩ := cells123 (hj.row HGA.out HNO.out.1 HNO.out.2)
      go_simp
      exact hR _ _ hj rfl
     ·intro xs z wq hj R hR
      obtain ⟨f1, f2, f3⟩ := cells123 (hj.row HGA.out HNO.out.1 HNO.out.2)
      go_simp
      exact hR _ _ hj rfl
     ·intro xs z wq hj hk R hR
      obtain ⟨f1, f2, f3⟩ := cells123 (hj.row HGA.out HNO.out.1 HNO.out.2)
      go_simp
      exact hR _ _ hj rfl
     ·intro xs z wq hj R hR
      obtain ⟨f1, f2, f3⟩ := cells123 (hj.row HGA.out HNO.out.1 HNO.out.2)
      go_simp
      exact hR _ _ hj rfl
     ·intro xs z wq hj hk R hR
      obtain ⟨f1, f2, f3⟩ := cells123 (hj.row HGA.out HNO.out.1 HNO.out.2)
      go_simp
      exact hR _ _ hj rfl
     ·intro xs z wq hj R hR
      obtain ⟨f1, f2, f3⟩ := cells123 (hj.row HGA.out HNO.out.1 HNO.out.2)
      go_simp
      exact hR _ _ hj rfl
     ·intro xs z wq hj hk R hR
      obtain ⟨f1, f2, f3⟩ := cells123 (hj.row HGA.out HNO.out.1 HNO.out.2)
      go_simp
      exact hR _ _ hj rfl
     ·intro xs z wq hj hz hk R hR
      obtain ⟨hk0, hk1, hk2, hk3⟩ := hk
      rw [hz] at hj
      go_simp
      exact (setR_any e.name e.old e.next (DJ.rin HP.out hj) HG.out (by omega) (by omega) (by omega) (by omega)).mono (by rintro e' w4 ⟨rfl, h4⟩; rw [HM.out] at h4; exact ⟨_, rfl, hR _ _ (DJ.setR HP.out hj (by rw [HER.out]) h4)⟩)
     ·intro xs z wq hj hk R hR
      obtain ⟨hk0, hk1⟩ := hk
      rw [hk0, hk1] at hj
      obtain ⟨e1, e2, -⟩ := id hj
      go_simp
      exact hR _ _ (by rw [hk0, hk1]; exact hj) rfl
    intro xs w3 hj2 hk
    simp only [zAll, List.getD_cons_zero, List.getD_cons_succ, Bool.false_eq_true, if_false, if_true] at hj2
    simp only [heldI, Nat.zero_add, Nat.reduceAdd, and_true] at hk
    obtain ⟨q0, q1, q2, q3, q4, q5, q6, q8, q9, q10, q11, q12, q13, q14, q16⟩ := hk
    simp (maxSteps := 1000000) only [List.drop_succ_cons, List.drop_zero, Nat.zero_add, Nat.reduceAdd, List.take_succ_cons, List.take_zero, fillFrom, Act.put, List.setIfInBounds_toArray, List.set_cons_zero, List.set_cons_succ, q0, q1, q2, q3, q4, q5, q6, q8, q9, q10, q11, q12, q13, q14, q16]
    clear q0 q1 q2 q3 q4 q5 q6 q8 q9 q10 q11 q12 q13 q14 q16
    generalize xs 7 = x7 at *
    generalize xs 15 = x15 at *
    obtain ⟨rfl, rfl, hboth⟩ := hj2
    have HBO : Hid (Both S O O' (fun k => k < wr.heap.size) wa (.pointer (some ⟨gf, 0, none⟩)) (.pointer (some ⟨gx, 0, none⟩)) m' m' w3) := hboth
    clear hboth
    obtain ⟨S2, O2, O2', hT2⟩ := two_of HT1.out HXA.out HBO.out
    have HT2 : Hid (Two w S2 O2 O2' w3 (.pointer (some ⟨gf, 0, none⟩)) (.pointer (some ⟨gx, 0, none⟩)) m') := hT2
    have HP2 : Hid (PotK (k + 1) m') := PotK.up (HPM.out) (by omega) (by omega) (by omega)
    obtain ⟨ht4, hu4⟩ := HP2.out.small (by omega)
    clear hT2 HBO
    go_wp2_with fail
    go_at_call 38
    refine (same_any HT2.out.fs HT2.out.ref (Pot.ok HP2.out) ht4 hu4).mono ?_
    rintro e9 w4 ⟨rfl, hx4⟩
    go_wp2_with fail
    go_roundw
    case rel => exact ⟨k + 1, S2, O2, O2', m', by omega, by go_num, two_more HT2.out hx4, HP2.out⟩
    case measure => simp [intOf]; omega
   have hk1 : (e.kind == 1) = false := by simpa using k1
   clear k1
   by_cases k2 : e.kind = 2
   case pos =>
    have hk2 : (e.kind == 2) = true := by simpa using k2
    clear k2
    obtain ⟨er, her⟩ : ∃ er, (deleteM m e.name e.old).2 = er := ⟨_, rfl⟩
    have HER : Hid _ := her
    obtain ⟨m', hm'⟩ : ∃ m', (deleteM m e.name e.old).1 = m' := ⟨_, rfl⟩
    have HM : Hid _ := hm'
    have hpm := pot_deleteM HPK.out e.name e.old
    rw [hm'] at hpm
    have HPM : Hid _ := hpm
    clear her hm' hpm q1 q2 q3
    go_upto_region 23 with fail
    apply wp_region_inv 13 (fun z w' => DJ S O O' (fun k => k < wr.heap.size) wa (.pointer (some ⟨gf, 0, none⟩)) (.pointer (some ⟨gx, 0, none⟩)) m' m' (fun u => u = .int .i64 er) (fun u => u = .int .i64 er) (z 5) (z 11) w') [false, false, false, false, false, true, false, false, false, false, false, true, false] [_, _, _, _, _, undef, _, _, _, _, _, undef, .bool true] [none, none, none, none, none, none, none, none, none, none, none, none, none] [[], [], [1], [], [3], [0, 2, 4], [], [], [7], [], [9], [6, 8, 10], [5, 11]] (by kernel_rfl) (by kernel_rfl) rfl
    ·exact DJ.start ⟨rfl, rfl, rfl, Nat.le_refl _, fun _ _ => rfl⟩
    ·simp (maxSteps := 1000000) only [oblI, stepI, knowsI, getP, mixP, List.getD_cons_zero, List.getD_cons_succ, Bool.false_eq_true, if_false, if_true, and_true, true_and, forall_const, Nat.zero_add, Nat.reduceAdd, List.take_succ_cons, List.take_zero, fillFrom, Act.put, List.setIfInBounds_toArray, List.set_cons_zero, List.set_cons_succ]
     refine ⟨?_, ?_, ?_, ?_, ?_, ?_, ?_, ?_, ?_, ?_, ?_, ?_, ?_⟩
     ·intro xs z wq hj R hR
      obtain ⟨f1, f2, f3⟩ := cells123 (hj.row HGA.out HNO.out.1 HNO.out.2)
      go_simp
      exact hR _ _ hj rfl
     ·intro xs z wq hj R hR
      obtain ⟨f1, f2, f3⟩ := cells123 (hj.row HGA.out HNO.out.1 HNO.out.2)
      go_simp
      exact hR _ _ hj rfl
     ·intro xs z wq hj hk R hR
      obtain ⟨f1, f2, f3⟩ := cells123 (hj.row HGA.out HNO.out.1 HNO.out.2)
      go_simp
      exact hR _ _ hj rfl
     ·intro xs z wq hj R hR
      obtain ⟨f1, f2, f3⟩ := cells123 (hj.row HGA.out HNO.out.1 HNO.out.2)
      go_simp
      exact hR _ _ hj rfl
     ·intro xs z wq hj hk R hR
      obtain ⟨f1, f2, f3⟩ := cells123 (hj.row HGA.out HNO.out.1 HNO.out.2)
      go_simp
      exact hR _ _ hj rfl
     ·intro xs z wq hj hz hk R hR
      obtain ⟨hk0, hk1, hk2⟩ := hk
      rw [hz] at hj
      go_simp
      exact (delete_any e.name e.old (DJ.fin HP.out HNG.out hj) HG.out (by omega) (by omega) (by omega)).mono (by rintro e' w4 ⟨rfl, h4⟩; rw [HM.out] at h4; exact ⟨_, rfl, hR _ _ (DJ.setF HP.out hj (by rw [HER.out]) h4)⟩)
     ·intro xs z wq hj R hR
      obtain ⟨f1, f2, f3⟩ := cells123 (hj.row HGA.out HNO.out.1 HNO.out.2)
      go_simp
      exact hR _ _ hj rfl
     ·intro xs z wq hj R hR
      obtain ⟨f1, f2, f3⟩ := cells123 (hj.row HGA.out HNO.out.1 HNO.out.2)
      go_simp
      exact hR _ _ hj rfl
     ·intro xs z wq hj hk R hR
      obtain ⟨f1, f2, f3⟩ := cells123 (hj.row HGA.out HNO.out.1 HNO.out.2)
      go_simp
      exact hR _ _ hj rfl
     ·intro xs z wq hj R hR
      obtain ⟨f1, f2, f3⟩ := cells123 (hj.row HGA.out HNO.out.1 HNO.out.2)
      go_simp
      exact hR _ _ hj rfl
     ·intro xs z wq hj hk R hR
      obtain ⟨f1, f2, f3⟩ := cells123 (hj.row HGA.out HNO.out.1 HNO.out.2)
      go_simp
      exact hR _ _ hj rfl
     ·intro xs z wq hj hz hk R hR
      obtain ⟨hk0, hk1, hk2⟩ := hk
      rw [hz] at hj
      go_simp
      exact (deleteR_any e.name e.old (DJ.rin HP.out hj) HG.out (by omega) (by omega) (by omega)).mono (by rintro e' w4 ⟨rfl, h4⟩; rw [HM.out] at h4; exact ⟨_, rfl, hR _ _ (DJ.setR HP.out hj (by rw [HER.out]) h4)⟩)
     ·intro xs z wq hj hk R hR
      obtain ⟨hk0, hk1⟩ := hk
      rw [hk0, hk1] at hj
      obtain ⟨e1, e2, -⟩ := id hj
      go_simp
      exact hR _ _ (by rw [hk0, hk1]; exact hj) rfl
    intro xs w3 hj2 hk
    simp only [zAll, List.getD_cons_zero, List.getD_cons_succ, Bool.false_eq_true, if_false, if_true] at hj2
    simp only [heldI, Nat.zero_add, Nat.reduceAdd, and_true] at hk
    obtain ⟨q0, q1, q2, q3, q4, q6, q7, q8, q9, q10, q12⟩ := hk
    simp (maxSteps := 1000000) only [List.drop_succ_cons, List.drop_zero, Nat.zero_add, Nat.reduceAdd, List.take_succ_cons, List.take_zero, fillFrom, Act.put, List.setIfInBounds_toArray, List.set_cons_zero, List.set_cons_succ, q0, q1, q2, q3, q4, q6, q7, q8, q9, q10, q12]
    clear q0 q1 q2 q3 q4 q6 q7 q8 q9 q10 q12
    generalize xs 5 = x5 at *
    generalize xs 11 = x11 at *
    obtain ⟨rfl, rfl, hboth⟩ := hj2
    have HBO : Hid (Both S O O' (fun k => k < wr.heap.size) wa (.pointer (some ⟨gf, 0, none⟩)) (.pointer (some ⟨gx, 0, none⟩)) m' m' w3) := hboth
    clear hboth
    obtain ⟨S2, O2, O2', hT2⟩ := two_of HT1.out HXA.out HBO.out
    have HT2 : Hid (Two w S2 O2 O2' w3 (.pointer (some ⟨gf, 0, none⟩)) (.pointer (some ⟨gx, 0, none⟩)) m') := hT2
    have HP2 : Hid (PotK (k + 1) m') := PotK.up (HPM.out) (by omega) (by omega) (by omega)
    obtain ⟨ht4, hu4⟩ := HP2.out.small (by omega)
    clear hT2 HBO
    go_wp2_with fail
    go_at_call 38
    refine (same_any HT2.out.fs HT2.out.ref (Pot.ok HP2.out) ht4 hu4).mono ?_
    rintro e9 w4 ⟨rfl, hx4⟩
    go_wp2_with fail
    go_roundw
    case rel => exact ⟨k + 1, S2, O2, O2', m', by omega, by go_num, two_more HT2.out hx4, HP2.out⟩
    case measure => simp [intOf]; omega
   have hk2 : (e.kind == 2) = false := by simpa using k2
   clear k2
   by_cases k3 : e.kind = 3
   case pos =>
    have hk3 : (e.kind == 3) = true := by simpa using k3
    clear k3
    obtain ⟨⟨m', x, er⟩, hrd⟩ : ∃ q, refsM m = q := ⟨_, rfl⟩
    have hfc := refs_own HP.out.fin
    have hpp := pot_refsM HPK.out
    rw [hrd] at hfc hpp
    have HFC : Hid _ := hfc
    have HPP : Hid _ := hpp
    have HRD : Hid _ := hrd

    clear hfc hpp hrd
    go_wp2_with fail
    go_at_call 22
    refine Calls.mono HFC.out ?_
    rintro e9 w2 ⟨⟨va, rfl, hva, hvb⟩, hp2⟩
    have HD2 : Hid (DJ S O O' (fun k => k < wr.heap.size) wa (.pointer (some ⟨gf, 0, none⟩)) (.pointer (some ⟨gx, 0, none⟩)) m' m' (fun _ => True) (fun _ => True) (some (.int .i64 0)) none w2) := DJ.setF HP.out (DJ.start (Ext.refl _)) trivial hp2
    have hxc := listRefs_any (DJ.rin HP.out HD2.out) (pot_rise HPK.out)
    rw [HRD.out] at hxc
    have HXC : Hid _ := hxc
    have HVA : Hid (IsStrs w2 va x) := hva
    have HVB : Hid (∀ j, va.ownBlock = some j → wa.heap.size ≤ j ∧ j < w2.heap.size) := hvb
    clear hp2 hxc q1 q2 q3 hva hvb
    go_wp2_with fail
    go_at_call 34
    refine Calls.mono HXC.out ?_
    rintro e9 w3a ⟨⟨vb, rfl, hvb⟩, hp3⟩
    have HBOa : Hid (Both S O O' (fun k => k < wr.heap.size) wa (.pointer (some ⟨gf, 0, none⟩)) (.pointer (some ⟨gx, 0, none⟩)) m' m' w3a) := (DJ.setR HP.out HD2.out (v := .int .i64 0) trivial hp3).2.2
    have HVB2 : Hid (IsStrs w3a vb x) := hvb
    have HVA2 : Hid (IsStrs w3a va x) := Row.stay HVA.out (fun j hj => hp3.fr.block j (HVB.out j hj).2 (.inl (fun ho => by
     have h1 := (HVB.out j hj).1
     have h2 := HP.out.rin.low j ho
     omega)))
    clear hp3 HXC hvb
    go_wp2_with fail
    go_at_call 35
    refine (texts_any va vb x x w3a HVA2.out HVB2.out).mono ?_
    rw [beq_self_eq_true]
    rintro e9 w3 ⟨rfl, hx3⟩
    have HBO : Hid (Both S O O' (fun k => k < wr.heap.size) wa (.pointer (some ⟨gf, 0, none⟩)) (.pointer (some ⟨gx, 0, none⟩)) m' m' w3) := Both.ext HBOa.out hx3
    clear hx3
    obtain ⟨S2, O2, O2', hT2⟩ := two_of HT1.out HXA.out HBO.out
    have HT2 : Hid (Two w S2 O2 O2' w3 (.pointer (some ⟨gf, 0, none⟩)) (.pointer (some ⟨gx, 0, none⟩)) m') := hT2
    have HP2 : Hid (PotK (k + 1) m') := PotK.up (HPP.out) (by omega) (by omega) (by omega)
    obtain ⟨ht4, hu4⟩ := HP2.out.small (by omega)
    clear hT2 HBO
    go_wp2_with fail
    go_at_call 38
    refine (same_any HT2.out.fs HT2.out.ref (Pot.ok HP2.out) ht4 hu4).mono ?_
    rintro e9 w4 ⟨rfl, hx4⟩
    go_wp2_with fail
    go_roundw
    case rel => exact ⟨k + 1, S2, O2, O2', m', by omega, by go_num, two_more HT2.out hx4, HP2.out⟩
    case measure => simp [intOf]; omega
   have hk3 : (e.kind == 3) = false := by simpa using k3
   clear k3
   by_cases k4 : e.kind = 4
   case pos =>
    have hk4 : (e.kind == 4) = true := by simpa using k4
    clear k4
    obtain ⟨hpu, hft, hfa, hrs⟩ := pot_unlock HPK.out (by omega) (by omega)
    obtain ⟨⟨m', x, er⟩, hrd⟩ : ∃ q, unlockM m = q := ⟨_, rfl⟩
    have hfc := unlock_any HP.out.fin hft (fun _ => hfa)
    have hxc0 := fun (w2 : World) (h2 : RefIn O' (fun k => k < wr.heap.size) w2 (.pointer (some ⟨gx, 0, none⟩)) m) => unlockR_any h2 hrs hft (fun _ => hfa)
    rw [hrd] at hfc hxc0 hpu
    have HFC : Hid _ := hfc
    have HXC0 : Hid _ := hxc0
    have HPP : Hid _ := hpu

    clear hfc hxc0 hpu hrd hft hfa hrs
    go_wp2_with fail
    go_at_call 19
    refine Calls.mono HFC.out ?_
    rintro e9 w2 ⟨rfl, hp2⟩
    have HD2 : Hid (DJ S O O' (fun k => k < wr.heap.size) wa (.pointer (some ⟨gf, 0, none⟩)) (.pointer (some ⟨gx, 0, none⟩)) m' m' (fun _ => True) (fun _ => True) (some (.int .i64 0)) none w2) := DJ.setF HP.out (DJ.start (Ext.refl _)) trivial hp2
    have HXC : Hid _ := HXC0.out w2 (DJ.rin HP.out HD2.out)
    clear hp2 q1 q2 q3
    go_wp2_with fail
    go_at_call 36
    refine Calls.mono HXC.out ?_
    rintro e9 w3 ⟨rfl, hp3⟩
    have HBO : Hid (Both S O O' (fun k => k < wr.heap.size) wa (.pointer (some ⟨gf, 0, none⟩)) (.pointer (some ⟨gx, 0, none⟩)) m' m' w3) := (DJ.setR HP.out HD2.out (v := .int .i64 0) trivial hp3).2.2
    clear hp3 HXC
    obtain ⟨S2, O2, O2', hT2⟩ := two_of HT1.out HXA.out HBO.out
    have HT2 : Hid (Two w S2 O2 O2' w3 (.pointer (some ⟨gf, 0, none⟩)) (.pointer (some ⟨gx, 0, none⟩)) m') := hT2
    have HP2 : Hid (PotK (k + 1) m') := PotK.up (HPP.out) (by omega) (by omega) (by omega)
    obtain ⟨ht4, hu4⟩ := HP2.out.small (by omega)
    clear hT2 HBO
    go_wp2_with fail
    go_at_call 38
    refine (same_any HT2.out.fs HT2.out.ref (Pot.ok HP2.out) ht4 hu4).mono ?_
    rintro e9 w4 ⟨rfl, hx4⟩
    go_wp2_with fail
    go_roundw
    case rel => exact ⟨k + 1, S2, O2, O2', m', by omega, by go_num, two_more HT2.out hx4, HP2.out⟩
    case measure => simp [intOf]; omega
   have hk4 : (e.kind == 4) = false := by simpa using k4
   clear k4
   have q4 : wa.cell? ⟨go, 4, none⟩ = some (.int .i64 e.f.kind) := (cell_of_row _ _ 4 _ _ _ HGA.out).trans rfl
   have q5 : wa.cell? ⟨go, 5, none⟩ = some (.int .i64 e.f.mode) := (cell_of_row _ _ 5 _ _ _ HGA.out).trans rfl
   have q6 : wa.cell? ⟨go, 6, none⟩ = some (.int .i64 e.f.keep) := (cell_of_row _ _ 6 _ _ _ HGA.out).trans rfl
   have q7 : wa.cell? ⟨go, 7, none⟩ = some (.int .i64 e.f.torn) := (cell_of_row _ _ 7 _ _ _ HGA.out).trans rfl
   have q8 : wa.cell? ⟨go, 8, none⟩ = some (S8 e.f.path) := (cell_of_row _ _ 8 _ _ _ HGA.out).trans rfl
   have q9 : wa.cell? ⟨go, 9, none⟩ = some (S8 e.f.dest) := (cell_of_row _ _ 9 _ _ _ HGA.out).trans rfl
   have q10 : wa.cell? ⟨go, 10, none⟩ = some (.slice d1 e.f.data.length d2) := (cell_of_row _ _ 10 _ _ _ HGA.out).trans rfl
   have q11 : wa.cell? ⟨go, 11, none⟩ = some (.slice p1 e.f.plan.length p2) := (cell_of_row _ _ 11 _ _ _ HGA.out).trans rfl
   go_wp2_with fail
   go_at_call 37
   refine (doesOp_any HTA.out HE.out HG.out (by omega) HOP.out HOK.out).mono ?_
   rintro e9 w3 ⟨rfl, S2, O2, O2', hT2, -, hfr⟩
   have HT2 : Hid (Two w S2 O2 O2' w3 (.pointer (some ⟨gf, 0, none⟩)) (.pointer (some ⟨gx, 0, none⟩)) (stepM m e.f)) := hT2
   have HP2 : Hid (PotK (k + 1) (stepM m e.f)) := PotK.up (pot_step HPK.out HOK.out) (by omega) (by omega) (by omega)
   obtain ⟨ht4, hu4⟩ := HP2.out.small (by omega)
   clear hT2 hfr q1 q2 q3 q4 q5 q6 q7 q8 q9 q10 q11
   go_wp2_with fail
   go_at_call 38
   refine (same_any HT2.out.fs HT2.out.ref (Pot.ok HP2.out) ht4 hu4).mono ?_
   rintro e9 w4 ⟨rfl, hx4⟩
   go_wp2_with fail
   go_roundw
   case rel => exact ⟨k + 1, S2, O2, O2', _, by omega, by go_num, two_more HT2.out hx4, HP2.out⟩
   case measure => simp [intOf]; omega

end Go.Proofs.YtfimfbdlegookaaGreatDoor
