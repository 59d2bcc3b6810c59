/- marlaw5.FsimCounts: whatever the input, the law returns true, and the input reads as it did: its row's statement and its tied card. Conditions: what the row lists: the library's variables hold what the program's text lays. -/
import Derived.Test.YtoajnaopainpnaaGreatDoorZag
import Derived.Test.YtoajnaopainpnaaGreatDoorZai
import Derived.Deep.QuietTactic
import Derived.BigQuiet

set_option linter.unusedVariables false
set_option linter.unusedSimpArgs false
set_option linter.unusedSectionVars false

/-! marlaw5.FsimCounts on the model, in plain Lean: what an operation counts where no events are planned. No program in sight. -/
namespace Go.Proofs.YtoajnaopainpnaaGreatDoor
open Go Go.RowKit

theorem call_plain {m : Fs} (hp : m.plan = []) : (callM m).1 = { m with calls := m.calls + 1 } := by
  unfold callM
  rw [hp]
  simp
theorem puts_or (m : Fs) (path : B8) (mode : Int) (data : B8) (fits : Bool) : ((putsM m path mode data fits).1 = m ∧ (putsM m path mode data fits).2 ≠ 0) ∨ ((∃ c, (putsM m path mode data fits).1 = does m c) ∧ (putsM m path mode data fits).2 = 0) := by
  unfold putsM
  split
  · exact .inl ⟨rfl, by simp⟩
  · split
    · exact .inl ⟨rfl, by simp⟩
    · exact .inr ⟨⟨_, rfl⟩, rfl⟩
theorem removes_or (m : Fs) (path : B8) : ((removesM m path).1 = m ∧ (removesM m path).2 ≠ 0) ∨ ((∃ c, (removesM m path).1 = does m c) ∧ (removesM m path).2 = 0) := by
  unfold removesM
  split
  · exact .inl ⟨rfl, by simp⟩
  · split
    · exact .inl ⟨rfl, by simp⟩
    · exact .inr ⟨⟨_, rfl⟩, rfl⟩
theorem put_or (r : Fs × Bool × Int) (path : B8) (mode : Int) (data : B8) (only : Bool) : (putM r path mode data only).1 = r.1 ∨ ∃ c, (putM r path mode data only).1 = does r.1 c := by
  unfold putM
  split
  · exact .inl rfl
  · split
    · exact .inl rfl
    · split
      · exact .inl rfl
      · rcases puts_or r.1 path mode data (!r.2.1 && fitsM r.1 path data.length) with h | h
        · exact .inl h.1
        · exact .inr h.1
theorem mv_or (r : Fs × Bool × Int) (src dst : B8) (fresh : Bool) : (mvM r src dst fresh).1 = r.1 ∨ ∃ c, (mvM r src dst fresh).1 = does r.1 c := by
  unfold mvM
  split
  · exact .inl rfl
  · split
    · exact .inl rfl
    · split
      · exact .inl rfl
      · split
        · exact .inl rfl
        · split
          · exact .inl rfl
          · split
            · exact .inl rfl
            · exact .inr ⟨_, rfl⟩

structure CountsOk (m m' : Fs) (kind : Int) : Prop where
  calls : m'.calls = m.calls + (if kind ≤ 7 then 1 else 0)
  t0 : m.time ≤ m'.time
  t1 : m'.time ≤ m.time + 1
  p4 : kind ≤ 4 → m'.pend.length + m.time = m.pend.length + m'.time
  p5 : 4 < kind → m'.pend.length ≤ m.pend.length
  t5 : 5 ≤ kind → kind ≤ 7 → m'.time = m.time
  plan : m'.plan = []

theorem counts_low {m m' : Fs} {kind : Int} (hp : m.plan = []) (hk : kind ≤ 4) (h : m' = { m with calls := m.calls + 1 } ∨ ∃ c, m' = does { m with calls := m.calls + 1 } c) : CountsOk m m' kind := by
  rcases h with rfl | ⟨c, rfl⟩
  · exact ⟨by rw [if_pos (by omega)], Nat.le_refl _, Nat.le_succ _, fun _ => rfl, fun _ => Nat.le_refl _, fun _ _ => rfl, hp⟩
  · refine ⟨by rw [if_pos (by omega)]; rfl, Nat.le_succ _, Nat.le_refl _, fun _ => ?_, fun h => by omega, fun h => by omega, hp⟩
    show (m.pend ++ [_]).length + m.time = m.pend.length + (m.time + 1)
    rw [List.length_append, List.length_singleton]; omega
theorem counts_mid {m m' : Fs} {kind : Int} (hp : m.plan = []) (hk : 5 ≤ kind) (hk7 : kind ≤ 7) (h : m' = { m with calls := m.calls + 1 } ∨ m' = settle { m with calls := m.calls + 1 }) : CountsOk m m' kind := by
  rcases h with rfl | rfl
  · exact ⟨by rw [if_pos (by omega)], Nat.le_refl _, Nat.le_succ _, fun _ => rfl, fun _ => Nat.le_refl _, fun _ _ => rfl, hp⟩
  · exact ⟨by rw [if_pos (by omega)]; rfl, Nat.le_refl _, Nat.le_succ _, fun h => by omega, fun _ => Nat.zero_le _, fun _ _ => rfl, hp⟩
theorem counts_high {m m' : Fs} {kind : Int} (hk : 8 ≤ kind) (h : m'.calls = m.calls ∧ m.time ≤ m'.time ∧ m'.time ≤ m.time + 1 ∧ m'.pend.length ≤ m.pend.length ∧ m'.plan = []) : CountsOk m m' kind :=
  ⟨by rw [if_neg (by omega)]; exact h.1, h.2.1, h.2.2.1, fun h => by omega, fun _ => h.2.2.2.1, fun _ h => by omega, h.2.2.2.2⟩
theorem userWrite_pend (m : Fs) (path : B8) (mode : Int) (data : B8) : (userWrite m path mode data).1.pend.length ≤ m.pend.length := by
  unfold userWrite
  split
  · exact Nat.le_refl _
  · split
    · exact Nat.le_refl _
    · split
      · rename_i h
        rcases puts_or m path mode data true with h2 | h2
        · rw [h2.1]; exact Nat.le_refl _
        · exact absurd h2.2 h
      · exact Nat.zero_le _
theorem userRemove_pend (m : Fs) (path : B8) : (userRemove m path).1.pend.length ≤ m.pend.length := by
  unfold userRemove
  split
  · exact Nat.le_refl _
  · split
    · rename_i h
      rcases removes_or m path with h2 | h2
      · rw [h2.1]; exact Nat.le_refl _
      · exact absurd h2.2 h
    · exact Nat.zero_le _
theorem crash_pend (m : Fs) (keep torn : Int) : (crash m keep torn).pend.length ≤ m.pend.length := by
  unfold crash
  split
  · exact Nat.le_refl _
  · exact Nat.zero_le _

theorem counts_step {m : Fs} {o : Opn} (hp : m.plan = []) (h0 : 0 ≤ o.kind) (h1 : o.kind ≤ 11) : CountsOk m (stepM m o) o.kind := by
  obtain ⟨kind, mode, keep, torn, path, dest, data, plan⟩ := o
  simp only at h0 h1
  have hc := call_plain hp
  have hk : kind = 0 ∨ kind = 1 ∨ kind = 2 ∨ kind = 3 ∨ kind = 4 ∨ kind = 5 ∨ kind = 6 ∨ kind = 7 ∨ kind = 8 ∨ kind = 9 ∨ kind = 10 ∨ kind = 11 := by omega
  rcases hk with rfl | rfl | rfl | rfl | rfl | rfl | rfl | rfl | rfl | rfl | rfl | rfl
  · have := put_or (callM m) path mode data true
    rw [hc] at this
    exact counts_low (kind := 0) hp (by omega) this
  · have := put_or (callM m) path mode data false
    rw [hc] at this
    exact counts_low (kind := 1) hp (by omega) this
  · have := mv_or (callM m) path dest false
    rw [hc] at this
    exact counts_low (kind := 2) hp (by omega) this
  · have := mv_or (callM m) path dest true
    rw [hc] at this
    exact counts_low (kind := 3) hp (by omega) this
  · refine counts_low (kind := 4) hp (by omega) ?_
    show (removeM m path).1 = _ ∨ ∃ c, (removeM m path).1 = _
    unfold removeM
    split
    · exact .inl hc
    · rw [hc]
      rcases removes_or { m with calls := m.calls + 1 } path with h | h
      · exact .inl h.1
      · exact .inr h.1
  · refine counts_mid (kind := 5) hp (by omega) (by omega) ?_
    show (syncM m).1 = _ ∨ (syncM m).1 = _
    unfold syncM
    split
    · rw [hc]; exact .inr rfl
    · exact .inl hc
  · refine counts_mid (kind := 6) hp (by omega) (by omega) (.inl ?_)
    show (readM m path).1 = _
    rw [read_fst, hc]
  · refine counts_mid (kind := 7) hp (by omega) (by omega) (.inl ?_)
    show (listM m path).1 = _
    rw [list_fst, hc]
  · have ht := hap_time m ⟨0, 4, mode, 0, 0, path, data⟩
    have hq := hap_plan m ⟨0, 4, mode, 0, 0, path, data⟩
    exact counts_high (kind := 8) (by omega) ⟨hq.2.1, ht.1, ht.2, userWrite_pend m path mode data, hq.1.trans hp⟩
  · have ht := hap_time m ⟨0, 5, mode, 0, 0, path, data⟩
    have hq := hap_plan m ⟨0, 5, mode, 0, 0, path, data⟩
    exact counts_high (kind := 9) (by omega) ⟨hq.2.1, ht.1, ht.2, userRemove_pend m path, hq.1.trans hp⟩
  · have ht := hap_time m ⟨0, 1, 0, keep, torn, [], []⟩
    have hq := hap_plan m ⟨0, 1, 0, keep, torn, [], []⟩
    exact counts_high (kind := 10) (by omega) ⟨hq.2.1, ht.1, ht.2, crash_pend m keep torn, hq.1.trans hp⟩
  · exact counts_high (kind := 11) (by omega) ⟨rfl, Nat.le_refl _, Nat.le_succ _, Nat.le_refl _, hp⟩

end Go.Proofs.YtoajnaopainpnaaGreatDoor

/-! marlaw5.FsimCounts: true at any room and any operations. Conditions: as each theorem states. -/
namespace Go.Proofs.YtoajnaopainpnaaGreatDoor
open Go Go.RowKit
variable [Inhabited BaseW]

/-- What the loop holds. -/
def CRel (w0 w : World) (fv xv : Value) (k : Nat) : Prop := ∃ (S O O' : Nat → Prop) (m : Fs), Two w0 S O O' w fv xv m ∧ Good k m ∧ m.plan = []

theorem CRel.ext {w0 w w' : World} {fv xv : Value} {k : Nat} (h : CRel w0 w fv xv k) (hx : Ext w w') : CRel w0 w' fv xv k := by
  obtain ⟨S, O, O', m, h1, h2, h3⟩ := h
  exact ⟨S, O, O', m, h1.more hx, h2, h3⟩

set_option maxRecDepth 100000 in
set_option maxHeartbeats 16000000 in
theorem counts_any (room : Int) (v : Value) (l : List Opn) (w : World) (hb : Ext baseW w) (hE : Env w) (hr : I64 room) (hv : IsOps w v l) (hi : ∀ o ∈ l, I64 o.keep ∧ I64 o.torn ∧ ∀ e ∈ o.plan, I64 e.keep ∧ I64 e.torn) :
    Calls Tryz.prog 4 #[.int .i64 room, v] w fun e w' => e = .returned (.bool true) ∧ Ext w w' := by
  obtain ⟨a, cap, rfl, h1, h2, h3, h4⟩ := ops_cells hv
  have HV : Hid _ := hv
  have H4 : Hid _ := h4
  have HI : Hid _ := hi
  have HE : Hid _ := hE
  have HB : Hid _ := hb
  clear h4 hv hi hE hb
  go_enter Tryz.func4, Tryz.ntmps4
  go_wp2_with fail
  go_at_call 10
  refine (first_any w HE.out).mono ?_
  rintro e w1 ⟨rfl, hx1⟩
  have HE1 : Hid _ := HE.out.ext hx1
  go_wp2_with fail
  go_at_call 20
  by_cases hroom : room < 0 ∨ 1073741824 < room
  · refine (new_no room _ hroom).mono ?_
    rintro e w2 ⟨rfl, rfl⟩
    go_wp2_with fail
    go_at_call 21
    refine (newR_no room _ hroom).mono ?_
    rintro e w2 ⟨rfl, rfl⟩
    go_wp2_with fail
    go_at_call 10
    refine (first_any _ HE1.out).mono ?_
    rintro e w3 ⟨rfl, hx3⟩
    go_wp2
    go_ret
    exact ⟨rfl, hx1.trans hx3⟩
  · have hr0 : 0 ≤ room := by omega
    have hr1 : room ≤ 1073741824 := by omega
    refine (new_yes room _ hr0 hr1).mono ?_
    rintro e w2 ⟨⟨p, rfl, hf⟩, hx2⟩
    go_wp2_with fail
    go_at_call 21
    refine (newR_yes room _ hr0 hr1).mono ?_
    rintro e w3 ⟨⟨q, rfl, hq⟩, hx3⟩
    have HT : Hid _ := Two.base (Two.new hf hx2 hq hx3 (Ext.trans HB.out hx1)) hx1 HB.out
    obtain ⟨gf, rfl⟩ : ∃ g, p = .pointer (some ⟨g, 0, none⟩) := by
      obtain ⟨g, gm, gd, vp, vl, vu, L, c0, hpe, -⟩ := hf
      exact ⟨g, hpe⟩
    obtain ⟨gx, rfl⟩ := hq.ptr
    have HG0 : Hid (Good 0 (newM room)) := good_new hr0 hr1
    have hx13 := hx2.trans hx3
    have hx03 := hx1.trans hx13
    clear hf hq hx2 hx3
    go_wp2_with fail
    go_at_call 22
    refine (fewOps_any hx03 HV.out).mono ?_
    obtain ⟨fe, hfe⟩ : ∃ fe, fewOps l = fe := ⟨_, rfl⟩
    rw [hfe]
    have HFE : Hid _ := hfe
    clear hfe
    rintro e w4 ⟨rfl, hx4⟩
    cases fe with
    | false =>
      have HE4 : Hid _ := HE1.out.ext (hx13.trans hx4)
      go_wp2_with fail
      go_at_call 10
      refine (first_any _ HE4.out).mono ?_
      rintro e w5 ⟨rfl, hx5⟩
      go_wp2
      go_ret
      exact ⟨rfl, (hx03.trans hx4).trans hx5⟩
    | true =>
      have HFEW : Hid _ := few_ops HFE.out HI.out
      have hl100 := HFEW.out.1
      go_wp2_with fail
      go_loopw [9] (fun i wr => ∃ k : Nat, k ≤ l.length ∧ i = .int .i64 k ∧ Hid (CRel w wr (.pointer (some ⟨gf, 0, none⟩)) (.pointer (some ⟨gx, 0, none⟩)) k)) (fun i _ => l.length - (intOf i).toNat)
      case atStart => exact ⟨0, Nat.zero_le _, rfl, _, _, _, _, Two.more HT.out hx4, HG0.out, rfl⟩
      case round =>
        obtain ⟨k, hk, rfl, hC⟩ := hrel
        by_cases hlt : k < l.length
        · obtain ⟨E, he⟩ : ∃ e, l[k]? = some e := ⟨_, List.getElem?_eq_getElem hlt⟩
          obtain ⟨b, o, cs, rfl, hop, hc⟩ := H4.out k E he
          have HOP : Hid _ := hop
          have HOK : Hid (OpOk E) := HFEW.out.2 E (List.mem_of_getElem? he)
          obtain ⟨vd, vp, rfl, hd, hpl⟩ := hop
          obtain ⟨s1, s2, rfl, -⟩ := id hd.bytes
          obtain ⟨_, ⟨p1, p2, rfl, -⟩, -⟩ := id hpl
          obtain ⟨S, O, O', m, hT, hG, hP⟩ := hC.out
          have hxw := hT.ext
          have c0 := hxw.cell (hc 0 _ rfl)
          have c1 := hxw.cell (hc 1 _ rfl)
          have c2 := hxw.cell (hc 2 _ rfl)
          have c3 := hxw.cell (hc 3 _ rfl)
          have c4 := hxw.cell (hc 4 _ rfl)
          have c5 := hxw.cell (hc 5 _ rfl)
          have c6 := hxw.cell (hc 6 _ rfl)
          have c7 := hxw.cell (hc 7 _ rfl)
          simp only [Nat.add_zero] at c0
          obtain ⟨wb, hwb⟩ : ∃ wb, wb = wr.alloc (.cells #[.int .i64 E.kind, .int .i64 E.mode, .int .i64 E.keep, .int .i64 E.torn, S8 E.path, S8 E.dest, .slice s1 E.data.length s2, .slice p1 E.plan.length p2] 48) := ⟨_, rfl⟩
          have hxb : Ext wr wb := by rw [hwb]; exact (Ext.refl _).alloc _
          have hbb : wb.heap[wr.heap.size]? = some (.cells #[.int .i64 E.kind, .int .i64 E.mode, .int .i64 E.keep, .int .i64 E.torn, S8 E.path, S8 E.dest, .slice s1 E.data.length s2, .slice p1 E.plan.length p2] 48 (0, 0)) := by rw [hwb]; exact alloc_at _ _
          have HWB : Hid _ := hwb
          have HBB : Hid _ := hbb
          have HTB : Hid _ := Two.more hT hxb
          have HNO : Hid (¬ O wr.heap.size ∧ ¬ O' wr.heap.size) := ⟨fun h => by have := hT.lo _ h; omega, fun h => by have := hT.lo' _ h; omega⟩
          have HXB : Hid _ := hxb
          have HG : Hid _ := hG
          have HP : Hid _ := hP
          have HPL : Hid _ := hpl
          have HD : Hid _ := hd
          clear hwb hbb hT hG hP hpl hd hc he hC
          go_upto_region 11 with fail
          rw [show wr.alloc (.cells #[.int .i64 E.kind, .int .i64 E.mode, .int .i64 E.keep, .int .i64 E.torn, S8 E.path, S8 E.dest, .slice s1 E.data.length s2, .slice p1 E.plan.length p2] 48) = wb from HWB.out.symm]
          obtain ⟨b0, b1, b2, b3, b4, b5, b6, b7⟩ := cellsAt8 HBB.out
          clear c0 c1 c2 c3 c4 c5 c6 c7 hxw hxb
          by_cases hk0 : E.kind < 0
          · go_wp2
            go_roundw
            case rel => exact ⟨k + 1, by omega, by go_num, S, O, O', m, HTB.out, HG.out.mono (by omega), HP.out⟩
            case measure => simp [intOf]; omega
          · by_cases hk1 : (11 : Int) < E.kind
            · go_wp2
              go_roundw
              case rel => exact ⟨k + 1, by omega, by go_num, S, O, O', m, HTB.out, HG.out.mono (by omega), HP.out⟩
              case measure => simp [intOf]; omega
            · have HCS : Hid _ := counts_step (o := E) HP.out (by omega) (by omega)
              have HGN : Hid (Good (k + 1) (stepM m E)) := step_good HG.out HOK.out
              have htm := HG.out.time
              have hcl := HG.out.calls
              have htm' := HGN.out.time
              have hcl' := HGN.out.calls
              obtain ⟨C, hC⟩ : ∃ C, m.calls = C := ⟨_, rfl⟩
              obtain ⟨T, hT⟩ : ∃ T, m.time = T := ⟨_, rfl⟩
              obtain ⟨Q, hQ⟩ : ∃ Q, m.pend.length = Q := ⟨_, rfl⟩
              have hql : Q ≤ T := by have := HG.out.ok.lpend; omega
              have HC1 : Hid _ := hC
              have HT1 : Hid _ := hT
              have HQ1 : Hid _ := hQ
              rw [hT] at htm
              rw [hC] at hcl
              clear hC hT hQ
              go_wp2_with fail
              go_at_call 23
              refine (calls_any HTB.out.fs).mono ?_
              rw [HC1.out]
              rintro e w5 ⟨rfl, rfl⟩
              go_wp2_with fail
              go_at_call 17
              refine (now_any HTB.out.fs).mono ?_
              rw [HT1.out]
              rintro e w5 ⟨rfl, rfl⟩
              go_wp2_with fail
              go_at_call 24
              refine (pending_any HTB.out.fs HG.out.ok (by have := HG.out.time; omega)).mono ?_
              rw [HQ1.out]
              rintro e w5 ⟨rfl, rfl⟩
              go_wp2_with fail
              go_at_call 25
              refine (doesOp_any HTB.out HE.out HG.out (by omega) HOP.out HOK.out).mono ?_
              rintro e w6 ⟨rfl, S1, O1, O1', hT6, -, hfr⟩
              have hb6 := hfr.row HBB.out (fun h => h.elim HNO.out.1 HNO.out.2)
              obtain ⟨b0, b1, b2, b3, b4, b5, b6, b7⟩ := cellsAt8 hb6
              have HT6 : Hid _ := hT6
              clear hT6 hfr hb6
              go_wp2_with fail
              obtain ⟨m', hm'⟩ : ∃ m', stepM m E = m' := ⟨_, rfl⟩
              have hcs := HCS.out
              rw [hm'] at hcs htm' hcl'
              obtain ⟨x1, x2, x3, x4, x5, x6, x7⟩ := hcs
              rw [HC1.out] at x1
              rw [HT1.out] at x2 x3 x4 x6
              rw [HQ1.out] at x4 x5
              have hpd : m'.pend.length ≤ 900000 := by have := HGN.out.ok.lpend; rw [hm'] at this; omega
              have HREL : Hid (CRel w w6 (.pointer (some ⟨gf, 0, none⟩)) (.pointer (some ⟨gx, 0, none⟩)) (k + 1)) := ⟨_, _, _, _, HT6.out, HGN.out, by rw [hm']; exact x7⟩
              have HCA : Hid (∀ n, Calls Tryz.prog 23 #[.pointer (some ⟨gf, 0, none⟩)] (w6.drewN n) fun e w' => e = .returned (.int .i64 m'.calls) ∧ w' = w6.drewN n) := fun n => by
                have := calls_any (IsFs.ext HT6.out.fs (Ext.drawn w6 n))
                rwa [hm'] at this
              have HNA : Hid (∀ n, Calls Tryz.prog 17 #[.pointer (some ⟨gf, 0, none⟩)] (w6.drewN n) fun e w' => e = .returned (.int .i64 m'.time) ∧ w' = w6.drewN n) := fun n => by
                have := now_any (IsFs.ext HT6.out.fs (Ext.drawn w6 n))
                rwa [hm'] at this
              have HPA : Hid (∀ n, Calls Tryz.prog 24 #[.pointer (some ⟨gf, 0, none⟩)] (w6.drewN n) fun e w' => e = .returned (.int .i64 m'.pend.length) ∧ w' = w6.drewN n) := fun n => by
                have := pending_any (IsFs.ext HT6.out.fs (Ext.drawn w6 n)) HGN.out.ok (by have := HGN.out.time; omega)
                rwa [hm'] at this
              have HFA : Hid (∀ (b : Bool) (n : Nat), Calls Tryz.prog 26 #[.bool b] (w6.drewN n) fun e w' => e = .returned (.int .i64 (if b then 1 else 0)) ∧ w' = w6.drewN n) := fun b n => flag_any b _
              generalize m'.calls = C' at *
              generalize m'.time = T' at *
              generalize m'.pend.length = Q' at *
              clear hm' HCS HGN HT6 x7 HTB HNO HG HP HOK HOP HPL HD HXB
              have hwC : IntKind.i64.wrap ((C : Int) + 1) = (C : Int) + 1 := IntWalk.i64_in _ (by omega)
              have hwT : IntKind.i64.wrap ((T : Int) + 1) = (T : Int) + 1 := IntWalk.i64_in _ (by omega)
              have hwC0 : IntKind.i64.wrap (C : Int) = (C : Int) := IntWalk.i64_in _ (by omega)
              have hwQ0 : IntKind.i64.wrap (Q : Int) = (Q : Int) := IntWalk.i64_in _ (by omega)
              have hd1 : decide ((T : Int) + 1 < (T : Int)) = false := decide_eq_false (by omega)
              by_cases hk4 : E.kind ≤ 4
              · have x4 := x4 hk4
                have hk7 : E.kind ≤ 7 := by omega
                rw [if_pos hk7] at x1
                clear x5 x6
                have hCI : (C' : Int) = (C : Int) + 1 := by omega
                rw [hCI] at HCA
                clear hCI x1 hcl'
                have hTQ : ((T' : Int) = T ∧ (Q' : Int) = Q) ∨ ((T' : Int) = (T : Int) + 1 ∧ (Q' : Int) = (Q : Int) + 1) := by omega
                replace HFA : Hid (∀ n : Nat, Calls Tryz.prog 26 #[.bool true] (w6.drewN n) fun e w' => e = .returned (.int .i64 1) ∧ w' = w6.drewN n) := HFA.out true
                have hk4' : ¬ (4 : Int) < E.kind := by omega
                have hk5' : ¬ (5 : Int) ≤ E.kind := by omega
                clear x2 x3 x4
                rcases hTQ with ⟨hT, hQ⟩ | ⟨hT, hQ⟩
                · rw [hT] at HNA
                  rw [hQ] at HPA
                  clear hT hQ
                  have hw1 : IntKind.i64.wrap ((Q : Int) + (T : Int)) = (Q : Int) + (T : Int) := IntWalk.i64_in _ (by omega)
                  refine qw_drawn (by kernel_rfl) (by kernel_rfl) ?_
                  repeat (refine qw_step (fun K hK => ?_); go_simp; first | (refine hK _ ?_; clear hK K) | (apply Exists.intro; refine ⟨fun _ => ?_, hK _ ?_⟩; (first | (go_at_call 23; exact Calls.quiet_of_same (HCA.out _)) | (go_at_call 17; exact Calls.quiet_of_same (HNA.out _)) | (go_at_call 24; exact Calls.quiet_of_same (HPA.out _)) | (go_at_call 26; exact Calls.quiet_of_same (HFA.out _))); clear hK K))
                  refine qw_nil ?_
                  intro _ hw'
                  obtain ⟨nq, hw''⟩ := hw'
                  subst hw''
                  go_wp2
                  go_roundw
                  case rel => exact ⟨k + 1, by omega, by go_num, CRel.ext HREL.out (Ext.drawn _ _)⟩
                  case measure => simp [intOf]; omega
                · rw [hT] at HNA
                  rw [hQ] at HPA
                  clear hT hQ
                  have hw1 : IntKind.i64.wrap ((Q : Int) + ((T : Int) + 1)) = (Q : Int) + ((T : Int) + 1) := IntWalk.i64_in _ (by omega)
                  have hw2 : IntKind.i64.wrap ((Q : Int) + ((T : Int) + 1) - (T : Int)) = (Q : Int) + 1 := by rw [IntWalk.i64_in _ (by omega)]; omega
                  refine qw_drawn (by kernel_rfl) (by kernel_rfl) ?_
                  repeat (refine qw_step (fun K hK => ?_); go_simp; first | (refine hK _ ?_; clear hK K) | (apply Exists.intro; refine ⟨fun _ => ?_, hK _ ?_⟩; (first | (go_at_call 23; exact Calls.quiet_of_same (HCA.out _)) | (go_at_call 17; exact Calls.quiet_of_same (HNA.out _)) | (go_at_call 24; exact Calls.quiet_of_same (HPA.out _)) | (go_at_call 26; exact Calls.quiet_of_same (HFA.out _))); clear hK K))
                  refine qw_nil ?_
                  intro _ hw'
                  obtain ⟨nq, hw''⟩ := hw'
                  subst hw''
                  go_wp2
                  go_roundw
                  case rel => exact ⟨k + 1, by omega, by go_num, CRel.ext HREL.out (Ext.drawn _ _)⟩
                  case measure => simp [intOf]; omega
              · by_cases hk7 : E.kind ≤ 7
                · rw [if_pos hk7] at x1
                  have hCI : (C' : Int) = (C : Int) + 1 := by omega
                  have hTI : (T' : Int) = (T : Int) := by have := x6 (by omega) hk7; omega
                  have hQI : decide (Q < Q') = false := decide_eq_false (by have := x5 (by omega); omega)
                  rw [hCI] at HCA
                  rw [hTI] at HNA
                  clear hCI hTI x1 x2 x3 x4 x5 x6 hcl' hpd
                  replace HFA : Hid (∀ n : Nat, Calls Tryz.prog 26 #[.bool true] (w6.drewN n) fun e w' => e = .returned (.int .i64 1) ∧ w' = w6.drewN n) := HFA.out true
                  have hk4' : (4 : Int) < E.kind := by omega
                  have hk5' : (5 : Int) ≤ E.kind := by omega
                  refine qw_drawn (by kernel_rfl) (by kernel_rfl) ?_
                  repeat (refine qw_step (fun K hK => ?_); go_simp; first | (refine hK _ ?_; clear hK K) | (apply Exists.intro; refine ⟨fun _ => ?_, hK _ ?_⟩; (first | (go_at_call 23; exact Calls.quiet_of_same (HCA.out _)) | (go_at_call 17; exact Calls.quiet_of_same (HNA.out _)) | (go_at_call 24; exact Calls.quiet_of_same (HPA.out _)) | (go_at_call 26; exact Calls.quiet_of_same (HFA.out _))); clear hK K))
                  refine qw_nil ?_
                  intro _ hw'
                  obtain ⟨nq, hw''⟩ := hw'
                  subst hw''
                  go_wp2
                  go_roundw
                  case rel => exact ⟨k + 1, by omega, by go_num, CRel.ext HREL.out (Ext.drawn _ _)⟩
                  case measure => simp [intOf]; omega
                · rw [if_neg hk7] at x1
                  have hCI : (C' : Int) = (C : Int) := by omega
                  have hTQ : (T' : Int) = T ∨ (T' : Int) = (T : Int) + 1 := by omega
                  have hQI : decide (Q < Q') = false := decide_eq_false (by have := x5 (by omega); omega)
                  rw [hCI] at HCA
                  clear hCI x1 x2 x3 x4 x5 x6 hcl' hpd
                  replace HFA : Hid (∀ n : Nat, Calls Tryz.prog 26 #[.bool false] (w6.drewN n) fun e w' => e = .returned (.int .i64 0) ∧ w' = w6.drewN n) := HFA.out false
                  have hk4' : (4 : Int) < E.kind := by omega
                  have hk5' : (5 : Int) ≤ E.kind := by omega
                  rcases hTQ with hT | hT
                  · rw [hT] at HNA
                    clear hT
                    refine qw_drawn (by kernel_rfl) (by kernel_rfl) ?_
                    repeat (refine qw_step (fun K hK => ?_); go_simp; first | (refine hK _ ?_; clear hK K) | (apply Exists.intro; refine ⟨fun _ => ?_, hK _ ?_⟩; (first | (go_at_call 23; exact Calls.quiet_of_same (HCA.out _)) | (go_at_call 17; exact Calls.quiet_of_same (HNA.out _)) | (go_at_call 24; exact Calls.quiet_of_same (HPA.out _)) | (go_at_call 26; exact Calls.quiet_of_same (HFA.out _))); clear hK K))
                    refine qw_nil ?_
                    intro _ hw'
                    obtain ⟨nq, hw''⟩ := hw'
                    subst hw''
                    go_wp2
                    go_roundw
                    case rel => exact ⟨k + 1, by omega, by go_num, CRel.ext HREL.out (Ext.drawn _ _)⟩
                    case measure => simp [intOf]; omega
                  · rw [hT] at HNA
                    clear hT
                    refine qw_drawn (by kernel_rfl) (by kernel_rfl) ?_
                    repeat (refine qw_step (fun K hK => ?_); go_simp; first | (refine hK _ ?_; clear hK K) | (apply Exists.intro; refine ⟨fun _ => ?_, hK _ ?_⟩; (first | (go_at_call 23; exact Calls.quiet_of_same (HCA.out _)) | (go_at_call 17; exact Calls.quiet_of_same (HNA.out _)) | (go_at_call 24; exact Calls.quiet_of_same (HPA.out _)) | (go_at_call 26; exact Calls.quiet_of_same (HFA.out _))); clear hK K))
                    refine qw_nil ?_
                    intro _ hw'
                    obtain ⟨nq, hw''⟩ := hw'
                    subst hw''
                    go_wp2
                    go_roundw
                    case rel => exact ⟨k + 1, by omega, by go_num, CRel.ext HREL.out (Ext.drawn _ _)⟩
                    case measure => simp [intOf]; omega
        · have hkk : k = l.length := by omega
          subst hkk
          obtain ⟨S, O, O', m, hT, hG, hP⟩ := hC.out
          have hxw := hT.ext
          have HEr : Hid _ := HE.out.ext hxw
          clear hT hG hP hC
          go_wp2_with fail
          go_at_call 10
          refine (first_any _ HEr.out).mono ?_
          rintro e w5 ⟨rfl, hx5⟩
          go_wp2
          go_ret
          exact ⟨rfl, hxw.trans hx5⟩

end Go.Proofs.YtoajnaopainpnaaGreatDoor

/-! marlaw5.FsimCounts: whatever the input, the law returns true, and the input reads as it did: its row's statement and its tied card. Conditions: what the row lists: the library's variables hold what the program's text lays. -/
namespace Go.Proofs.YtoajnaopainpnaaGreatDoor.fsimCounts
open Go Go.ChangeShapes Go.WideShapes Go.ChangeAt Go.RowKit Go.Deep

set_option maxRecDepth 100000 in
theorem contract (H : Type) (enc : TypeId × Value → H) (W : World) (base : Nat) (args : Array Value) (ds gs : List (DataW H)) (before : List MemPlace)
    (hval : ∀ (j : Nat) t v, Tryz.f4.params[j]? = some t → args[j]? = some v → Value.okWide Tryz.prog W .any base t v)
    (hW : DataW.Whole enc Tryz.prog Tryz.f4.params.toList Rows.fsimCountsSpec.vars false W args.toList ds gs before)
    (hsz : (DataW.weightsEach Tryz.prog (Tryz.f4.params.toList ++ (OpenSpec.ofChange Rows.fsimCountsSpec).bare.plain.varTypes Tryz.prog) (ds ++ gs)).all (· ≤ reachBytes) = true)
    (hL : laidMetH Tryz.prog Rows.fsimCountsRow.laid W) (hS : W.ShapedOpen Tryz.prog) :
    Calls Tryz.prog 4 args W fun e W' => ∃ v, e = .returned v ∧ Rows.fsimCountsSpec.post enc Tryz.prog Tryz.f4 false true false false W args v W' := by
  have hW' := hW
  obtain ⟨p, q, hA0, hV, rfl, hfz, hnd⟩ := hW
  have hA : DataW.TrodAll enc Tryz.prog W 0 (fun _ => true) true Tryz.f4.params.toList args.toList ds p := hA0
  obtain ⟨rfl, rfl⟩ := trodVars_none hV
  clear hA0
  simp only [List.append_nil] at hW'
  have hE : Env W := env_of hS
  letI : Inhabited BaseW := ⟨⟨W⟩⟩
  have hBW : baseW = W := rfl
  have hBE : Ext baseW W := Ext.refl W
  have hAll := hA
  have hlt : ∀ x ∈ p, x.block < W.heap.size := fun x hx => by simpa using hW'.lt x (by simpa using hx)
  rw [Tryz.params4] at hA hval hsz
  obtain ⟨v0, vs0, d0, ds0, p0, q0, ha0, hd0, hp0, h0, hA⟩ := trodAll_cons hA
  obtain ⟨v1, vs1, d1, ds1, p1, q1, ha1, hd1, hp1, h1, hA⟩ := trodAll_cons hA
  obtain ⟨hn0, hn1, hn2⟩ := trodAll_nil hA
  subst hn0 hn1 hn2
  subst hp1 hd1 ha1
  subst hp0 hd0
  obtain rfl : args = #[v0, v1] := by cases args; simp_all
  clear ha0
  have hv0 := hval 0 3 v0 rfl rfl
  obtain ⟨n, rfl, -, -, hw0⟩ := open_int Tryz.underlying3 hv0 h0
  have hn : I64 n := i64_wf hw0
  have hv1 := hval 1 22 v1 rfl rfl
  obtain ⟨l, hl, hil⟩ := arg_ops (j := 1) hBW hv1 h1 hsz rfl rfl
  refine (counts_any n v1 l W hBE hE hn hl hil).mono fun e W' ⟨he, hg⟩ => ?_
  subst he
  have harg := trodAll_below laidOut hg hAll hlt (by rw [Tryz.params4]; exact fun t ht => by simp only [List.mem_cons, List.not_mem_nil, or_false] at ht; rcases ht with rfl | rfl <;> exact ⟨by kernel_rfl, of_decide_eq_true (by kernel_rfl)⟩)
  exact ⟨_, rfl, _, _, _, [], _, [], hW', trodAll_mk1 (shut_bool Tryz.underlying4 _), harg, rfl, hg.frame _, fun h => by cases h⟩

theorem laid_met (os : Os) : laidMetH Tryz.prog Rows.fsimCountsRow.laid ((World.laidAll Tryz.prog os Rows.fsimCountsRow.laid).forCall (fun _ _ => 0) ⟨#[], #[.int .i64 0, .slice none 0 0], []⟩).memory := by
  rw [MakeChecks.laidMetH_plain _ _ _ (by kernel_rfl)]
  exact laidMet_laidAll _ (by kernel_rfl) (by kernel_rfl)
theorem reads (os : Os) {H : Type} (enc : TypeId × Value → H) : ∃ places, DataW.whole enc Tryz.prog ((World.laidAll Tryz.prog os Rows.fsimCountsRow.laid).forCall (fun _ _ => 0) ⟨#[], #[.int .i64 0, .slice none 0 0], []⟩).memory Tryz.f4.params.toList Rows.fsimCountsSpec.vars false #[.int .i64 0, .slice none 0 0].toList 8 = some ([.lit (.int .i64 0), .nil], [], places) :=
  ⟨[], by kernel_rfl⟩

set_option maxRecDepth 100000 in
theorem lifted (os : Os) (started : os.Started) (H : Type) (enc : TypeId × Value → H) (F : Stop.Interp) :
    ReturnsInHanded {} Tryz.checked os 4 .any ((OpenSpec.ofChange Rows.fsimCountsSpec).preRow enc Tryz.prog Tryz.f4 Rows.fsimCountsRow.domain false Rows.fsimCountsRow.laid) (((OpenSpec.ofChange Rows.fsimCountsSpec).at F).post enc Tryz.prog Tryz.f4 false true false false) := by
  obtain ⟨places, hx⟩ := reads os enc
  refine returnsInHanded_of_row (C := Tryz.checked) (s := OpenSpec.ofChange Rows.fsimCountsSpec) own started (by kernel_rfl) Tryz.func4
    (witness_row_at (enc := enc) (C := Tryz.checked) false (World.laidAll Tryz.prog os Rows.fsimCountsRow.laid) #[.int .i64 0, .slice none 0 0] (World.laidAll_os _ _ _) (by kernel_rfl) (by kernel_rfl) (by kernel_rfl)
      (OpenSpec.preRow_of_cond 8 hx (by kernel_rfl) (fun k hk => by cases hk) (by kernel_rfl) (laid_met os))) ?_
  intro W base args ds gs before hval hW _ _ hsz hL hS _
  exact contract H enc W base args ds gs before hval hW hsz hL hS

theorem said : Rows.FsimCountsSaid :=
  OpenClaim.holds_of_cond 4 Tryz.f4 rfl rfl rfl rfl rfl rfl rfl ⟨rfl, rfl, rfl, rfl, rfl⟩ rfl rfl rfl rfl rfl (by kernel_rfl) Tryz.func4 (by kernel_rfl)
    (of_decide_eq_true (by kernel_rfl)) (by unfold Func.isWrapper; first | (rw [if_pos (by decide +kernel)]; kernel_rfl) | (rw [if_neg (by decide +kernel)]; exact ⟨rfl, rfl⟩))
    (fun os started H enc _ F => by rw [OpenClaim.pre_eq_preRow]; exact lifted os started H enc F)

theorem plain (f : FuncId) (fn : Func) (hf : Tryz.pinned.checked.prog.funcNamed "marline/marlaw5.FsimCounts" = some f) (hfn : Tryz.pinned.checked.prog.funcs[f]? = some fn) :
    false = Tryz.pinned.checked.prog.looks [] ∧ ∀ (j : Nat) t, fn.params[j]? = some t → Tryz.pinned.checked.prog.wantsStandIn t = false := by
  obtain rfl : f = 4 := Option.some.inj ((show Tryz.prog.funcNamed "marline/marlaw5.FsimCounts" = some 4 by kernel_rfl).symm.trans hf) |>.symm
  obtain rfl : fn = Tryz.f4 := (Option.some.inj (Tryz.func4.symm.trans hfn)).symm
  refine ⟨by kernel_rfl, fun j t ht => ?_⟩
  rw [Tryz.params4] at ht
  have hm : t ∈ [3, 22] := by simpa using Array.mem_of_getElem? ht
  simp only [List.mem_cons, List.not_mem_nil, or_false] at hm
  rcases hm with rfl | rfl
  · exact (show Tryz.prog.wantsStandIn 3 = false by kernel_rfl)
  · exact (show Tryz.prog.wantsStandIn 22 = false by kernel_rfl)

/-- The card. -/
theorem card : Rows.FsimCountsCardSaid :=
  Claim7.holds_tied_plain_at .later [] _ _ _ _ said (fun _ h => by cases h) (by kernel_rfl) (fun _ h => by cases h) fsimCounts_row_tie rfl ⟨rfl, rfl⟩ (by kernel_rfl) rfl plain (by kernel_rfl)

end Go.Proofs.YtoajnaopainpnaaGreatDoor.fsimCounts
