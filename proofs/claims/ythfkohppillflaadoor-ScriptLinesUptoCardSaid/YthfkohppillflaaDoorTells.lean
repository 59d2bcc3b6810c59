/- script.tells: may an act be told? Conditions: numbers of 64 bits, paths of at most 3000000 bytes. -/
import Derived.Test.YthfkohppillflaaDoorEvent
namespace Go.Proofs.YthfkohppillflaaDoor
open Go Go.RowKit

def evTold (e : Ev) : Bool := plainB e.path && (!(Lib.contains e.path [58]) && !(Lib.contains e.path [44]))
def tellsB (x : Ac) : Bool := x.events.all evTold && (decide (1 ≤ x.kind) && (decide (x.kind ≤ 8) && plainB x.path))

theorem contains_any (l c : B8) (w : World) (hE : Env w) (hl : l.length < 4294967281) :
    Calls Tryd.prog 53 #[S8 l, S8 c] w fun e w' => e = .returned (.bool (Lib.contains l c)) ∧ w' = w := by
  obtain ⟨m, hm⟩ := hE.maxl
  exact Tryd.strings_Contains ⟨l.toArray⟩ ⟨c.toArray⟩ m w hl hm

theorem tells_ev_no {x : Ac} {k : Nat} {e : Ev} (he : x.events[k]? = some e) (h : evTold e = false) : tellsB x = false := by
  have : x.events.all evTold = false := by
    rw [List.all_eq_false]
    exact ⟨e, List.mem_of_getElem? he, by rw [h]; simp⟩
  simp [tellsB, this]
theorem tells_snoc {l : List Ev} {k : Nat} {e : Ev} (he : l[k]? = some e) (h0 : (l.take k).all evTold = true) (h : evTold e = true) : (l.take (k + 1)).all evTold = true := by
  rw [List.take_add_one, he]
  simp [h0, h]

set_option maxRecDepth 100000 in
set_option maxHeartbeats 1000000 in
theorem tells_any (x : Ac) (cs : List Value) (w : World) (hE : Env w) (hx : IsAc w cs x) (hp : x.path.length ≤ 3000000) (hes : ∀ e ∈ x.events, e.path.length ≤ 3000000) :
    Calls Tryd.prog 29 #[.agg cs.toArray] w fun e w' => e = .returned (.bool (tellsB x)) ∧ Ext w w' := by
  obtain ⟨vd, vf, ve, rfl, hd, hf, he⟩ := hx
  obtain ⟨a, cap, rfl, h1, h2, h3, h4⟩ := he.get
  have H4 : Hid _ := h4
  have HE : Hid _ := hE
  have HP : Hid _ := hes
  clear h4 hE hd hf he hes
  go_enter Tryd.func29, Tryd.ntmps29
  go_wp2
  obtain ⟨w1, hw1⟩ : ∃ w1, w1 = (w.alloc (.cells #[.int .i64 x.kind, .int .i64 x.a, .int .i64 x.b, .int .i64 x.n, S8 x.path, vd, vf, .slice a x.events.length cap] 26)) := ⟨_, rfl⟩
  rw [← hw1]
  have hx1 : Ext w w1 := by rw [hw1]; exact (Ext.refl w).alloc _
  have c0 : w1.cell? ⟨w.heap.size, 0, none⟩ = some (.int .i64 x.kind) := by rw [hw1]; simp
  have c4 : w1.cell? ⟨w.heap.size, 4, none⟩ = some (S8 x.path) := by rw [hw1]; simp
  clear hw1
  go_loopw [8] (fun i wr => ∃ k : Nat, k ≤ x.events.length ∧ i = .int .i64 k ∧ (x.events.take k).all evTold = true ∧ Ext w1 wr) (fun i _ => x.events.length - (intOf i).toNat)
  case atStart => exact ⟨0, Nat.zero_le _, rfl, rfl, Ext.refl _⟩
  case round =>
    obtain ⟨k, hk, rfl, hall, hx⟩ := hrel
    have HA : Hid _ := hall
    clear hall
    by_cases hlt : k < x.events.length
    · obtain ⟨e, hee⟩ : ∃ e, x.events[k]? = some e := ⟨_, List.getElem?_eq_getElem hlt⟩
      obtain ⟨b, o, vd', rfl, hb, e0, e1, e2, e3, e4, e5, e6⟩ := H4.out k e hee
      have hep := HP.out e (List.mem_of_getElem? hee)
      have HX : Hid _ := hee
      clear hee
      have f0 := hx.cell (hx1.cell e0)
      have f1 := hx.cell (hx1.cell e1)
      have f2 := hx.cell (hx1.cell e2)
      have f3 := hx.cell (hx1.cell e3)
      have f4 := hx.cell (hx1.cell e4)
      have f5 := hx.cell (hx1.cell e5)
      have f6 := hx.cell (hx1.cell e6)
      have HEr : Hid _ := HE.out.ext (hx1.trans hx)
      clear e0 e1 e2 e3 e4 e5 e6
      obtain ⟨va, vc, rfl, -⟩ := hb
      cases hB1 : plainB e.path with
      | false =>
        have hno : tellsB x = false := tells_ev_no HX.out (by simp [evTold, hB1])
        have HN : Hid _ := hno
        clear hno
        go_wp2_with (go_at_call 52; go_must (refine (plain_any _ _ (HEr.out.ext (((Ext.refl _).alloc _))) (by omega)).mono ?_; rintro e' w2 ⟨rfl, hx2⟩))
        go_ret
        exact ⟨ret_b HN.out.symm, hx1.trans (hx.trans (((Ext.refl _).alloc _).trans hx2))⟩
      | true =>
        have h58 : ∃ q, Lib.contains e.path [58] = q := ⟨_, rfl⟩
        have h44 : ∃ q, Lib.contains e.path [44] = q := ⟨_, rfl⟩
        obtain ⟨q1, h58⟩ := h58
        obtain ⟨q2, h44⟩ := h44
        cases q1 with
        | true =>
          have hno : tellsB x = false := tells_ev_no HX.out (by simp [evTold, h58])
          have HN : Hid _ := hno
          clear hno
          go_wp2_with (first | (go_at_call 52; go_must (refine (plain_any _ _ (HEr.out.ext (((Ext.refl _).alloc _))) (by omega)).mono ?_; rintro e' w2 ⟨rfl, hx2⟩; have g5 := hx2.cell (a := ⟨wr.heap.size, 5, none⟩) (v := S8 e.path) (by simp))) | (go_at_call 53; go_must (refine (contains_any e.path [58] _ (HEr.out.ext (((Ext.refl _).alloc _).trans hx2)) (by omega)).mono ?_; rintro e' w3 ⟨rfl, rfl⟩)))
          go_ret
          exact ⟨ret_b HN.out.symm, hx1.trans (hx.trans (((Ext.refl _).alloc _).trans hx2))⟩
        | false =>
          go_wp2_with (first | (go_at_call 52; go_must (refine (plain_any _ _ (HEr.out.ext (((Ext.refl _).alloc _))) (by omega)).mono ?_; rintro e' w2 ⟨rfl, hx2⟩; have g5 := hx2.cell (a := ⟨wr.heap.size, 5, none⟩) (v := S8 e.path) (by simp))) | (go_at_call 53; (first | (refine (contains_any e.path [58] _ (HEr.out.ext (((Ext.refl _).alloc _).trans hx2)) (by omega)).mono ?_; rintro e' w3 ⟨rfl, rfl⟩) | (refine (contains_any e.path [44] _ (HEr.out.ext (((Ext.refl _).alloc _).trans hx2)) (by omega)).mono ?_; rintro e' w3 ⟨rfl, rfl⟩))))
          · have hq : q2 = true := by assumption
            rw [hq] at h44
            have hno : tellsB x = false := tells_ev_no HX.out (by simp [evTold, h44])
            go_ret
            exact ⟨ret_b hno.symm, hx1.trans (hx.trans (((Ext.refl _).alloc _).trans hx2))⟩
          · have hq : q2 = false := by assumption
            rw [hq] at h44
            have hyes : evTold e = true := by simp [evTold, h44, h58, hB1]
            go_roundw
            case rel => exact ⟨k + 1, by omega, by go_num, tells_snoc HX.out HA.out hyes, hx.trans (((Ext.refl _).alloc _).trans hx2)⟩
            case measure => simp [intOf]; omega
    · have hall : x.events.all evTold = true := by
        have := HA.out
        rwa [List.take_of_length_le (by omega)] at this
      have hT : tellsB x = (decide (1 ≤ x.kind) && (decide (x.kind ≤ 8) && plainB x.path)) := by simp [tellsB, hall]
      have HT : Hid _ := hT
      have d0 := hx.cell c0
      have d4 := hx.cell c4
      have HEr : Hid _ := HE.out.ext (hx1.trans hx)
      clear hT hall c0 c4
      by_cases hk1 : 1 ≤ x.kind
      · by_cases hk8 : x.kind ≤ 8
        · go_wp2_with (go_at_call 52; go_must (refine (plain_any _ _ HEr.out (by omega)).mono ?_; rintro e' w2 ⟨rfl, hx2⟩))
          go_ret
          exact ⟨ret_b (by rw [HT.out]; simp [hk1, hk8]), hx1.trans (hx.trans hx2)⟩
        · go_wp2
          go_ret
          exact ⟨ret_b (by rw [HT.out, decide_eq_false (show ¬ x.kind ≤ 8 by omega)]; simp), hx1.trans hx⟩
      · go_wp2
        go_ret
        exact ⟨ret_b (by rw [HT.out, decide_eq_false (show ¬ 1 ≤ x.kind by omega)]; simp), hx1.trans hx⟩

end Go.Proofs.YthfkohppillflaaDoor
