/- sha: words turned; the schedule of a block. Conditions: as each theorem states. -/
import Derived.Test.YtfimfbdlegookaaGreatDoorZad
import Derived.Test.YtfimfbdlegookaaGreatDoorCards
import Derived.Test.YtfimfbdlegookaaGreatDoorTie
import Derived.OpenShut
import Derived.LaidMore
import Derived.Lay
import Derived.Deep.DeepHandedRow
import Derived.Lib.LaidTab
import Derived.Stop.LaidErr
import Derived.ProofKit
import Derived.SizedLaws
import Derived.Deep.Slices
import Derived.Deep.Fields
import Derived.ChangeSame
import Derived.Test.YtfimfbdlegookaaGreatDoorZac
import Derived.Test.YtfimfbdlegookaaGreatDoorZaa
import Derived.Deep.QuietTactic
import Derived.Lib.QuietBelow

set_option linter.unusedVariables false
set_option linter.unusedSimpArgs false
set_option linter.unusedSectionVars false

/-! marref5: find, used: what is read of a list of files. Conditions: at most 10000000 files; short paths. -/
namespace Go.Proofs.YtfimfbdlegookaaGreatDoor
open Go Go.RowKit

theorem readL_get {α : Type} {t : TypeId} {w : World} {p : List Value → α → Prop} {v : Value} {xs : List α} (n : Nat) (hp : ∀ c x, p c x → c.length = n) (hn0 : 0 < n) (h : ReadL w t p v xs) : ∃ a cap, v = .slice a xs.length cap ∧ xs.length ≤ cap ∧ xs.length ≤ 140737488355328 ∧ cap ≤ 9223372036854775807 ∧
  ∀ (k : Nat) x, xs[k]? = some x → ∃ b o cs, a = some ⟨b, o, none⟩ ∧ p cs x ∧ ∀ j u, cs[j]? = some u → w.cell? ⟨b, o + k * n + j, none⟩ = some u := by
 obtain ⟨css, ⟨a, cap, rfl, h1, h2, h3, h4⟩, ht, he⟩ := h
 refine ⟨a, cap, rfl, h1, h3, h2, fun k x hk => ?_⟩
 have h7 : ∀ c ∈ css, c.length = n := fun c hc => by
  obtain ⟨i, hi, rfl⟩ := List.mem_iff_getElem.1 hc
  have hi2 : i < xs.length := by rw [← he.1]; exact hi
  exact hp _ _ (he.2 i css[i] xs[i] (List.getElem?_eq_getElem hi) (List.getElem?_eq_getElem hi2))
 have hkl : k < css.length := by rw [he.1]; exact (List.getElem?_eq_some_iff.1 hk).1
 have hev := he.2 k _ x (List.getElem?_eq_getElem hkl) hk
 have hf := fun j u hu => flat_get n css k j _ u h7 (List.getElem?_eq_getElem hkl) hu
 obtain ⟨b, o, rfl, hc⟩ := h4 (by
  intro hnil
  have h0 : (css[k])[0]? = some ((css[k])[0]'(by rw [hp _ _ hev]; exact hn0)) := List.getElem?_eq_getElem _
  have := hf 0 _ h0
  rw [hnil] at this
  simp at this)
 refine ⟨b, o, css[k], rfl, hev, fun j u hu => ?_⟩
 have := hc _ _ (hf j u hu)
 rwa [Nat.add_assoc, Nat.mul_comm k n]

theorem Row.stayN {w w' : World} {v : Value} {n : Nat} {cs : List Value} (h : Row w v n cs) (hb : cs ≠ [] → ∀ k, v.ownBlock = some k → w'.heap[k]? = w.heap[k]?) : Row w' v n cs := by
 obtain ⟨a, cap, rfl, h1, h2, h3, h4⟩ := h
 refine ⟨a, cap, rfl, h1, h2, h3, fun hn => ?_⟩
 obtain ⟨b, o, rfl, hc⟩ := h4 hn
 refine ⟨b, o, rfl, fun i u hu => ?_⟩
 rw [World.cell?_of_block (w := w) (w' := w') (a := ⟨b, o + i, none⟩) (hb hn b rfl)]
 exact hc i u hu
/-- A slice of another's, that is read alone: its block's type is not told. -/
def ReadO {α : Type} (w : World) (p : List Value → α → Prop) (v : Value) (xs : List α) : Prop := ∃ css : List (List Value), Row w v xs.length css.flatten ∧ (xs ≠ [] → ∀ k, v.ownBlock = some k → k < w.heap.size) ∧ Each p css xs
theorem ReadO.mono {α : Type} {w : World} {p q : List Value → α → Prop} {v : Value} {xs : List α} (h : ReadO w p v xs) (hpq : ∀ c x, p c x → q c x) : ReadO w q v xs := by
 obtain ⟨css, h1, h2, h3⟩ := h
 exact ⟨css, h1, h2, h3.imp hpq⟩
theorem ReadO.lt {α : Type} {w : World} {p : List Value → α → Prop} {v : Value} {xs : List α} (h : ReadO w p v xs) (hn : xs ≠ []) : ∀ k, v.ownBlock = some k → k < w.heap.size := by
 obtain ⟨css, h1, h2, h3⟩ := h
 exact h2 hn
theorem ReadO.stay {α : Type} {w w' : World} {p : List Value → α → Prop} {v : Value} {xs : List α} (h : ReadO w p v xs) (hs : w.heap.size ≤ w'.heap.size) (hb : xs ≠ [] → ∀ k, v.ownBlock = some k → w'.heap[k]? = w.heap[k]?) : ReadO w' p v xs := by
 obtain ⟨css, h1, h2, h3⟩ := h
 refine ⟨css, h1.stayN (fun hn => hb fun hx => hn ?_), fun hn k hk => Nat.lt_of_lt_of_le (h2 hn k hk) hs, h3⟩
 have : css = [] := List.eq_nil_of_length_eq_zero (by rw [h3.1, hx]; rfl)
 rw [this]; rfl
theorem readO_get {α : Type} {w : World} {p : List Value → α → Prop} {v : Value} {xs : List α} (n : Nat) (hp : ∀ c x, p c x → c.length = n) (hn0 : 0 < n) (h : ReadO w p v xs) : ∃ a cap, v = .slice a xs.length cap ∧ xs.length ≤ cap ∧ xs.length ≤ 140737488355328 ∧ cap ≤ 9223372036854775807 ∧
  ∀ (k : Nat) x, xs[k]? = some x → ∃ b o cs, a = some ⟨b, o, none⟩ ∧ p cs x ∧ ∀ j u, cs[j]? = some u → w.cell? ⟨b, o + k * n + j, none⟩ = some u := by
 obtain ⟨css, ⟨a, cap, rfl, h1, h2, h3, h4⟩, ht, he⟩ := h
 refine ⟨a, cap, rfl, h1, h3, h2, fun k x hk => ?_⟩
 have h7 : ∀ c ∈ css, c.length = n := fun c hc => by
  obtain ⟨i, hi, rfl⟩ := List.mem_iff_getElem.1 hc
  have hi2 : i < xs.length := by rw [← he.1]; exact hi
  exact hp _ _ (he.2 i css[i] xs[i] (List.getElem?_eq_getElem hi) (List.getElem?_eq_getElem hi2))
 have hkl : k < css.length := by rw [he.1]; exact (List.getElem?_eq_some_iff.1 hk).1
 have hev := he.2 k _ x (List.getElem?_eq_getElem hkl) hk
 have hf := fun j u hu => flat_get n css k j _ u h7 (List.getElem?_eq_getElem hkl) hu
 obtain ⟨b, o, rfl, hc⟩ := h4 (by
  intro hnil
  have h0 : (css[k])[0]? = some ((css[k])[0]'(by rw [hp _ _ hev]; exact hn0)) := List.getElem?_eq_getElem _
  have := hf 0 _ h0
  rw [hnil] at this
  simp at this)
 refine ⟨b, o, css[k], rfl, hev, fun j u hu => ?_⟩
 have := hc _ _ (hf j u hu)
 rwa [Nat.add_assoc, Nat.mul_comm k n]

/-- A file of a list, in its cells. -/
theorem rows_get {R : Nat → Prop} {w : World} {v : Value} {l : Files} (h : IsRows R w v l) : ∃ a cap, v = .slice a l.length cap ∧ l.length ≤ cap ∧ l.length ≤ 140737488355328 ∧ cap ≤ 9223372036854775807 ∧
  ∀ (k : Nat) q f, l[k]? = some (q, f) → ∃ b o s c, a = some ⟨b, o, none⟩ ∧ q.length ≤ 1000000 ∧ IsData R w (.slice s f.data.length c) f.data ∧ w.cell? ⟨b, o + k * 4, none⟩ = some (S8 q) ∧ w.cell? ⟨b, o + k * 4 + 1, none⟩ = some (.int .i64 f.mode) ∧ w.cell? ⟨b, o + k * 4 + 2, none⟩ = some (.slice s f.data.length c) ∧ w.cell? ⟨b, o + k * 4 + 3, none⟩ = some (.int .i64 f.time) := by
 obtain ⟨a, cap, h1, h2, h3, h4, h5⟩ := readL_get 4 (fun c x hx => hx.length.1) (by omega) h
 refine ⟨a, cap, h1, h2, h3, h4, fun k q f hk => ?_⟩
 obtain ⟨b, o, cs, ha, ⟨hq, vd, rfl, hd⟩, hc⟩ := h5 k (q, f) hk
 obtain ⟨s, c, rfl, -⟩ := id hd.bytes
 exact ⟨b, o, s, c, ha, hq, hd, hc 0 _ rfl, hc 1 _ rfl, hc 2 _ rfl, hc 3 _ rfl⟩

theorem tl (l : B8) : (⟨l.toArray⟩ : ByteArray).toList = l := Lib.toList_data _

set_option maxRecDepth 100000 in
set_option maxHeartbeats 1000000 in
theorem find_any {R : Nat → Prop} {w : World} {v : Value} {l : Files} (p : B8) (hv : IsRows R w v l) :
  Calls Tryz.prog 164 #[v, S8 p] w fun e w' => (∃ i : Int, e = .returned (.int .i64 i) ∧ PlaceOf l p i) ∧ Ext w w' := by
 obtain ⟨a, cap, rfl, h1, h2, h3, h4⟩ := rows_get hv
 have H4 : Hid _ := h4
 have htp := tl p
 clear h4 hv
 go_enter Tryz.func164, Tryz.ntmps164
 go_wp2
 go_loopw [5] (fun i wr => ∃ k : Nat, k ≤ l.length ∧ i = .int .i64 k ∧ (∀ e ∈ l.take k, e.1 ≠ p) ∧ Ext w wr) (fun i _ => l.length - (intOf i).toNat)
 case atStart => exact ⟨0, Nat.zero_le _, rfl, by simp, Ext.refl _⟩
 case round =>
  obtain ⟨k, hk, rfl, hn, hx⟩ := hrel
  have HN : Hid _ := hn
  clear hn
  by_cases hlt : k < l.length
  ·obtain ⟨⟨q, f⟩, hke⟩ : ∃ e, l[k]? = some e := ⟨_, List.getElem?_eq_getElem hlt⟩
   obtain ⟨b, o, s, c, rfl, hql, hd, c0, -, -, -⟩ := H4.out k q f hke
   replace c0 := hx.cell c0
   have HK : Hid _ := hke
   have htq := tl q
   clear hd hke
   obtain ⟨bq, hbq⟩ : ∃ bq, (q == p) = bq := ⟨_, rfl⟩
   cases bq with
   | true =>
    go_wp2
    go_ret
    have hqp : q = p := by simpa using hbq
    subst hqp
    exact ⟨⟨_, rfl, .inr ⟨k, f, rfl, HK.out, look_at HN.out HK.out⟩⟩, hx⟩
   | false =>
    have HB : Hid (q ≠ p) := by simpa [Hid] using hbq
    go_wp2
    go_roundw
    case rel => exact ⟨k + 1, by omega, by go_num, take_ne_snoc HN.out HK.out HB.out, hx⟩
    case measure => simp [intOf]; omega
  ·have hkk : k = l.length := by omega
   subst hkk
   go_wp2
   go_ret
   have hn := HN.out
   rw [List.take_length] at hn
   exact ⟨⟨_, rfl, .inl ⟨look_none hn, rfl⟩⟩, hx⟩

set_option maxRecDepth 100000 in
set_option maxHeartbeats 1000000 in
theorem usedR_any {R : Nat → Prop} {w : World} {v : Value} {l : Files} (hv : IsRows R w v l) (hu : usedF l ≤ 1000000000000) :
  Calls Tryz.prog 163 #[v] w fun e w' => e = .returned (.int .i64 (usedF l)) ∧ Ext w w' := by
 obtain ⟨a, cap, rfl, h1, h2, h3, h4⟩ := rows_get hv
 have H4 : Hid _ := h4
 obtain ⟨U, hU⟩ : ∃ U, usedF l = U := ⟨_, rfl⟩
 have HU : Hid _ := hU
 rw [hU] at hu
 clear h4 hv hU
 go_enter Tryz.func163, Tryz.ntmps163
 go_wp2
 go_loopw [3, 4] (fun n i wr => ∃ k m : Nat, k ≤ l.length ∧ i = .int .i64 k ∧ n = .int .i64 m ∧ m ≤ U ∧ usedF (l.take k) = m ∧ Ext w wr) (fun _ i _ => l.length - (intOf i).toNat)
 case atStart => exact ⟨0, 0, Nat.zero_le _, rfl, rfl, Nat.zero_le _, rfl, Ext.refl _⟩
 case round =>
  obtain ⟨k, m, hk, rfl, rfl, hmu, hm, hx⟩ := hrel
  have HM : Hid _ := hm
  clear hm
  by_cases hlt : k < l.length
  ·obtain ⟨⟨q, f⟩, hke⟩ : ∃ e, l[k]? = some e := ⟨_, List.getElem?_eq_getElem hlt⟩
   obtain ⟨b, o, s, c, rfl, hql, hd, -, -, c2, -⟩ := H4.out k q f hke
   replace c2 := hx.cell c2
   have hst := used_take hke
   have hle := @used_take_le l (k + 1)
   rw [hst, HM.out, HU.out] at hle
   rw [HM.out] at hst
   dsimp only at hst hle
   have HS : Hid _ := hst
   clear hd hke hst
   go_wp2
   go_roundw
   case rel => exact ⟨k + 1, m + f.data.length, by omega, by go_num, by go_num, hle, HS.out, hx⟩
   case measure => simp [intOf]; omega
  ·have hkk : k = l.length := by omega
   subst hkk
   go_wp2
   go_ret
   have hn := HM.out
   rw [List.take_length] at hn
   exact ⟨ret_i (by rw [hn]), hx⟩

end Go.Proofs.YtfimfbdlegookaaGreatDoor

/-! marlaw5: an operation of both file systems, in plain Lean. Conditions: as each theorem states. -/
namespace Go.Proofs.YtfimfbdlegookaaGreatDoor
open Go Go.RowKit

structure Opn where
 (kind mode keep torn : Int)
 (path dest data : B8)
 (plan : List Ev)
structure OpOk (o : Opn) : Prop where
 path : o.path.length ≤ 400
 dest : o.dest.length ≤ 400
 few : o.plan.length ≤ 60
 ev : ∀ e ∈ o.plan, I64 e.keep ∧ I64 e.torn ∧ e.path.length ≤ 400
 keep : I64 o.keep
 torn : I64 o.torn
def stepM (m : Fs) (o : Opn) : Fs :=
 if o.kind = 0 then (createM m o.path o.mode o.data).1
 else if o.kind = 1 then (writeM m o.path o.mode o.data).1
 else if o.kind = 2 then (moveM m o.path o.dest false).1
 else if o.kind = 3 then (moveM m o.path o.dest true).1
 else if o.kind = 4 then (removeM m o.path).1
 else if o.kind = 5 then (syncM m).1
 else if o.kind = 6 then (readM m o.path).1
 else if o.kind = 7 then (listM m o.path).1
 else if o.kind = 8 then (userWrite m o.path o.mode o.data).1
 else if o.kind = 9 then (userRemove m o.path).1
 else if o.kind = 10 then crash m o.keep o.torn
 else if o.kind = 11 then rebootM m
 else if o.kind = 12 then planM m o.plan
 else m

/-! ### What an operation leaves, in numbers -/
theorem call_leftN {m : Fs} (h : OkM m) {N : Nat} (hn : m.plan.length ≤ N) : Left m (callM m).1 N ∧ (callM m).1.calls = m.calls + 1 := by
 obtain ⟨x, hx, he⟩ := call_mid h
 rw [he]
 exact ⟨⟨hx.ok, by have := hx.time; omega, hx.time0, hx.plan, hx.room⟩, hx.calls⟩
theorem left_putN {m : Fs} {path : B8} {mode : Int} {data : B8} {only : Bool} (h : OkM m) {N : Nat} (hn : m.plan.length ≤ N) : Left m (putM (callM m) path mode data only).1 (N + 1) := by
 have hc := (call_leftN h hn).1
 unfold putM
 split
 ·exact hc.mono (by omega)
 ·split
  ·exact hc.mono (by omega)
  ·rename_i hw
   have hw0 := wrong_zero (by simpa using hw)
   split
   ·exact hc.mono (by omega)
   ·exact hc.trans (left_puts hc.ok hw0.1 hw0.2.2.2)
theorem left_moveN {m : Fs} {s d : B8} {fresh : Bool} (h : OkM m) {N : Nat} (hn : m.plan.length ≤ N) : Left m (moveM m s d fresh).1 (N + 1) := by
 have hc := (call_leftN h hn).1
 unfold moveM mvM
 split
 ·exact hc.mono (by omega)
 ·split
  ·exact hc.mono (by omega)
  ·rename_i hpb
   split
   ·exact hc.mono (by omega)
   ·rename_i hs
    split
    ·exact hc.mono (by omega)
    ·split
     ·exact hc.mono (by omega)
     ·rename_i hne
      split
      ·exact hc.mono (by omega)
      ·refine hc.trans (left_does hc.ok ?_ (fun s' d' e => ?_))
       ·simp only [not_or, Bool.not_eq_false] at hpb
        exact ⟨hpb.1, hpb.2, hne⟩
       ·cases e
        cases hl : look (callM m).1.now s with
        | none => rw [hl] at hs; simp at hs
        | some f => rfl
theorem left_removeN {m : Fs} {path : B8} (h : OkM m) {N : Nat} (hn : m.plan.length ≤ N) : Left m (removeM m path).1 (N + 1) := by
 have hc := (call_leftN h hn).1
 unfold removeM
 split
 ·exact hc.mono (by omega)
 ·exact hc.trans (left_removes hc.ok)
theorem left_syncN {m : Fs} (h : OkM m) {N : Nat} (hn : m.plan.length ≤ N) : Left m (syncM m).1 (N + 1) := by
 have hc := (call_leftN h hn).1
 unfold syncM
 split
 ·exact (hc.trans (left_settle hc.ok)).mono (by omega)
 ·exact hc.mono (by omega)
theorem read_fst (m : Fs) (path : B8) : (readM m path).1 = (callM m).1 := by
 unfold readM
 split
 ·rfl
 ·split
  ·rfl
  ·split <;> rfl
theorem list_fst (m : Fs) (path : B8) : (listM m path).1 = (callM m).1 := by
 unfold listM
 split
 ·rfl
 ·split
  ·rfl
  ·split <;> rfl

/-- What holds of a file system behind n operations. -/
structure Good (n : Nat) (m : Fs) : Prop where
 ok : OkM m
 plan : PlanOk m
 few : m.plan.length ≤ 60
 time : m.time ≤ 400 * n
 calls : m.calls ≤ 500 * n
 room0 : 0 ≤ m.room
 room1 : m.room ≤ 1073741824
theorem Good.left {n : Nat} {m m' : Fs} (h : Good n m) (hl : Left m m' 61) (hc : m'.calls ≤ m.calls + 1) : Good (n + 1) m' :=
 ⟨hl.ok, ⟨by rw [hl.plan]; exact h.plan.len, by rw [hl.plan]; exact h.plan.ev⟩, by rw [hl.plan]; exact h.few, by have := hl.time; have := h.time; omega, by have := h.calls; omega, by rw [hl.room]; exact h.room0, by rw [hl.room]; exact h.room1⟩

theorem put_calls (m : Fs) (path : B8) (mode : Int) (data : B8) (only : Bool) : (putM (callM m) path mode data only).1.calls = (callM m).1.calls := by
 unfold putM
 split
 ·rfl
 ·split
  ·rfl
  ·split
   ·rfl
   ·unfold putsM
    split
    ·rfl
    ·split <;> rfl
theorem move_calls (m : Fs) (s d : B8) (fresh : Bool) : (moveM m s d fresh).1.calls = (callM m).1.calls := by
 unfold moveM mvM
 split
 ·rfl
 ·split
  ·rfl
  ·split
   ·rfl
   ·split
    ·rfl
    ·split
     ·rfl
     ·split <;> rfl
theorem remove_calls (m : Fs) (path : B8) : (removeM m path).1.calls = (callM m).1.calls := by
 unfold removeM
 split
 ·rfl
 ·unfold removesM
  split
  ·rfl
  ·split <;> rfl
theorem sync_calls (m : Fs) : (syncM m).1.calls = (callM m).1.calls := by
 unfold syncM
 split <;> rfl
theorem planM_ok {m : Fs} (h : OkM m) (L : List Ev) : OkM (planM m L) := h.same rfl rfl rfl h.lusers (Nat.le_refl _)
theorem reboot_ok {m : Fs} (h : OkM m) : OkM (rebootM m) := h.same rfl rfl rfl h.lusers (Nat.le_refl _)
theorem Good.mono {n k : Nat} {m : Fs} (h : Good n m) (hk : n ≤ k) : Good k m := ⟨h.ok, h.plan, h.few, by have := h.time; omega, by have := h.calls; omega, h.room0, h.room1⟩
end Go.Proofs.YtfimfbdlegookaaGreatDoor

/-! marlaw5.FewEvents, Few: are events, operations few and small? Conditions: as each theorem states. -/
namespace Go.Proofs.YtfimfbdlegookaaGreatDoor
open Go Go.RowKit
variable [Inhabited BaseW]

theorem ReadO.dRead {w : World} {v : Value} {L : List Ev} (h : ReadO w IsEvD v L) (hx : Ext baseW w) : ReadB w v L := by
 obtain ⟨css, h1, _, h2⟩ := h
 exact ⟨css, h1, h2.imp (fun c x hc => hc.read hx)⟩
theorem ReadO.dExt {p : List Value → Ev → Prop} {w w' : World} {v : Value} {L : List Ev} (h : ReadO w p v L) (hx : Ext w w') : ReadO w' p v L := h.stay hx.size (fun hn k hk => hx.block k (h.lt hn k hk))
theorem ReadO.dUp {w : World} {v : Value} {L : List Ev} (h : ReadO w IsEvI v L) (hp : ∀ e ∈ L, e.path.length ≤ 400) : ReadO w IsEvD v L := by
 obtain ⟨css, h1, h2, h3, h4⟩ := h
 exact ⟨css, h1, h2, h3, fun i c x hc hx => (h4 i c x hc hx).up (hp x (List.mem_of_getElem? hx))⟩

/-- An operation, in its cells. -/
def IsOpn (w : World) (cs : List Value) (o : Opn) : Prop := ∃ vd vp, cs = [.int .i64 o.kind, .int .i64 o.mode, .int .i64 o.keep, .int .i64 o.torn, S8 o.path, S8 o.dest, vd, vp] ∧ OldB vd o.data ∧ ReadO w IsEvI vp o.plan
/-! ### FewEvents -/
def evW (n : Nat) (e : Ev) : Nat := min (n + min e.data.length 40000 + min e.path.length 1000) 160000
def fewEv (es : List Ev) : Bool := decide (es.length ≤ 60) && (es.all (fun e => decide (e.path.length ≤ 400)) && decide (es.foldl evW 0 ≤ 40000))
theorem evW_snoc {l : List Ev} {k : Nat} {e : Ev} (h : l[k]? = some e) : (l.take (k + 1)).foldl evW 0 = evW ((l.take k).foldl evW 0) e := by
 have hk := (List.getElem?_eq_some_iff.1 h)
 obtain ⟨hlt, rfl⟩ := hk
 rw [List.take_succ_eq_append_getElem hlt, List.foldl_append]
 rfl
theorem few_snoc {l : List Ev} {k : Nat} {e : Ev} (h : l[k]? = some e) (h0 : (l.take k).all (fun e => decide (e.path.length ≤ 400)) = true) (h1 : e.path.length ≤ 400) : (l.take (k + 1)).all (fun e => decide (e.path.length ≤ 400)) = true := by
 obtain ⟨hlt, rfl⟩ := (List.getElem?_eq_some_iff.1 h)
 rw [List.take_succ_eq_append_getElem hlt]
 simp only [List.all_append, h0, List.all_cons, List.all_nil, Bool.and_true, Bool.true_and, decide_eq_true_eq]
 exact h1
theorem few_no {l : List Ev} {k : Nat} {e : Ev} (h : l[k]? = some e) (h1 : ¬ e.path.length ≤ 400) : fewEv l = false := by
 have : l.all (fun e => decide (e.path.length ≤ 400)) = false := by
  rw [List.all_eq_false]
  exact ⟨e, List.mem_of_getElem? h, by simpa using h1⟩
 unfold fewEv
 rw [this]
 simp

set_option maxRecDepth 100000 in
set_option maxHeartbeats 2000000 in
theorem fewEvents_any {w : World} {v : Value} {l : List Ev} (hv : ReadO w IsEvI v l) :
  Calls Tryz.prog 23 #[v] w fun e w' => e = .returned (.bool (fewEv l)) ∧ Ext w w' := by
 obtain ⟨a, cap, rfl, h1, h2, h3, h4⟩ := readO_get 7 (fun c x hx => hx.length.1) (by omega) hv
 have H4 : Hid _ := h4
 clear h4 hv
 go_enter Tryz.func23, Tryz.ntmps23
 go_wp2
 go_loopw [3, 4] (fun n i wr => ∃ k m : Nat, Ext w wr ∧ k ≤ l.length ∧ k ≤ 60 ∧ i = .int .i64 k ∧ n = .int .i64 m ∧ m ≤ 160000 ∧ (l.take k).foldl evW 0 = m ∧ (l.take k).all (fun e => decide (e.path.length ≤ 400)) = true) (fun _ i _ => l.length - (intOf i).toNat)
 case atStart => exact ⟨0, 0, Ext.refl _, Nat.zero_le _, by omega, rfl, rfl, by omega, rfl, rfl⟩
 case round =>
  obtain ⟨k, m, hx, hk, hk6, rfl, rfl, hm, hfd, hal⟩ := hrel
  have HX : Hid _ := hx
  have HF : Hid _ := hfd
  have HA : Hid _ := hal
  clear hfd hal
  by_cases hlt : k < l.length
  ·by_cases h60 : k < 60
   ·obtain ⟨E, he⟩ : ∃ e, l[k]? = some e := ⟨_, List.getElem?_eq_getElem hlt⟩
    obtain ⟨b, o, cs, rfl, hev, hc⟩ := H4.out k E he
    obtain ⟨vd, rfl, hd⟩ := hev
    obtain ⟨s1, s2, rfl, -⟩ := id hd.bytes
    have c5 := hx.cell (hc 5 _ rfl)
    have c6 := hx.cell (hc 6 _ rfl)
    have HE : Hid _ := he
    have hdl := hd.bytes.len
    obtain ⟨d', hd'⟩ : ∃ d', min E.data.length 40000 = d' := ⟨_, rfl⟩
    obtain ⟨p', hp'⟩ : ∃ p', min E.path.length 1000 = p' := ⟨_, rfl⟩
    obtain ⟨n', hn'⟩ : ∃ n', min (m + d' + p') 160000 = n' := ⟨_, rfl⟩
    have hmd : min (E.data.length : Int) 40000 = (d' : Int) := by omega
    have hmp : min (E.path.length : Int) 1000 = (p' : Int) := by omega
    have hmn : min ((m : Int) + d' + p') 160000 = (n' : Int) := by omega
    have hdl' : d' ≤ 40000 := by omega
    have hpl' : p' ≤ 1000 := by omega
    have hnl : n' ≤ 160000 := by omega
    have hw1 : IntKind.i64.wrap ((m : Int) + (d' : Int)) = (m : Int) + d' := IntWalk.i64_in _ (by omega)
    have hw2 : IntKind.i64.wrap ((m : Int) + (d' : Int) + (p' : Int)) = (m : Int) + d' + p' := IntWalk.i64_in _ (by omega)
    have HN : Hid (evW m E = n') := by unfold Hid evW; rw [hd', hp', hn']
    clear hd he hd' hp' hn' hc
    by_cases h4 : E.path.length ≤ 400
    ·have h4i : ¬ (400 : Int) < (E.path.length : Int) := by omega
     have H40 : Hid _ := h4
     clear h4
     go_wp2_with fail
     apply wp_region_mix 18 [_, _, _, _, _, _, _, _, _, _, _, _, _, _, _, _, _, .int .i64 n'] [none, none, none, none, none, none, none, none, none, none, none, none, none, none, none, none, none, none] [[], [], [], [1, 2], [3], [4], [5], [6], [0, 7], [], [], [9, 10], [11], [12], [13], [14], [8, 15], [16]] (by kernel_rfl) (by kernel_rfl) (by simp [mixV])
     ·trivial
     ·simp (maxSteps := 1000000) only [List.take_succ_cons, List.take_zero, oblFrom, stepObl, fillFrom, Act.put, List.setIfInBounds_toArray, List.set_cons_zero, List.set_cons_succ, knows, getV, mixV, List.getD_cons_zero, List.getD_cons_succ, and_true, true_and, forall_const]
      refine ⟨?_, ?_, ?_, ?_, ?_, ?_, ?_, ?_, ?_, ?_, ?_, ?_, ?_, ?_, ?_, ?_, ?_, ?_⟩
      ·intro xs wq hq R hR
       have f5 := hq.cell c5; have f6 := hq.cell c6
       go_simp
       exact hR _ _ (Ext.refl _) rfl
      ·intro xs wq hq R hR
       have f5 := hq.cell c5; have f6 := hq.cell c6
       go_simp
       exact hR _ _ (Ext.refl _) rfl
      ·intro xs wq hq R hR
       have f5 := hq.cell c5; have f6 := hq.cell c6
       go_simp
       exact hR _ _ (Ext.refl _) rfl
      ·intro xs wq hq hk R hR
       obtain ⟨hk0, hk1⟩ := hk
       have f5 := hq.cell c5; have f6 := hq.cell c6
       go_simp
       exact hR _ _ (Ext.refl _) rfl
      ·intro xs wq hq hk R hR
       have f5 := hq.cell c5; have f6 := hq.cell c6
       go_simp
       exact hR _ _ (Ext.refl _) rfl
      ·intro xs wq hq hk R hR
       have f5 := hq.cell c5; have f6 := hq.cell c6
       go_simp
       exact hR _ _ (Ext.refl _) rfl
      ·intro xs wq hq hk R hR
       have f5 := hq.cell c5; have f6 := hq.cell c6
       go_simp
       exact hR _ _ (Ext.refl _) rfl
      ·intro xs wq hq hk R hR
       have f5 := hq.cell c5; have f6 := hq.cell c6
       go_simp
       exact hR _ _ (Ext.refl _) rfl
      ·intro xs wq hq hk R hR
       obtain ⟨hk0, hk1⟩ := hk
       have f5 := hq.cell c5; have f6 := hq.cell c6
       go_simp
       exact hR _ _ (Ext.refl _) rfl
      ·intro xs wq hq R hR
       have f5 := hq.cell c5; have f6 := hq.cell c6
       go_simp
       exact hR _ _ (Ext.refl _) rfl
      ·intro xs wq hq R hR
       have f5 := hq.cell c5; have f6 := hq.cell c6
       go_simp
       exact hR _ _ (Ext.refl _) rfl
      ·intro xs wq hq hk R hR
       obtain ⟨hk0, hk1⟩ := hk
       have f5 := hq.cell c5; have f6 := hq.cell c6
       go_simp
       exact hR _ _ (Ext.refl _) rfl
      ·intro xs wq hq hk R hR
       have f5 := hq.cell c5; have f6 := hq.cell c6
       go_simp
       exact hR _ _ (Ext.refl _) rfl
      ·intro xs wq hq hk R hR
       have f5 := hq.cell c5; have f6 := hq.cell c6
       go_simp
       exact hR _ _ (Ext.refl _) rfl
      ·intro xs wq hq hk R hR
       have f5 := hq.cell c5; have f6 := hq.cell c6
       go_simp
       exact hR _ _ (Ext.refl _) rfl
      ·intro xs wq hq hk R hR
       have f5 := hq.cell c5; have f6 := hq.cell c6
       go_simp
       exact hR _ _ (Ext.refl _) rfl
      ·intro xs wq hq hk R hR
       obtain ⟨hk0, hk1⟩ := hk
       have f5 := hq.cell c5; have f6 := hq.cell c6
       go_simp
       exact hR _ _ (Ext.refl _) rfl
      ·intro xs wq hq hk R hR
       have f5 := hq.cell c5; have f6 := hq.cell c6
       go_simp
       exact hR _ _ (Ext.refl _) rfl
     intro xs w2 hx2 hk
     simp only [heldV, Nat.zero_add, Nat.reduceAdd, and_true] at hk
     obtain ⟨q0, q1, q2, q3, q4, q5, q6, q7, q8, q9, q10, q11, q12, q13, q14, q15, q16, q17⟩ := hk
     simp (maxSteps := 1000000) only [List.take_succ_cons, List.take_zero, List.drop_succ_cons, List.drop_zero, fillFrom, Act.put, List.setIfInBounds_toArray, List.set_cons_zero, List.set_cons_succ, Nat.zero_add, Nat.reduceAdd, q0, q1, q2, q3, q4, q5, q6, q7, q8, q9, q10, q11, q12, q13, q14, q15, q16, q17]
     clear q0 q1 q2 q3 q4 q5 q6 q7 q8 q9 q10 q11 q12 q13 q14 q15 q16 q17
     have hxr := Ext.trans HX.out hx2
     replace c5 := hx2.cell c5
     replace c6 := hx2.cell c6
     go_wp2
     go_roundw
     case rel => exact ⟨k + 1, n', hxr, by omega, by omega, by go_num, rfl, hnl, by rw [evW_snoc HE.out, HF.out, HN.out], few_snoc HE.out HA.out H40.out⟩
     case measure => simp [intOf]; omega
    ·have h4i : (400 : Int) < (E.path.length : Int) := by omega
     have H40 : Hid _ := few_no HE.out h4
     clear h4
     go_wp2_with fail
     apply wp_region_mix 18 [_, _, _, _, _, _, _, _, _, _, _, _, _, _, _, _, _, .int .i64 n'] [none, none, none, none, none, none, none, none, none, none, none, none, none, none, none, none, none, none] [[], [], [], [1, 2], [3], [4], [5], [6], [0, 7], [], [], [9, 10], [11], [12], [13], [14], [8, 15], [16]] (by kernel_rfl) (by kernel_rfl) (by simp [mixV])
     ·trivial
     ·simp (maxSteps := 1000000) only [List.take_succ_cons, List.take_zero, oblFrom, stepObl, fillFrom, Act.put, List.setIfInBounds_toArray, List.set_cons_zero, List.set_cons_succ, knows, getV, mixV, List.getD_cons_zero, List.getD_cons_succ, and_true, true_and, forall_const]
      refine ⟨?_, ?_, ?_, ?_, ?_, ?_, ?_, ?_, ?_, ?_, ?_, ?_, ?_, ?_, ?_, ?_, ?_, ?_⟩
      ·intro xs wq hq R hR
       have f5 := hq.cell c5; have f6 := hq.cell c6
       go_simp
       exact hR _ _ (Ext.refl _) rfl
      ·intro xs wq hq R hR
       have f5 := hq.cell c5; have f6 := hq.cell c6
       go_simp
       exact hR _ _ (Ext.refl _) rfl
      ·intro xs wq hq R hR
       have f5 := hq.cell c5; have f6 := hq.cell c6
       go_simp
       exact hR _ _ (Ext.refl _) rfl
      ·intro xs wq hq hk R hR
       obtain ⟨hk0, hk1⟩ := hk
       have f5 := hq.cell c5; have f6 := hq.cell c6
       go_simp
       exact hR _ _ (Ext.refl _) rfl
      ·intro xs wq hq hk R hR
       have f5 := hq.cell c5; have f6 := hq.cell c6
       go_simp
       exact hR _ _ (Ext.refl _) rfl
      ·intro xs wq hq hk R hR
       have f5 := hq.cell c5; have f6 := hq.cell c6
       go_simp
       exact hR _ _ (Ext.refl _) rfl
      ·intro xs wq hq hk R hR
       have f5 := hq.cell c5; have f6 := hq.cell c6
       go_simp
       exact hR _ _ (Ext.refl _) rfl
      ·intro xs wq hq hk R hR
       have f5 := hq.cell c5; have f6 := hq.cell c6
       go_simp
       exact hR _ _ (Ext.refl _) rfl
      ·intro xs wq hq hk R hR
       obtain ⟨hk0, hk1⟩ := hk
       have f5 := hq.cell c5; have f6 := hq.cell c6
       go_simp
       exact hR _ _ (Ext.refl _) rfl
      ·intro xs wq hq R hR
       have f5 := hq.cell c5; have f6 := hq.cell c6
       go_simp
       exact hR _ _ (Ext.refl _) rfl
      ·intro xs wq hq R hR
       have f5 := hq.cell c5; have f6 := hq.cell c6
       go_simp
       exact hR _ _ (Ext.refl _) rfl
      ·intro xs wq hq hk R hR
       obtain ⟨hk0, hk1⟩ := hk
       have f5 := hq.cell c5; have f6 := hq.cell c6
       go_simp
       exact hR _ _ (Ext.refl _) rfl
      ·intro xs wq hq hk R hR
       have f5 := hq.cell c5; have f6 := hq.cell c6
       go_simp
       exact hR _ _ (Ext.refl _) rfl
      ·intro xs wq hq hk R hR
       have f5 := hq.cell c5; have f6 := hq.cell c6
       go_simp
       exact hR _ _ (Ext.refl _) rfl
      ·intro xs wq hq hk R hR
       have f5 := hq.cell c5; have f6 := hq.cell c6
       go_simp
       exact hR _ _ (Ext.refl _) rfl
      ·intro xs wq hq hk R hR
       have f5 := hq.cell c5; have f6 := hq.cell c6
       go_simp
       exact hR _ _ (Ext.refl _) rfl
      ·intro xs wq hq hk R hR
       obtain ⟨hk0, hk1⟩ := hk
       have f5 := hq.cell c5; have f6 := hq.cell c6
       go_simp
       exact hR _ _ (Ext.refl _) rfl
      ·intro xs wq hq hk R hR
       have f5 := hq.cell c5; have f6 := hq.cell c6
       go_simp
       exact hR _ _ (Ext.refl _) rfl
     intro xs w2 hx2 hk
     simp only [heldV, Nat.zero_add, Nat.reduceAdd, and_true] at hk
     obtain ⟨q0, q1, q2, q3, q4, q5, q6, q7, q8, q9, q10, q11, q12, q13, q14, q15, q16, q17⟩ := hk
     simp (maxSteps := 1000000) only [List.take_succ_cons, List.take_zero, List.drop_succ_cons, List.drop_zero, fillFrom, Act.put, List.setIfInBounds_toArray, List.set_cons_zero, List.set_cons_succ, Nat.zero_add, Nat.reduceAdd, q0, q1, q2, q3, q4, q5, q6, q7, q8, q9, q10, q11, q12, q13, q14, q15, q16, q17]
     clear q0 q1 q2 q3 q4 q5 q6 q7 q8 q9 q10 q11 q12 q13 q14 q15 q16 q17
     have hxr := Ext.trans HX.out hx2
     replace c5 := hx2.cell c5
     replace c6 := hx2.cell c6
     go_wp2
     go_ret
     exact ⟨by rw [H40.out]; rfl, hxr⟩
   ·have hkk : k = 60 := by omega
    subst hkk
    have hl60 : ¬ (l.length : Int) ≤ 60 := by omega
    have HB : Hid (fewEv l = false) := by
     unfold Hid fewEv
     rw [decide_eq_false (by omega)]
     rfl
    go_wp2
    go_ret
    exact ⟨by rw [HB.out]; rfl, HX.out⟩
  ·have hkk : k = l.length := by omega
   subst hkk
   have hfd := HF.out
   have hal := HA.out
   rw [List.take_length] at hfd hal
   have hl60 : (l.length : Int) ≤ 60 := by omega
   have HB : Hid (fewEv l = decide ((m : Int) ≤ 40000)) := by
    unfold Hid fewEv
    rw [decide_eq_true hk6, hal, hfd]
    simp only [Bool.true_and, decide_eq_decide]
    omega
   clear hfd hal
   go_wp2
   go_ret
   exact ⟨by rw [HB.out]; rfl, HX.out⟩

/-! ### Few -/
def opW (n : Nat) (o : Opn) : Nat := min (n + min o.data.length 40000) 160000
def okOp (o : Opn) : Bool := fewEv o.plan && (decide (o.path.length ≤ 400) && decide (o.dest.length ≤ 400))
def fewOps (l : List Opn) : Bool := decide (l.length ≤ 100) && (l.all okOp && decide (l.foldl opW 0 ≤ 40000))
theorem opW_snoc {l : List Opn} {k : Nat} {e : Opn} (h : l[k]? = some e) : (l.take (k + 1)).foldl opW 0 = opW ((l.take k).foldl opW 0) e := by
 obtain ⟨hlt, rfl⟩ := (List.getElem?_eq_some_iff.1 h)
 rw [List.take_succ_eq_append_getElem hlt, List.foldl_append]
 rfl
theorem okOp_snoc {l : List Opn} {k : Nat} {e : Opn} (h : l[k]? = some e) (h0 : (l.take k).all okOp = true) (h1 : okOp e = true) : (l.take (k + 1)).all okOp = true := by
 obtain ⟨hlt, rfl⟩ := (List.getElem?_eq_some_iff.1 h)
 rw [List.take_succ_eq_append_getElem hlt]
 simp only [List.all_append, h0, List.all_cons, List.all_nil, Bool.and_true, Bool.true_and, h1]
theorem okOp_no {l : List Opn} {k : Nat} {e : Opn} (h : l[k]? = some e) (h1 : okOp e = false) : fewOps l = false := by
 have : l.all okOp = false := by
  rw [List.all_eq_false]
  exact ⟨e, List.mem_of_getElem? h, by simpa using h1⟩
 unfold fewOps
 rw [this]
 simp
theorem IsOpn.length {w : World} {cs : List Value} {o : Opn} (h : IsOpn w cs o) : cs.length = 8 ∧ cs.all (·.oneCell') = true := by
 obtain ⟨vd, vp, rfl, h1, h3⟩ := h
 obtain ⟨_, _, rfl, _⟩ := h1.bytes
 obtain ⟨_, ⟨_, _, rfl, _⟩, _⟩ := h3
 exact ⟨rfl, by simp [Value.oneCell']⟩
abbrev IsOps (w : World) (v : Value) (l : List Opn) : Prop := ReadO w (IsOpn w) v l
theorem ops_cells {w : World} {v : Value} {l : List Opn} (h : IsOps w v l) : ∃ a cap, v = .slice a l.length cap ∧ l.length ≤ cap ∧ l.length ≤ 140737488355328 ∧ cap ≤ 9223372036854775807 ∧
  ∀ (k : Nat) x, l[k]? = some x → ∃ b o cs, a = some ⟨b, o, none⟩ ∧ IsOpn w cs x ∧ ∀ j u, cs[j]? = some u → w.cell? ⟨b, o + k * 8 + j, none⟩ = some u :=
 readO_get 8 (fun c x hx => hx.length.1) (by omega) h

set_option maxRecDepth 100000 in
set_option maxHeartbeats 2000000 in
theorem fewOps_any {w0 w : World} {v : Value} {l : List Opn} (hx0 : Ext w0 w) (hv : IsOps w0 v l) :
  Calls Tryz.prog 53 #[v] w fun e w' => e = .returned (.bool (fewOps l)) ∧ Ext w w' := by
 obtain ⟨a, cap, rfl, h1, h2, h3, h4⟩ := ops_cells hv
 have H4 : Hid _ := h4
 have HX0 : Hid _ := hx0
 clear h4 hv hx0
 go_enter Tryz.func53, Tryz.ntmps53
 go_wp2
 go_loopw [3, 4] (fun n i wr => ∃ k m : Nat, Ext w wr ∧ k ≤ l.length ∧ k ≤ 100 ∧ i = .int .i64 k ∧ n = .int .i64 m ∧ m ≤ 160000 ∧ (l.take k).foldl opW 0 = m ∧ (l.take k).all okOp = true) (fun _ i _ => l.length - (intOf i).toNat)
 case atStart => exact ⟨0, 0, Ext.refl _, Nat.zero_le _, by omega, rfl, rfl, by omega, rfl, rfl⟩
 case round =>
  obtain ⟨k, m, hx, hk, hk6, rfl, rfl, hm, hfd, hal⟩ := hrel
  have HX : Hid _ := hx
  have HF : Hid _ := hfd
  have HA : Hid _ := hal
  clear hfd hal
  by_cases hlt : k < l.length
  ·by_cases h60 : k < 100
   ·obtain ⟨E, he⟩ : ∃ e, l[k]? = some e := ⟨_, List.getElem?_eq_getElem hlt⟩
    obtain ⟨b, o, cs, rfl, hop, hc⟩ := H4.out k E he
    obtain ⟨vd, vp, rfl, hd, hpl⟩ := hop
    obtain ⟨s1, s2, rfl, -⟩ := id hd.bytes
    obtain ⟨_, ⟨p1, p2, rfl, -⟩, -⟩ := id hpl
    have hxw := Ext.trans HX0.out hx
    have c4 := hxw.cell (hc 4 _ rfl)
    have c5 := hxw.cell (hc 5 _ rfl)
    have c6 := hxw.cell (hc 6 _ rfl)
    have c7 := hxw.cell (hc 7 _ rfl)
    have HPL : Hid _ := ReadO.dExt hpl hxw
    have HE : Hid _ := he
    have hdl := hd.bytes.len
    obtain ⟨d', hd'⟩ : ∃ d', min E.data.length 40000 = d' := ⟨_, rfl⟩
    obtain ⟨n', hn'⟩ : ∃ n', min (m + d') 160000 = n' := ⟨_, rfl⟩
    have hmd : min (E.data.length : Int) 40000 = (d' : Int) := by omega
    have hmn : min ((m : Int) + d') 160000 = (n' : Int) := by omega
    have hdl' : d' ≤ 40000 := by omega
    have hnl : n' ≤ 160000 := by omega
    have HN : Hid (opW m E = n') := by unfold Hid opW; rw [hd', hn']
    obtain ⟨fe, hfe⟩ : ∃ fe, fewEv E.plan = fe := ⟨_, rfl⟩
    have HFE : Hid _ := hfe
    clear hd he hd' hn' hc hpl hxw hfe
    go_wp2_with fail
    go_at_call 23
    refine (fewEvents_any HPL.out).mono ?_
    rw [HFE.out]
    rintro e w2 ⟨rfl, hx2⟩
    replace c4 := hx2.cell c4
    replace c5 := hx2.cell c5
    replace c6 := hx2.cell c6
    have hxr := hx.trans hx2
    cases fe with
    | false =>
     have HNO : Hid (fewOps l = false) := okOp_no HE.out (by unfold okOp; rw [HFE.out]; rfl)
     go_wp2
     go_ret
     exact ⟨ret_b HNO.out.symm, hxr⟩
    | true =>
     by_cases hp : (400 : Int) < (E.path.length : Int)
     ·have HNO : Hid (fewOps l = false) := okOp_no HE.out (by unfold okOp; rw [decide_eq_false (by omega)]; simp)
      go_wp2
      go_ret
      exact ⟨ret_b HNO.out.symm, hxr⟩
     ·by_cases hq : (400 : Int) < (E.dest.length : Int)
      ·have HNO : Hid (fewOps l = false) := okOp_no HE.out (by unfold okOp; rw [decide_eq_false (p := E.dest.length ≤ 400) (by omega)]; simp)
       go_wp2
       go_ret
       exact ⟨ret_b HNO.out.symm, hxr⟩
      ·have HOKE : Hid (okOp E = true) := by unfold Hid okOp; rw [HFE.out, decide_eq_true (by omega), decide_eq_true (by omega)]; rfl
       go_wp2
       go_roundw
       case rel => exact ⟨k + 1, n', hxr, by omega, by omega, by go_num, rfl, hnl, by rw [opW_snoc HE.out, HF.out, HN.out], okOp_snoc HE.out HA.out HOKE.out⟩
       case measure => simp [intOf]; omega
   ·have hkk : k = 100 := by omega
    subst hkk
    have hl60 : ¬ (l.length : Int) ≤ 100 := by omega
    have HB : Hid (fewOps l = false) := by
     unfold Hid fewOps
     rw [decide_eq_false (by omega)]
     rfl
    go_wp2
    go_ret
    exact ⟨ret_b HB.out.symm, HX.out⟩
  ·have hkk : k = l.length := by omega
   subst hkk
   have hfd := HF.out
   have hal := HA.out
   rw [List.take_length] at hfd hal
   have hl60 : (l.length : Int) ≤ 100 := by omega
   have HB : Hid (fewOps l = decide ((m : Int) ≤ 40000)) := by
    unfold Hid fewOps
    rw [decide_eq_true hk6, hal, hfd]
    simp only [Bool.true_and, decide_eq_decide]
    omega
   clear hfd hal
   go_wp2
   go_ret
   exact ⟨ret_b HB.out.symm, HX.out⟩
theorem few_ops {l : List Opn} (h : fewOps l = true) (hi : ∀ o ∈ l, I64 o.keep ∧ I64 o.torn ∧ ∀ e ∈ o.plan, I64 e.keep ∧ I64 e.torn) : l.length ≤ 100 ∧ ∀ o ∈ l, OpOk o := by
 unfold fewOps at h
 simp only [Bool.and_eq_true, decide_eq_true_eq, List.all_eq_true] at h
 refine ⟨h.1, fun o ho => ?_⟩
 have h2 := h.2.1 o ho
 unfold okOp fewEv at h2
 simp only [Bool.and_eq_true, decide_eq_true_eq, List.all_eq_true] at h2
 have h3 := hi o ho
 exact ⟨h2.2.1, h2.2.2, h2.1.1, fun e he => ⟨(h3.2.2 e he).1, (h3.2.2 e he).2, h2.1.2.1 e he⟩, h3.1, h3.2.1⟩

end Go.Proofs.YtfimfbdlegookaaGreatDoor

/-! marlaw5: what comes in: operations, by their fields, their slices, their events, read as the texts say. Conditions: what one slice may hold. -/
namespace Go.Proofs.YtfimfbdlegookaaGreatDoor
open Go Go.ChangeShapes Go.WideShapes Go.ChangeAt Go.RowKit Go.Deep

theorem own : ownKnob Tryz.prog.godebug = none := by kernel_rfl
theorem laidOut : laidOutB Tryz.prog = true := by kernel_rfl
theorem cellsU8 : Tryz.prog.cellsOf 5 = 1 := by kernel_rfl
theorem bytesU8 : Tryz.prog.bytesOf 5 = 1 := by kernel_rfl
theorem env_of {W : World} (hs : W.ShapedOpen Tryz.prog) : Env W :=
 ⟨Go.Proofs.cell_of_shapedOpen_int (zero := #[.int .i64 0]) (t := 3) hs (of_decide_eq_true (by kernel_rfl)) (by kernel_rfl) rfl (by kernel_rfl) (by kernel_rfl) Tryz.underlying3⟩

theorem byte_wf {x : Int} (h : (Lit.int .u8 x).wf = true) : 0 ≤ x ∧ x < 256 := by
 have h1 : IntKind.u8.min = 0 := rfl
 have h2 : IntKind.u8.max = 255 := rfl
 simp only [Lit.wf, Bool.and_eq_true, decide_eq_true_eq] at h
 omega
theorem trodAll_below (hl : laidOutB Tryz.prog = true) {H : Type} {enc : TypeId × Value → H} {W W' : World} (hb : Below W.heap.size W W') : ∀ {ts : List TypeId} {vs : List Value} {ds : List (DataW H)} {ps : List MemPlace}, DataW.TrodAll enc Tryz.prog W 0 (fun _ => true) true ts vs ds ps → (∀ x ∈ ps, x.block < W.heap.size) → (∀ t ∈ ts, Tryz.prog.readableRec t = true ∧ t < Tryz.prog.types.size) →
  DataW.TrodAll enc Tryz.prog W' 0 (fun b => decide (b < W.heap.size)) true ts vs ds ps
 | [], vs, ds, ps, h, _, _ => by
  obtain ⟨rfl, rfl, rfl⟩ := trodAll_nil h
  exact trodAll_mk0
 | t :: ts, vs, ds, ps, h, hlt, hr => by
  obtain ⟨v, vs', d, ds', p, q, rfl, rfl, rfl, h0, h1⟩ := trodAll_cons h
  exact ⟨p, q, Below.trod hl (hr t (by simp)).1 (hr t (by simp)).2 h0 hb (fun x hx => hlt x (by simp [hx])), trodAll_below hl hb h1 (fun x hx => hlt x (by simp [hx])) (fun t ht => hr t (by simp [ht])), rfl⟩

theorem i64_wf {n : Int} (h : (Lit.int .i64 n).wf = true) : I64 n := by
 have h1 : IntKind.i64.min = -9223372036854775808 := rfl
 have h2 : IntKind.i64.max = 9223372036854775807 := rfl
 simp only [Lit.wf, Bool.and_eq_true, decide_eq_true_eq] at h
 unfold I64
 omega

section
variable {H : Type} {enc : TypeId × Value → H} {P : Program} {w : World} {base : Nat} {spare : Nat → Bool} {held : Bool}
theorem slice_fields {t e : TypeId} {fs : Array Field} {fuel : Nat} {cs : List Value} {x : DataW H × List MemPlace} (ht : P.underlying t = some (.slice e)) (he : P.underlying e = some (.struct fs))
  (hone : oneCellFields P fs = true) (hC : P.cellsOf e = fs.size) (h : DataW.trod enc P w base spare held fuel t cs = some x) :
  (cs = [.slice none 0 0] ∧ x = (.nil, [])) ∨
  ∃ (a : Addr) (len cap m : Nat) (D : Nat → DataW H) (Pl : Nat → List MemPlace), cs = [.slice (some a) len cap] ∧ base ≤ a.block ∧ len ≤ cap ∧ cap ≤ maxLen ∧ m = (if spare a.block then cap else len) ∧
   x = (.slice ((List.range len).map D) ((List.range (m - len)).map fun j => D (len + j)), MemPlace.row a (m * fs.size) ++ (List.range m).flatMap Pl) ∧
   ∀ i, i < m → ∃ (ys : List (DataW H × List MemPlace)) (n : Nat), D i = .agg (ys.map (·.1)) ∧ Pl i = ys.flatMap (·.2) ∧ ys.length = fs.size ∧
    ∀ (j : Nat) (f : Field), fs[j]? = some f → ∃ (v : Value) (y : DataW H × List MemPlace), w.cell? (a.add (i * fs.size + j)) = some v ∧ ys[j]? = some y ∧ DataW.trod enc P w base spare held n f.type [v] = some y := by
 rcases open_slice ht h with h0 | ⟨a, len, cap, m, n, D, Pl, hcs, hb, hl, hm, hmm, hx, hi⟩
 ·exact .inl h0
 ·refine .inr ⟨a, len, cap, m, D, Pl, hcs, hb, hl, hm, hmm, by rw [hC] at hx; exact hx, fun i him => ?_⟩
  obtain ⟨cs', hc, ht'⟩ := hi i him
  rw [hC] at hc
  obtain ⟨ys, n', hn', hy, hlen, hyl, hf⟩ := DataW.trod_struct he ht'
  obtain ⟨_, hcl, hat⟩ := World.cells?_some hc
  simp only [Prod.mk.injEq] at hy
  refine ⟨ys, n', hy.1, hy.2, hyl, fun j f hj => ?_⟩
  obtain ⟨ho, hk⟩ := hone_of hone j f hj
  have hjl : j < fs.size := (Array.getElem?_eq_some_iff.1 hj).1
  have hcell := hat j hjl
  have hv : cs'[j]? = some (cs'[j]'(by omega)) := List.getElem?_eq_getElem (by omega)
  have h1 := hf j f hj
  rw [ho, hk] at h1
  have hone' : (cs'.drop j).take 1 = [cs'[j]'(by omega)] := by
   rw [List.drop_eq_getElem_cons (by omega)]
   rfl
  rw [hone'] at h1
  have hys : ys[j]? = some (ys[j]'(by omega)) := List.getElem?_eq_getElem (by omega)
  refine ⟨_, _, ?_, hys, h1.trans hys⟩
  rw [← Go.Deep.add_add, hcell, hv]

end

/-! ### What one slice may hold, at any depth -/
def Szd {H : Type} (t : TypeId) (d : DataW H) : Prop := ∀ n ∈ d.weights Tryz.prog t, n ≤ reachBytes
theorem szd_arg {H : Type} {ts : List TypeId} {ds : List (DataW H)} {j : Nat} {t : TypeId} {d : DataW H} (h : (DataW.weightsEach Tryz.prog ts ds).all (· ≤ reachBytes) = true) (ht : ts[j]? = some t) (hd : ds[j]? = some d) : Szd t d := fun n hn => by
 have := List.all_eq_true.1 h _ (DataW.weights_mem_each ht hd n hn)
 simpa using this
theorem wAll_mem {H : Type} {P : Program} {e : TypeId} : ∀ {l : List (DataW H)} {d : DataW H}, d ∈ l → ∀ n ∈ d.weights P e, n ∈ DataW.weightsAll P e l
 | d' :: r, d, hd, n, hn => by
  simp only [DataW.weightsAll, List.mem_append]
  rcases List.mem_cons.1 hd with rfl | h
  ·exact Or.inl hn
  ·exact Or.inr (wAll_mem h n hn)
theorem szd_slice {H : Type} {t q : TypeId} {e s : List (DataW H)} (h : Szd t (.slice e s)) (hu : Tryz.prog.underlying t = some (.slice q)) : (e.length + s.length) * Tryz.prog.bytesOf q ≤ reachBytes ∧ ∀ d ∈ e, Szd q d := by
 refine ⟨h _ (by simp [DataW.weights, hu]), fun d hd n hn => h n ?_⟩
 simp only [DataW.weights, hu, List.mem_cons, List.mem_append]
 exact Or.inr (Or.inl (wAll_mem hd n hn))
theorem szd_agg {H : Type} {t : TypeId} {fs : Array Field} {parts : List (DataW H)} {j : Nat} {f : Field} {d : DataW H} (h : Szd t (.agg parts)) (hu : Tryz.prog.underlying t = some (.struct fs)) (hf : fs[j]? = some f) (hd : parts[j]? = some d) : Szd f.type d := fun n hn => by
 refine h n ?_
 simp only [DataW.weights, hu]
 refine DataW.weights_mem_each (j := j) ?_ hd n hn
 rw [List.getElem?_map, Array.getElem?_toList, hf]
 rfl

section
variable {H : Type} {enc : TypeId × Value → H} {W : World}
theorem trod_i64 {n : Nat} {v : Value} {y : DataW H × List MemPlace} (h : DataW.trod enc Tryz.prog W 0 (fun _ => true) true n 3 [v] = some y) : ∃ z, v = .int .i64 z ∧ I64 z := by
 obtain ⟨z, hc, -, hw⟩ := DataW.trod_int Tryz.underlying3 h
 simp only [List.cons.injEq, and_true] at hc
 exact ⟨z, hc, i64_wf hw⟩
theorem trod_s8 {n : Nat} {v : Value} {y : DataW H × List MemPlace} (h : DataW.trod enc Tryz.prog W 0 (fun _ => true) true n 9 [v] = some y) : ∃ l : B8, v = S8 l := by
 obtain ⟨s, hc, -, -⟩ := DataW.trod_string Tryz.underlying9 h
 simp only [List.cons.injEq, and_true] at hc
 exact ⟨s.data.toList, hc⟩

theorem row_of_cells {a : Addr} {len cap : Nat} {cs : List Value} (hl : len ≤ cap) (hm : cap ≤ maxLen) (hn : len ≤ 140737488355328) (hc : ∀ i u, cs[i]? = some u → W.cell? (a.add i) = some u) : Row W (.slice (some a) len cap) len cs := by
 unfold maxLen at hm
 refine ⟨some a, cap, rfl, hl, by omega, hn, fun hne => ?_⟩
 obtain ⟨x, r, rfl⟩ : ∃ x r, cs = x :: r := by
  cases cs with
  | nil => exact (hne rfl).elim
  | cons x r => exact ⟨x, r, rfl⟩
 have hspot : a.spot = none := by
  have := World.cell?_spot (hc 0 x rfl)
  simpa [Addr.add] using this
 obtain ⟨b, o, sp⟩ := a
 simp only at hspot
 subst hspot
 refine ⟨b, o, rfl, fun i u hu => ?_⟩
 have hadd : (⟨b, o, none⟩ : Addr).add i = ⟨b, o + i, none⟩ := by unfold Addr.add; split <;> simp_all
 rw [← hadd]
 exact hc i u hu


theorem trod_bytes {n : Nat} {v : Value} {y : DataW H × List MemPlace} (h : DataW.trod enc Tryz.prog W 0 (fun _ => true) true n 31 [v] = some y) (hb : Szd 31 y.1) : ∃ l : B8, IsBytes W v l := by
 rcases open_ints Tryz.underlying31 Tryz.underlying5 cellsU8 h with ⟨hcs, hx⟩ | ⟨a, len, cap, zs, hcs, _, hl, hm, hz, rfl, hcell, hwz⟩
 ·simp only [List.cons.injEq, and_true] at hcs
  subst hcs
  exact ⟨[], Row.nil _⟩
 ·simp only [List.cons.injEq, and_true] at hcs
  subst hcs
  simp only [if_true] at hz
  have hs := (szd_slice hb Tryz.underlying31).1
  rw [bytesU8] at hs
  have hr := reachBytes_lt
  simp only [lits, List.length_map, List.length_take, List.length_drop, Nat.mul_one] at hs
  have hlen : len ≤ 140737488355328 := by omega
  refine ⟨(zs.take len).map fun z => UInt8.ofNat z.toNat, ?_⟩
  have hll : ((zs.take len).map fun z => UInt8.ofNat z.toNat).length = len := by simp; omega
  unfold IsBytes
  rw [hll]
  refine row_of_cells hl hm hlen fun i u hu => ?_
  have hi : i < len := by
   have := (List.getElem?_eq_some_iff.1 hu).1
   simp at this
   omega
  have hc := hcell i (by omega)
  rw [hc, ← hu]
  have hzi : zs[i]? = some zs[i] := List.getElem?_eq_getElem (by omega)
  have hw := byte_wf (hwz zs[i] (List.getElem_mem (by omega)))
  rw [List.getElem?_map, List.getElem?_map, List.getElem?_take_of_lt hi, hzi]
  simp only [Option.map_some, List.getD_eq_getElem?_getD, hzi, Option.getD_some, Option.some.injEq, Value.int.injEq, true_and, UInt8.toNat_ofNat']
  omega
theorem row_low {w : World} {v : Value} {n : Nat} {cs : List Value} (h : Row w v n cs) (hn : cs ≠ []) : ∀ k, v.ownBlock = some k → k < w.heap.size := by
 obtain ⟨a, cap, rfl, h1, h2, h3, h4⟩ := h
 obtain ⟨b, o, rfl, hc⟩ := h4 hn
 intro k hk
 cases cs with
 | nil => exact (hn rfl).elim
 | cons x r =>
  have := World.block_lt_of_cell? _ _ (hc 0 x rfl)
  have hb : b = k := by simpa [Value.ownBlock] using hk
  subst hb
  exact this
theorem oldB_of [Inhabited BaseW] {v : Value} {l : B8} (h : IsBytes baseW v l) : OldB v l := by
 refine ⟨h, fun a n c he hn => row_low h ?_ a.block (by rw [he]; rfl)⟩
 obtain ⟨a', cap, hv, -⟩ := h
 rw [he] at hv
 simp only [Value.slice.injEq] at hv
 intro h0
 have := congrArg List.length h0
 simp at this
 rw [this] at hv
 exact hn hv.2.1

theorem flat_inv (m : Nat) (hm : 0 < m) (css : List (List Value)) (h : ∀ c ∈ css, c.length = m) (q : Nat) (u : Value) (hq : css.flatten[q]? = some u) : ∃ c, css[q / m]? = some c ∧ c[q % m]? = some u := by
 induction css generalizing q with
 | nil => simp at hq
 | cons c r ih =>
  have hc := h c (by simp)
  by_cases hl : q < m
  ·refine ⟨c, by rw [Nat.div_eq_of_lt hl]; rfl, ?_⟩
   rw [Nat.mod_eq_of_lt hl]
   simpa [List.flatten_cons, List.getElem?_append_left (show q < c.length by omega)] using hq
  ·rw [List.flatten_cons, List.getElem?_append_right (by omega), hc] at hq
   obtain ⟨d, h1, h2⟩ := ih (fun x hx => h x (by simp [hx])) (q - m) hq
   refine ⟨d, ?_, ?_⟩
   ·have : q / m = (q - m) / m + 1 := by
     rw [Nat.div_eq_sub_div hm (by omega)]
    rw [this]
    exact h1
   ·rw [Nat.mod_eq_sub_mod (by omega)]
    exact h2


theorem one_ev : oneCellFields Tryz.prog (match Tryz.prog.underlying 53 with | some (.struct fs) => fs | _ => #[]) = true := by kernel_rfl
theorem cells_ev : Tryz.prog.cellsOf 53 = 7 := by kernel_rfl
theorem cells_opn : Tryz.prog.cellsOf 34 = 8 := by kernel_rfl
theorem bytes_ev : 1 ≤ Tryz.prog.bytesOf 53 := of_decide_eq_true (by kernel_rfl)
theorem mul_ge {a b c : Nat} (h : a * b ≤ c) (hb : 1 ≤ b) : a ≤ c := Nat.le_trans (Nat.le_mul_of_pos_right a hb) h
/-- A slice of structs, from what each row says. -/
theorem readO_of {α : Type} (m : Nat) (hm0 : 0 < m) {a : Addr} {len cap : Nat} (d0 : List Value × α) (hl : len ≤ cap) (hm : cap ≤ maxLen) (hn : len ≤ 140737488355328) {p : List Value → α → Prop} (hp : ∀ c x, p c x → c.length = m)
  (key : ∀ i, i < len → ∃ ce : List Value × α, p ce.1 ce.2 ∧ ∀ j u, ce.1[j]? = some u → W.cell? (a.add (i * m + j)) = some u) : ∃ xs : List α, ReadO W p (.slice (some a) len cap) xs ∧ xs.length = len ∧ ∀ x ∈ xs, ∃ c, p c x := by
 have key2 : ∀ i, ∃ ce : List Value × α, i < len → p ce.1 ce.2 ∧ ∀ j u, ce.1[j]? = some u → W.cell? (a.add (i * m + j)) = some u := fun i => by
  by_cases h : i < len
  ·obtain ⟨ce, h1⟩ := key i h
   exact ⟨ce, fun _ => h1⟩
  ·exact ⟨d0, fun hc => (h hc).elim⟩
 have CE := fun i => (key2 i).choose_spec
 generalize hce : (fun i => (key2 i).choose) = ce at CE
 have CE' : ∀ i, i < len → p (ce i).1 (ce i).2 ∧ ∀ j u, (ce i).1[j]? = some u → W.cell? (a.add (i * m + j)) = some u := fun i hil => by
  have := CE i hil
  rw [← hce]
  exact this
 have hget : ∀ (i : Nat) c, ((List.range len).map fun i => (ce i).1)[i]? = some c → i < len ∧ c = (ce i).1 := fun i c hc => by
  have hil := (List.getElem?_eq_some_iff.1 hc).1
  simp only [List.length_map, List.length_range] at hil
  refine ⟨hil, ?_⟩
  rw [List.getElem?_map, List.getElem?_range hil] at hc
  exact (Option.some.inj hc).symm
 have hrow : Row W (.slice (some a) len cap) len ((List.range len).map fun i => (ce i).1).flatten := by
  refine row_of_cells hl hm hn fun q u hq => ?_
  obtain ⟨c, hc, hu⟩ := flat_inv m hm0 _ (fun c hc => by
   obtain ⟨i, hir, rfl⟩ := List.mem_map.1 hc
   exact hp _ _ (CE' i (by simpa using hir)).1) q u hq
  obtain ⟨hil, rfl⟩ := hget _ _ hc
  have := (CE' _ hil).2 _ u hu
  rwa [show q / m * m + q % m = q by rw [Nat.mul_comm]; exact Nat.div_add_mod q m] at this
 refine ⟨(List.range len).map fun i => (ce i).2, ⟨(List.range len).map fun i => (ce i).1, by rw [List.length_map, List.length_range]; exact hrow, fun hne => ?_, by simp, fun i c e hc he => ?_⟩, by simp, fun x hx => ?_⟩
 ·refine row_low hrow fun h0 => ?_
  have hlen : 0 < len := by
   cases len with
   | zero => exact (hne rfl).elim
   | succ n => omega
  have h1 := hp _ _ (CE' 0 hlen).1
  have h2 : ((List.range len).map fun i => (ce i).1)[0]? = some (ce 0).1 := by rw [List.getElem?_map, List.getElem?_range hlen]; rfl
  have h3 := List.mem_of_getElem? h2
  have h4 := List.flatten_eq_nil_iff.1 h0 _ h3
  rw [h4] at h1
  simp at h1
  omega
 ·obtain ⟨hil, rfl⟩ := hget _ _ hc
  rw [List.getElem?_map, List.getElem?_range hil] at he
  cases he
  exact (CE' i hil).1
 ·obtain ⟨i, hir, rfl⟩ := List.mem_map.1 hx
  exact ⟨_, (CE' i (by simpa using hir)).1⟩
end

section
variable [Inhabited BaseW] {H : Type} {enc : TypeId × Value → H} {W : World}
set_option maxRecDepth 100000 in
theorem trod_evs (hW : baseW = W) {n : Nat} {v : Value} {y : DataW H × List MemPlace} (h : DataW.trod enc Tryz.prog W 0 (fun _ => true) true n 32 [v] = some y) (hb : Szd 32 y.1) : ∃ es : List Ev, ReadO W IsEvI v es ∧ ∀ e ∈ es, I64 e.keep ∧ I64 e.torn := by
 rcases slice_fields Tryz.underlying32 Tryz.underlying53 one_ev cells_ev h with ⟨hcs, hx⟩ | ⟨a, len, cap, m, D, Pl, hcs, _, hl, hm, hmm, rfl, hi⟩
 ·simp only [List.cons.injEq, and_true] at hcs
  subst hcs
  exact ⟨[], ⟨[], Row.nil _, fun h => (h rfl).elim, Each.nil _⟩, by simp⟩
 ·simp only [List.cons.injEq, and_true] at hcs
  subst hcs
  simp only [if_true] at hmm
  subst hmm
  obtain ⟨hs1, hs2⟩ := szd_slice hb Tryz.underlying32
  have hlen := mul_ge hs1 bytes_ev
  have hr := reachBytes_lt
  simp only [List.length_map, List.length_range] at hlen
  obtain ⟨xs, h1, -, h2⟩ := readO_of (W := W) (a := a) (len := len) (p := fun c (e : Ev) => IsEvI c e ∧ I64 e.keep ∧ I64 e.torn) 7 (by omega) ([], ⟨0, 0, 0, 0, 0, [], []⟩) hl hm (by omega) (fun c x hx => hx.1.length.1) (fun i hil => by
   obtain ⟨ys, k, hD, -, hyl, hf⟩ := hi i (by omega)
   have hSi : Szd 53 (D i) := hs2 _ (List.mem_map.2 ⟨i, by simpa using hil, rfl⟩)
   obtain ⟨v0, y0, c0, e0, t0⟩ := hf 0 _ rfl
   obtain ⟨v1, y1, c1, e1, t1⟩ := hf 1 _ rfl
   obtain ⟨v2, y2, c2, e2, t2⟩ := hf 2 _ rfl
   obtain ⟨v3, y3, c3, e3, t3⟩ := hf 3 _ rfl
   obtain ⟨v4, y4, c4, e4, t4⟩ := hf 4 _ rfl
   obtain ⟨v5, y5, c5, e5, t5⟩ := hf 5 _ rfl
   obtain ⟨v6, y6, c6, e6, t6⟩ := hf 6 _ rfl
   obtain ⟨z0, rfl, i0⟩ := trod_i64 t0
   obtain ⟨z1, rfl, i1⟩ := trod_i64 t1
   obtain ⟨z2, rfl, i2⟩ := trod_i64 t2
   obtain ⟨z3, rfl, i3⟩ := trod_i64 t3
   obtain ⟨z4, rfl, i4⟩ := trod_i64 t4
   obtain ⟨pp, rfl⟩ := trod_s8 t5
   rw [hD] at hSi
   have hS6 := szd_agg (j := 6) hSi Tryz.underlying53 rfl (by rw [List.getElem?_map, e6]; rfl)
   obtain ⟨dl, hd⟩ := trod_bytes t6 hS6
   refine ⟨([.int .i64 z0, .int .i64 z1, .int .i64 z2, .int .i64 z3, .int .i64 z4, S8 pp, v6], ⟨z0, z1, z2, z3, z4, pp, dl⟩), ⟨⟨v6, rfl, oldB_of (by rw [hW]; exact hd)⟩, i3, i4⟩, fun j u hu => ?_⟩
   rcases j with _ | _ | _ | _ | _ | _ | _ | j
   ·cases hu; exact c0
   ·cases hu; exact c1
   ·cases hu; exact c2
   ·cases hu; exact c3
   ·cases hu; exact c4
   ·cases hu; exact c5
   ·cases hu; exact c6
   ·simp at hu)
  exact ⟨xs, h1.mono (fun c x hx => hx.1), fun e he => by obtain ⟨c, hc⟩ := h2 e he; exact hc.2⟩
end

end Go.Proofs.YtfimfbdlegookaaGreatDoor

/-! marlaw8.few. Conditions: as each theorem states. -/
namespace Go.Proofs.YtfimfbdlegookaaGreatDoor
open Go Go.RowKit
set_option linter.unusedVariables false
set_option linter.unusedSimpArgs false
set_option linter.unusedSectionVars false
variable [Inhabited BaseW]

theorem info_opn : (Tryz.prog.info? 34).map (fun i => (i.zero, i.size, i.bytes)) = some (some (.agg #[.int .i64 0, .int .i64 0, .int .i64 0, .int .i64 0, S8 [], S8 [], .slice none 0 0, .slice none 0 0]), 8, 112) := by kernel_rfl
section
variable {ops : Array Oper} {rest : List Oper} {o : Oper} {a : Act} {Q : Exit → Act → World → Prop} {w : World}
/-- append of an operation that lies in a block known whole. -/
theorem app_opn (hgd : o.guard = none) (s x : Operand) (ho : o.op = .call { callee := .builtin .append, args := #[s, x], argTypes := #[108, 108] })
  (base : Nat) (v : Value) (n : Nat) (xs : List Value) (hs : a.eval s = v) (hown : w.ownsRow base 34 8 v n xs)
  (g c : Nat) (news : List Value) (hx : a.eval x = .slice (some ⟨g, 0, none⟩) 1 c) (hl : news.length = 8) {fr : Nat × Nat} (hg : w.heap[g]? = some (.cells news.toArray 34 fr)) (h1 : news.all (·.oneCell') = true)
  (hb : n ≤ 10000000) (hbase : base ≤ w.heap.size)
  (h : ∀ v' w', w'.ownsRow base 34 8 v' (n + 1) (xs ++ news) → w.grownBy w' v.ownBlock → wpList Tryz.prog ops Q rest (a.put o.dst v') w') : wpList Tryz.prog ops Q (o :: rest) a w := by
 obtain ⟨i0, hi, hz0, hz1, hz2⟩ := info_parts info_opn
 exact wpList_append_own_at w hgd s x _ ho base _ i0 _ 8 112 Tryz.underlying108 hi hz0 hz1 hz2 rfl (by omega) v n xs hs hown ⟨g, 0, none⟩ 1 c news hx (by simpa using hl) (by simpa using news_of_block hg) (fun u hu => List.all_eq_true.1 h1 u hu) (by unfold maxLen; omega) (by omega) hbase
  (fun v' w' h1 h2 _ h4 => h v' w' h1 h2)
end

theorem ops_read {w w0 : World} {b : Nat} {v : Value} {L : List Opn} {css : List (List Value)} (h : w.ownsRow b 34 8 v L.length css.flatten) (he : Each (IsOpn w0) css L) (hn : L.length ≤ 1000000) : ReadO w (IsOpn w0) v L :=
 ⟨css, Row.of_owns h (by omega), fun _ k hk => (h.lt k hk).2, he⟩
theorem IsOpn.ext {w w' : World} {cs : List Value} {o : Opn} (h : IsOpn w cs o) (hx : Ext w w') : IsOpn w' cs o := by
 obtain ⟨vd, vp, rfl, h1, h2⟩ := h
 exact ⟨vd, vp, rfl, h1, h2.dExt hx⟩
theorem IsOps.ext {w w' : World} {v : Value} {l : List Opn} (h : IsOps w v l) (hx : Ext w w') : IsOps w' v l :=
 (h.stay hx.size (fun hn k hk => hx.block k (h.lt hn k hk))).mono (fun c x hc => hc.ext hx)

/-- marlaw8's operations. -/
structure Rop where
 kind : Int
 name : B8
 old : B8
 next : B8
 f : Opn
def IsRop (w : World) (cs : List Value) (o : Rop) : Prop := ∃ fs, cs = .int .i64 o.kind :: S8 o.name :: S8 o.old :: S8 o.next :: fs ∧ IsOpn w fs o.f
theorem IsRop.length {w : World} {cs : List Value} {o : Rop} (h : IsRop w cs o) : cs.length = 12 := by
 obtain ⟨fs, rfl, h⟩ := h
 simp [(h.length).1]
abbrev IsRops (w : World) (v : Value) (l : List Rop) : Prop := ReadO w (IsRop w) v l
theorem rops_cells {w : World} {v : Value} {l : List Rop} (h : IsRops w v l) : ∃ a cap, v = .slice a l.length cap ∧ l.length ≤ cap ∧ l.length ≤ 140737488355328 ∧ cap ≤ 9223372036854775807 ∧
  ∀ (k : Nat) x, l[k]? = some x → ∃ b o cs, a = some ⟨b, o, none⟩ ∧ IsRop w cs x ∧ ∀ j u, cs[j]? = some u → w.cell? ⟨b, o + k * 12 + j, none⟩ = some u :=
 readO_get 12 (fun c x hx => hx.length) (by omega) h
def okN (o : Rop) : Bool := decide (o.name.length ≤ 400) && (decide (o.old.length ≤ 400) && decide (o.next.length ≤ 400))
def fewR (l : List Rop) : Bool := (l.take 60).all okN && (decide (l.length ≤ 60) && fewOps (l.map Rop.f))
theorem take_snocN {α : Type} {l : List α} {k : Nat} {e : α} (h : l[k]? = some e) : l.take (k + 1) = l.take k ++ [e] := by rw [List.take_add_one, h]; rfl

theorem fewR_no {l : List Rop} {k : Nat} {e : Rop} (h : l[k]? = some e) (hk : k < 60) (hn : okN e = false) : fewR l = false := by
 have h1 : e ∈ l.take 60 := List.mem_of_getElem? (i := k) (by rw [List.getElem?_take, if_pos hk]; exact h)
 have h2 : (l.take 60).all okN = false := by
  rw [List.all_eq_false]
  exact ⟨e, h1, by rw [hn]; simp⟩
 unfold fewR
 rw [h2]
 rfl

set_option maxRecDepth 100000 in
set_option maxHeartbeats 2000000 in
theorem fewR_any {w0 w : World} {v : Value} {l : List Rop} (hx0 : Ext w0 w) (hv : IsRops w0 v l) :
  Calls Tryz.prog 12 #[v] w fun e w' => e = .returned (.bool (fewR l)) ∧ Ext w w' := by
 obtain ⟨a, cap, rfl, h1, h2, h3, h4⟩ := rops_cells hv
 have H4 : Hid _ := h4
 have HX0 : Hid (Ext w0 w) := hx0
 clear h4 hv hx0
 go_enter Tryz.func12, Tryz.ntmps12
 go_wp2
 go_loopw [3, 4] (fun v i wr => ∃ (k : Nat) (css : List (List Value)), k ≤ l.length ∧ k ≤ 60 ∧ i = .int .i64 k ∧ (l.take k).all okN = true ∧ wr.ownsRow w.heap.size 34 8 v k css.flatten ∧ Each (IsOpn w0) css ((l.take k).map Rop.f) ∧ Ext w wr) (fun _ i _ => l.length - (intOf i).toNat)
 case atStart => exact ⟨0, [], Nat.zero_le _, by omega, rfl, rfl, World.ownsRow_nil _ _ _ _, Each.nil _, Ext.refl _⟩
 case round =>
  obtain ⟨k, css, hk, hk6, rfl, hal, hown, heach, hx⟩ := hrel
  have HEA : Hid (Each (IsOpn w0) css ((l.take k).map Rop.f)) := heach
  have HA : Hid _ := hal
  clear heach hal
  have HX : Hid (Ext w wr) := hx
  by_cases hlt : k < l.length
  ·by_cases h60 : k < 60
   ·obtain ⟨e, hke⟩ : ∃ e, l[k]? = some e := ⟨_, List.getElem?_eq_getElem hlt⟩
    obtain ⟨b, o, cs, rfl, ⟨fs, rfl, hop⟩, hc⟩ := H4.out k e hke
    have HOP : Hid (IsOpn w0 fs e.f) := hop
    obtain ⟨vd, vp, rfl, hd, hpl⟩ := id hop
    obtain ⟨d1, d2, rfl, -⟩ := id hd.bytes
    obtain ⟨_, ⟨p1, p2, rfl, -⟩, -⟩ := id hpl
    have HSN : Hid _ := take_snocN hke
    have hxw := Ext.trans HX0.out hx
    have c1 := hxw.cell (hc 1 _ rfl)
    have c2 := hxw.cell (hc 2 _ rfl)
    have c3 := hxw.cell (hc 3 _ rfl)
    have c4 := hxw.cell (hc 4 _ rfl)
    have c5 := hxw.cell (hc 5 _ rfl)
    have c6 := hxw.cell (hc 6 _ rfl)
    have c7 := hxw.cell (hc 7 _ rfl)
    have c8 := hxw.cell (hc 8 _ rfl)
    have c9 := hxw.cell (hc 9 _ rfl)
    have c10 := hxw.cell (hc 10 _ rfl)
    have c11 := hxw.cell (hc 11 _ rfl)
    have hsz := hx.size
    have HKE : Hid _ := hke
    clear hop hd hpl hc hke hxw
    by_cases n1 : e.name.length ≤ 400
    ·by_cases n2 : e.old.length ≤ 400
     ·by_cases n3 : e.next.length ≤ 400
      ·have HC : Hid (okN e = true) := by unfold Hid okN; simp [n1, n2, n3]
       go_wp2_with (at_builtin; go_must (refine app_opn rfl _ _ rfl w.heap.size _ k _ rfl (hown.alloc _) wr.heap.size 1 [.int .i64 e.f.kind, .int .i64 e.f.mode, .int .i64 e.f.keep, .int .i64 e.f.torn, S8 e.f.path, S8 e.f.dest, .slice d1 e.f.data.length d2, .slice p1 e.f.plan.length p2] rfl rfl (alloc_at _ _) (by simp [Value.oneCell']) (by omega) (by simp; omega) ?_; intro v' w3 hown3 hg3))
       go_roundw
       case rel =>
        refine ⟨k + 1, css ++ [[.int .i64 e.f.kind, .int .i64 e.f.mode, .int .i64 e.f.keep, .int .i64 e.f.torn, S8 e.f.path, S8 e.f.dest, .slice d1 e.f.data.length d2, .slice p1 e.f.plan.length p2]], by omega, by omega, by go_num, ?_, ?_, ?_, owns_ext_app (hx.alloc _) (hown.alloc _) hg3⟩
        ·rw [HSN.out, List.all_append, HA.out]; simpa using HC.out
        ·rw [List.flatten_append]
         simpa using hown3
        ·rw [HSN.out, List.map_append]; exact Each.snoc HEA.out HOP.out
       case measure => simp [intOf]; omega
      ·have hno : fewR l = false := fewR_no HKE.out h60 (by unfold okN; simp [n3])
       have HNO : Hid _ := hno
       clear hno
       go_wp2
       go_ret
       exact ⟨by rw [HNO.out]; rfl, hx⟩
     ·have hno : fewR l = false := fewR_no HKE.out h60 (by unfold okN; simp [n2])
      have HNO : Hid _ := hno
      clear hno
      go_wp2
      go_ret
      exact ⟨by rw [HNO.out]; rfl, hx⟩
    ·have hno : fewR l = false := fewR_no HKE.out h60 (by unfold okN; simp [n1])
     have HNO : Hid _ := hno
     clear hno
     go_wp2
     go_ret
     exact ⟨by rw [HNO.out]; rfl, hx⟩
   ·have hk60 : k = 60 := by omega
    subst hk60
    by_cases hl : l.length ≤ 60
    ·omega
    ·have hno : fewR l = false := by unfold fewR; simp [hl]
     have HNO : Hid _ := hno
     clear hno
     go_wp2
     go_ret
     exact ⟨by rw [HNO.out]; rfl, hx⟩
  ·have hkl : k = l.length := by omega
   subst hkl
   have hops : IsOps wr u3 (l.map Rop.f) := by
    have h9 := HEA.out
    rw [List.take_of_length_le (Nat.le_refl _)] at h9
    exact ops_read (by rw [List.length_map]; exact hown) (h9.imp (fun c x hc => hc.ext (HX0.out.trans HX.out))) (by rw [List.length_map]; omega)
   have HOPS : Hid (IsOps wr u3 (l.map Rop.f)) := hops
   have hres : fewR l = fewOps (l.map Rop.f) := by
    have h9 := HA.out
    rw [List.take_of_length_le (Nat.le_refl _)] at h9
    unfold fewR
    rw [List.take_of_length_le hk6, h9, decide_eq_true hk6]
    rfl
   have HRES : Hid _ := hres
   clear hops hres
   go_wp2_with (go_at_call 53; go_must (refine (fewOps_any (Ext.refl wr) HOPS.out).mono ?_; rintro e w5 ⟨rfl, hx5⟩))
   all_goals (go_ret; exact ⟨by rw [HRES.out]; rfl, hx.trans hx5⟩)

end Go.Proofs.YtfimfbdlegookaaGreatDoor

/-! marlaw8: what comes in: operations, by their fields, read as the texts say. Conditions: what one slice may hold. -/
namespace Go.Proofs.YtfimfbdlegookaaGreatDoor
open Go Go.ChangeShapes Go.WideShapes Go.ChangeAt Go.RowKit Go.Deep
set_option linter.unusedVariables false
set_option linter.unusedSimpArgs false
set_option linter.unusedSectionVars false

section
variable {H : Type} {enc : TypeId × Value → H} {P : Program} {w : World} {base : Nat} {spare : Nat → Bool} {held : Bool}
theorem slice_parts {t e : TypeId} {fs : Array Field} {fuel : Nat} {cs : List Value} {x : DataW H × List MemPlace} (ht : P.underlying t = some (.slice e)) (he : P.underlying e = some (.struct fs))
  (h : DataW.trod enc P w base spare held fuel t cs = some x) :
  (cs = [.slice none 0 0] ∧ x = (.nil, [])) ∨
  ∃ (a : Addr) (len cap m : Nat) (D : Nat → DataW H) (Pl : Nat → List MemPlace), cs = [.slice (some a) len cap] ∧ len ≤ cap ∧ cap ≤ maxLen ∧ m = (if spare a.block then cap else len) ∧
   x = (.slice ((List.range len).map D) ((List.range (m - len)).map fun j => D (len + j)), MemPlace.row a (m * P.cellsOf e) ++ (List.range m).flatMap Pl) ∧
   ∀ i, i < m → ∃ (ys : List (DataW H × List MemPlace)) (n : Nat) (cs' : List Value), D i = .agg (ys.map (·.1)) ∧ ys.length = fs.size ∧ cs'.length = P.cellsOf e ∧ (∀ j u, cs'[j]? = some u → w.cell? (a.add (i * P.cellsOf e + j)) = some u) ∧
    ∀ (j : Nat) (f : Field), fs[j]? = some f → ∃ y, ys[j]? = some y ∧ DataW.trod enc P w base spare held n f.type ((cs'.drop f.offset).take (P.cellsOf f.type)) = some y := by
 rcases open_slice ht h with h0 | ⟨a, len, cap, m, n, D, Pl, hcs, hb, hl, hm, hmm, hx, hi⟩
 ·exact .inl h0
 ·refine .inr ⟨a, len, cap, m, D, Pl, hcs, hl, hm, hmm, hx, fun i him => ?_⟩
  obtain ⟨cs', hc, ht'⟩ := hi i him
  obtain ⟨ys, n', hn', hy, hlen, hyl, hf⟩ := DataW.trod_struct he ht'
  obtain ⟨_, hcl, hat⟩ := World.cells?_some hc
  simp only [Prod.mk.injEq] at hy
  refine ⟨ys, n', cs', hy.1, hyl, hlen, fun j u hu => ?_, fun j f hj => ?_⟩
  ·have hjl := (List.getElem?_eq_some_iff.1 hu).1
   rw [← Go.Deep.add_add, hat j (by omega)]
   exact hu
  ·have hjl : j < fs.size := (Array.getElem?_eq_some_iff.1 hj).1
   have hys : ys[j]? = some (ys[j]'(by omega)) := List.getElem?_eq_getElem (by omega)
   exact ⟨_, hys, (hf j f hj).trans hys⟩
end
theorem cells_int : Tryz.prog.cellsOf 3 = 1 := by kernel_rfl
theorem cells_str : Tryz.prog.cellsOf 9 = 1 := by kernel_rfl
theorem cells_rop : Tryz.prog.cellsOf 36 = 12 := by kernel_rfl
theorem bytes_rop : 1 ≤ Tryz.prog.bytesOf 36 := of_decide_eq_true (by kernel_rfl)
theorem list12 {α : Type} {l : List α} (h : l.length = 12) : ∃ x0 x1 x2 x3 r, l = x0 :: x1 :: x2 :: x3 :: r ∧ r.length = 8 := by
 match l, h with
 | x0 :: x1 :: x2 :: x3 :: r, h => exact ⟨x0, x1, x2, x3, r, rfl, by simpa using h⟩
theorem list8v {α : Type} {l : List α} (h : l.length = 8) : ∃ x0 x1 x2 x3 x4 x5 x6 x7, l = [x0, x1, x2, x3, x4, x5, x6, x7] := by
 match l, h with
 | [x0, x1, x2, x3, x4, x5, x6, x7], _ => exact ⟨x0, x1, x2, x3, x4, x5, x6, x7, rfl⟩

section
variable [Inhabited BaseW] {H : Type} {enc : TypeId × Value → H} {W : World}
set_option maxRecDepth 100000 in
/-- One operation of the file system, by its eight cells. -/
theorem trod_opn (hW : baseW = W) {n : Nat} {cs : List Value} {y : DataW H × List MemPlace} (h : DataW.trod enc Tryz.prog W 0 (fun _ => true) true n 34 cs = some y) (hcs : cs.length = 8) (hb : Szd 34 y.1) : ∃ o : Opn, IsOpn W cs o ∧ I64 o.keep ∧ I64 o.torn ∧ ∀ e ∈ o.plan, I64 e.keep ∧ I64 e.torn := by
 obtain ⟨ys, n', hn', hy, hlen, hyl, hf⟩ := DataW.trod_struct Tryz.underlying34 h
 obtain ⟨v0, v1, v2, v3, v4, v5, v6, v7, rfl⟩ := list8v hcs
 have hyl8 : ys.length = 8 := hyl
 obtain ⟨y0, y1, y2, y3, y4, y5, y6, y7, rfl⟩ := list8v hyl8
 have t0 : DataW.trod enc Tryz.prog W 0 (fun _ => true) true n' 3 (([v0, v1, v2, v3, v4, v5, v6, v7].drop 0).take (Tryz.prog.cellsOf 3)) = some y0 := hf 0 _ rfl
 have t1 : DataW.trod enc Tryz.prog W 0 (fun _ => true) true n' 3 (([v0, v1, v2, v3, v4, v5, v6, v7].drop 1).take (Tryz.prog.cellsOf 3)) = some y1 := hf 1 _ rfl
 have t2 : DataW.trod enc Tryz.prog W 0 (fun _ => true) true n' 3 (([v0, v1, v2, v3, v4, v5, v6, v7].drop 2).take (Tryz.prog.cellsOf 3)) = some y2 := hf 2 _ rfl
 have t3 : DataW.trod enc Tryz.prog W 0 (fun _ => true) true n' 3 (([v0, v1, v2, v3, v4, v5, v6, v7].drop 3).take (Tryz.prog.cellsOf 3)) = some y3 := hf 3 _ rfl
 have t4 : DataW.trod enc Tryz.prog W 0 (fun _ => true) true n' 9 (([v0, v1, v2, v3, v4, v5, v6, v7].drop 4).take (Tryz.prog.cellsOf 9)) = some y4 := hf 4 _ rfl
 have t5 : DataW.trod enc Tryz.prog W 0 (fun _ => true) true n' 9 (([v0, v1, v2, v3, v4, v5, v6, v7].drop 5).take (Tryz.prog.cellsOf 9)) = some y5 := hf 5 _ rfl
 have t6 : DataW.trod enc Tryz.prog W 0 (fun _ => true) true n' 31 (([v0, v1, v2, v3, v4, v5, v6, v7].drop 6).take (Tryz.prog.cellsOf 31)) = some y6 := hf 6 _ rfl
 have t7 : DataW.trod enc Tryz.prog W 0 (fun _ => true) true n' 32 (([v0, v1, v2, v3, v4, v5, v6, v7].drop 7).take (Tryz.prog.cellsOf 32)) = some y7 := hf 7 _ rfl
 have cb : Tryz.prog.cellsOf 31 = 1 := by kernel_rfl
 have ce : Tryz.prog.cellsOf 32 = 1 := by kernel_rfl
 rw [cells_int] at t0 t1 t2 t3
 rw [cells_str] at t4 t5
 rw [cb] at t6
 rw [ce] at t7
 obtain ⟨z0, rfl, i0⟩ := trod_i64 t0
 obtain ⟨z1, rfl, i1⟩ := trod_i64 t1
 obtain ⟨z2, rfl, i2⟩ := trod_i64 t2
 obtain ⟨z3, rfl, i3⟩ := trod_i64 t3
 obtain ⟨pp, rfl⟩ := trod_s8 t4
 obtain ⟨qq, rfl⟩ := trod_s8 t5
 subst hy
 have hS6 := szd_agg (j := 6) hb Tryz.underlying34 rfl rfl
 have hS7 := szd_agg (j := 7) hb Tryz.underlying34 rfl rfl
 obtain ⟨dl, hd⟩ := trod_bytes t6 hS6
 obtain ⟨es, he, hek⟩ := trod_evs hW t7 hS7
 exact ⟨⟨z0, z1, z2, z3, pp, qq, dl, es⟩, ⟨v6, v7, rfl, oldB_of (by rw [hW]; exact hd), he⟩, i2, i3, hek⟩
set_option maxRecDepth 100000 in
theorem trod_rops (hW : baseW = W) {n : Nat} {v : Value} {y : DataW H × List MemPlace} (h : DataW.trod enc Tryz.prog W 0 (fun _ => true) true n 22 [v] = some y) (hb : Szd 22 y.1) : ∃ os : List Rop, IsRops W v os ∧ ∀ o ∈ os, I64 o.f.keep ∧ I64 o.f.torn ∧ ∀ e ∈ o.f.plan, I64 e.keep ∧ I64 e.torn := by
 rcases slice_parts Tryz.underlying22 Tryz.underlying36 h with ⟨hcs, hx⟩ | ⟨a, len, cap, m, D, Pl, hcs, hl, hm, hmm, rfl, hi⟩
 ·simp only [List.cons.injEq, and_true] at hcs
  subst hcs
  exact ⟨[], ⟨[], Row.nil _, fun h => (h rfl).elim, Each.nil _⟩, by simp⟩
 ·simp only [List.cons.injEq, and_true] at hcs
  subst hcs
  simp only [if_true] at hmm
  subst hmm
  obtain ⟨hs1, hs2⟩ := szd_slice hb Tryz.underlying22
  have hlen := mul_ge hs1 bytes_rop
  have hr := reachBytes_lt
  simp only [List.length_map, List.length_range] at hlen
  obtain ⟨xs, h1, -, h2⟩ := readO_of (W := W) (a := a) (len := len) (p := fun c (o : Rop) => IsRop W c o ∧ I64 o.f.keep ∧ I64 o.f.torn ∧ ∀ e ∈ o.f.plan, I64 e.keep ∧ I64 e.torn) 12 (by omega) ([], ⟨0, [], [], [], ⟨0, 0, 0, 0, [], [], [], []⟩⟩) hl hm (by omega) (fun c x hx => hx.1.length) (fun i hil => by
   obtain ⟨ys, k, cs', hD, hyl, hcl, hat, hf⟩ := hi i (by omega)
   have hSi : Szd 36 (D i) := hs2 _ (List.mem_map.2 ⟨i, by simpa using hil, rfl⟩)
   rw [cells_rop] at hcl hat
   obtain ⟨x0, x1, x2, x3, fr, rfl, hfr⟩ := list12 hcl
   obtain ⟨y0, e0, t0⟩ : ∃ y, ys[0]? = some y ∧ DataW.trod enc Tryz.prog W 0 (fun _ => true) true k 3 (((x0 :: x1 :: x2 :: x3 :: fr).drop 0).take (Tryz.prog.cellsOf 3)) = some y := hf 0 _ rfl
   obtain ⟨y1, e1, t1⟩ : ∃ y, ys[1]? = some y ∧ DataW.trod enc Tryz.prog W 0 (fun _ => true) true k 9 (((x0 :: x1 :: x2 :: x3 :: fr).drop 1).take (Tryz.prog.cellsOf 9)) = some y := hf 1 _ rfl
   obtain ⟨y2, e2, t2⟩ : ∃ y, ys[2]? = some y ∧ DataW.trod enc Tryz.prog W 0 (fun _ => true) true k 9 (((x0 :: x1 :: x2 :: x3 :: fr).drop 2).take (Tryz.prog.cellsOf 9)) = some y := hf 2 _ rfl
   obtain ⟨y3, e3, t3⟩ : ∃ y, ys[3]? = some y ∧ DataW.trod enc Tryz.prog W 0 (fun _ => true) true k 9 (((x0 :: x1 :: x2 :: x3 :: fr).drop 3).take (Tryz.prog.cellsOf 9)) = some y := hf 3 _ rfl
   obtain ⟨y4, e4, t4⟩ : ∃ y, ys[4]? = some y ∧ DataW.trod enc Tryz.prog W 0 (fun _ => true) true k 34 (((x0 :: x1 :: x2 :: x3 :: fr).drop 4).take (Tryz.prog.cellsOf 34)) = some y := hf 4 _ rfl
   rw [cells_int] at t0
   rw [cells_str] at t1 t2 t3
   rw [cells_opn] at t4
   obtain ⟨z0, rfl, i0⟩ := trod_i64 t0
   obtain ⟨pp, rfl⟩ := trod_s8 t1
   obtain ⟨qq, rfl⟩ := trod_s8 t2
   obtain ⟨rr, rfl⟩ := trod_s8 t3
   rw [hD] at hSi
   have hS4 := szd_agg (j := 4) hSi Tryz.underlying36 rfl (by rw [List.getElem?_map, e4]; rfl)
   have hd4 : ((Value.int .i64 z0 :: S8 pp :: S8 qq :: S8 rr :: fr).drop 4).take 8 = fr := List.take_of_length_le (by rw [List.drop_succ_cons, List.drop_succ_cons, List.drop_succ_cons, List.drop_succ_cons, List.drop_zero]; omega)
   rw [hd4] at t4
   obtain ⟨o, hop, ho⟩ := trod_opn hW t4 hfr hS4
   exact ⟨(_, ⟨z0, pp, qq, rr, o⟩), ⟨⟨fr, rfl, hop⟩, ho⟩, fun j u hu => hat j u hu⟩)
  exact ⟨xs, h1.mono (fun c x hx => hx.1), fun e he => by obtain ⟨c, hc⟩ := h2 e he; exact hc.2⟩
set_option maxRecDepth 100000 in
/-- An argument: operations of marlaw8. -/
theorem arg_rops (hW : baseW = W) {base : Nat} {v : Value} {d : DataW H} {p : List MemPlace} {ts : List TypeId} {ds : List (DataW H)} {j : Nat}
  (hval : Value.okWide Tryz.prog W .any base 22 v) (h : DataW.Trod enc Tryz.prog W 0 (fun _ => true) true 22 v d p)
  (hsz : (DataW.weightsEach Tryz.prog ts ds).all (· ≤ reachBytes) = true) (ht : ts[j]? = some 22) (hd : ds[j]? = some d) : ∃ os : List Rop, IsRops W v os ∧ ∀ o ∈ os, I64 o.f.keep ∧ I64 o.f.torn ∧ ∀ e ∈ o.f.plan, I64 e.keep ∧ I64 e.torn := by
 obtain ⟨a0, len, cap, rfl⟩ := okWide_slice Tryz.underlying22 hval
 obtain ⟨fuel, hf⟩ := h
 exact trod_rops hW (y := (d, p)) (by simpa [Value.cells] using hf) (szd_arg hsz ht hd)
end

end Go.Proofs.YtfimfbdlegookaaGreatDoor

/-! The hash SHA-256 in plain Lean; its digits; which texts are hashes' texts. No program in sight. Conditions: as each theorem states. -/
namespace Go.Proofs.YtfimfbdlegookaaGreatDoor
open Go Go.RowKit

def shaK : List UInt32 := [
 0x428A2F98, 0x71374491, 0xB5C0FBCF, 0xE9B5DBA5, 0x3956C25B, 0x59F111F1, 0x923F82A4, 0xAB1C5ED5,
 0xD807AA98, 0x12835B01, 0x243185BE, 0x550C7DC3, 0x72BE5D74, 0x80DEB1FE, 0x9BDC06A7, 0xC19BF174,
 0xE49B69C1, 0xEFBE4786, 0x0FC19DC6, 0x240CA1CC, 0x2DE92C6F, 0x4A7484AA, 0x5CB0A9DC, 0x76F988DA,
 0x983E5152, 0xA831C66D, 0xB00327C8, 0xBF597FC7, 0xC6E00BF3, 0xD5A79147, 0x06CA6351, 0x14292967,
 0x27B70A85, 0x2E1B2138, 0x4D2C6DFC, 0x53380D13, 0x650A7354, 0x766A0ABB, 0x81C2C92E, 0x92722C85,
 0xA2BFE8A1, 0xA81A664B, 0xC24B8B70, 0xC76C51A3, 0xD192E819, 0xD6990624, 0xF40E3585, 0x106AA070,
 0x19A4C116, 0x1E376C08, 0x2748774C, 0x34B0BCB5, 0x391C0CB3, 0x4ED8AA4A, 0x5B9CCA4F, 0x682E6FF3,
 0x748F82EE, 0x78A5636F, 0x84C87814, 0x8CC70208, 0x90BEFFFA, 0xA4506CEB, 0xBEF9A3F7, 0xC67178F2]
def shaH : List UInt32 := [0x6A09E667, 0xBB67AE85, 0x3C6EF372, 0xA54FF53A, 0x510E527F, 0x9B05688C, 0x1F83D9AB, 0x5BE0CD19]
/-- Turned to the left, as math/bits turns: by n, of which the last five bits count. -/
def rotl (x : UInt32) (n : UInt32) : UInt32 := (x <<< n) ||| (x >>> (32 - n))
def be4 (b : B8) (i : Nat) : UInt32 :=
 ((((b.getD (4 * i) 0).toUInt32 <<< 24) ||| ((b.getD (4 * i + 1) 0).toUInt32 <<< 16)) ||| ((b.getD (4 * i + 2) 0).toUInt32 <<< 8)) ||| (b.getD (4 * i + 3) 0).toUInt32
def wNext (w : List UInt32) (i : Nat) : UInt32 :=
 ((w.getD (i - 16) 0 + ((rotl (w.getD (i - 15) 0) 25 ^^^ rotl (w.getD (i - 15) 0) 14) ^^^ (w.getD (i - 15) 0 >>> 3))) + w.getD (i - 7) 0)
  + ((rotl (w.getD (i - 2) 0) 15 ^^^ rotl (w.getD (i - 2) 0) 13) ^^^ (w.getD (i - 2) 0 >>> 10))
/-- The first n words of a block's schedule. -/
def wSched (b : B8) : Nat → List UInt32
 | 0 => []
 | n + 1 => wSched b n ++ [if n < 16 then be4 b n else wNext (wSched b n) n]
/-- A round: of eight words. -/
def rnd (s : List UInt32) (k w : UInt32) : List UInt32 :=
 let e := s.getD 4 0
 let a := s.getD 0 0
 let x := (rotl e 26 ^^^ rotl e 21) ^^^ rotl e 7
 let t := (((s.getD 7 0 + x) + ((e &&& s.getD 5 0) ^^^ (~~~e &&& s.getD 6 0))) + k) + w
 let y := (rotl a 30 ^^^ rotl a 19) ^^^ rotl a 10
 let u := y + (((a &&& s.getD 1 0) ^^^ (a &&& s.getD 2 0)) ^^^ (s.getD 1 0 &&& s.getD 2 0))
 [t + u, s.getD 0 0, s.getD 1 0, s.getD 2 0, s.getD 3 0 + t, s.getD 4 0, s.getD 5 0, s.getD 6 0]
def rnds (s w : List UInt32) : Nat → List UInt32
 | 0 => s
 | n + 1 => rnd (rnds s w n) (shaK.getD n 0) (w.getD n 0)
/-- A block is taken. -/
def mixM (h : List UInt32) (b : B8) : List UInt32 := List.zipWith (· + ·) h (rnds h (wSched b 64) 64)
/-- All whole blocks are taken; what is left. -/
def absorb (h : List UInt32) (l : B8) : List UInt32 × B8 :=
 if 64 ≤ l.length then absorb (mixM h (l.take 64)) (l.drop 64) else (h, l)
termination_by l.length
decreasing_by simp; omega
/-- How many zeros stand behind the byte 128. -/
def padZ (n : Nat) : Nat := (119 - n % 64) % 64
def be8 (n : Nat) : B8 := [56, 48, 40, 32, 24, 16, 8, 0].map fun k => UInt8.ofNat (n / 2 ^ k)
def padM (n : Nat) : B8 := 128 :: (List.replicate (padZ n) 0 ++ be8 (8 * n))
def outM (x : UInt32) : B8 := [UInt8.ofNat (x >>> 24).toNat, UInt8.ofNat (x >>> 16).toNat, UInt8.ofNat (x >>> 8).toNat, UInt8.ofNat x.toNat]
def sumM (l : B8) : B8 := (absorb (absorb shaH l).1 ((absorb shaH l).2 ++ padM l.length)).1.flatMap outM
def digitsB : B8 := [48, 49, 50, 51, 52, 53, 54, 55, 56, 57, 97, 98, 99, 100, 101, 102]
def hexM (l : B8) : B8 := l.flatMap fun x => [digitsB.getD (x.toNat / 16) 0, digitsB.getD (x.toNat % 16) 0]
def shaM (l : B8) : B8 := hexM (sumM l)
/-- Which digit: its place; 16: none. -/
def digM (c : UInt8) : Nat := digitsB.idxOf c
def unhexM : B8 → Option B8
 | [] => some []
 | [_] => none
 | a :: b :: l => if digM a < 16 ∧ digM b < 16 then (unhexM l).map (UInt8.ofNat (16 * digM a + digM b) :: ·) else none
def validB (s : B8) : Bool := match unhexM s with
 | some b => b.length == 32
 | none => false

/-! ### Lengths -/
theorem rnds_len {s w : List UInt32} (h : s.length = 8) : ∀ n, (rnds s w n).length = 8
 | 0 => h
 | _ + 1 => rfl
theorem mix_len {h : List UInt32} {b : B8} (hl : h.length = 8) : (mixM h b).length = 8 := by
 unfold mixM
 rw [List.length_zipWith, hl, rnds_len hl]
 rfl
theorem sched_len (b : B8) : ∀ n, (wSched b n).length = n
 | 0 => rfl
 | n + 1 => by unfold wSched; rw [List.length_append, sched_len b n]; rfl
theorem absorb_len {h : List UInt32} {l : B8} (hl : h.length = 8) : (absorb h l).1.length = 8 ∧ (absorb h l).2.length < 64 := by
 fun_induction absorb h l with
 | case1 h l hc ih => exact ih (mix_len hl)
 | case2 h l hc => exact ⟨hl, by show l.length < 64; omega⟩
theorem flat_out (l : List UInt32) : (l.flatMap outM).length = 4 * l.length := by
 induction l with
 | nil => rfl
 | cons x l ih => rw [List.flatMap_cons, List.length_append, ih, List.length_cons]; show 4 + _ = _; omega
theorem sum_len (l : B8) : (sumM l).length = 32 := by
 unfold sumM
 rw [flat_out, (absorb_len (absorb_len (h := shaH) (l := l) rfl).1).1]
theorem hex_len (l : B8) : (hexM l).length = 2 * l.length := by
 induction l with
 | nil => rfl
 | cons x l ih =>
  have : hexM (x :: l) = [digitsB.getD (x.toNat / 16) 0, digitsB.getD (x.toNat % 16) 0] ++ hexM l := by unfold hexM; rw [List.flatMap_cons]
  rw [this, List.length_append, ih]
  simp only [List.length_cons, List.length_nil]
  omega
/-! ### Back -/
theorem dig_of : ∀ n : Nat, n < 16 → digM (digitsB.getD n 0) = n := by decide
theorem unhex_hex : ∀ l : B8, unhexM (hexM l) = some l
 | [] => rfl
 | x :: l => by
  have hx := x.toNat_lt
  have h1 : x.toNat / 16 < 16 := by omega
  have h2 : x.toNat % 16 < 16 := by omega
  have : hexM (x :: l) = digitsB.getD (x.toNat / 16) 0 :: digitsB.getD (x.toNat % 16) 0 :: hexM l := by unfold hexM; rw [List.flatMap_cons]; rfl
  rw [this]
  unfold unhexM
  rw [dig_of _ h1, dig_of _ h2, if_pos ⟨h1, h2⟩, unhex_hex l]
  have he : 16 * (x.toNat / 16) + x.toNat % 16 = x.toNat := by omega
  rw [he, UInt8.ofNat_toNat]
  rfl
theorem sha_valid (l : B8) : validB (shaM l) = true := by
 unfold validB shaM
 rw [unhex_hex]
 simp [sum_len]
theorem sha_len (l : B8) : (shaM l).length = 64 := by
 unfold shaM
 rw [hex_len, sum_len]
/-- A hash's text: 64 signs, each a digit. -/
theorem unhex_len : ∀ (s : B8) {b : B8}, unhexM s = some b → s.length = 2 * b.length ∧ ∀ c ∈ s, digM c < 16
 | [], b, h => by
  have : b = [] := by simpa [unhexM] using h.symm
  subst this
  exact ⟨rfl, fun c hc => by cases hc⟩
 | [x], b, h => by simp [unhexM] at h
 | x :: y :: l, b, h => by
  unfold unhexM at h
  split at h
  ·rename_i hd
   obtain ⟨r, hr, rfl⟩ := Option.map_eq_some_iff.1 h
   obtain ⟨h1, h2⟩ := unhex_len l hr
   refine ⟨by simp only [List.length_cons, h1]; omega, fun c hc => ?_⟩
   rcases List.mem_cons.1 hc with rfl | hc
   ·exact hd.1
   ·rcases List.mem_cons.1 hc with rfl | hc
    ·exact hd.2
    ·exact h2 c hc
  ·cases h
theorem valid_len {s : B8} (h : validB s = true) : s.length = 64 ∧ ∀ c ∈ s, digM c < 16 := by
 unfold validB at h
 split at h
 ·rename_i b hb
  have := unhex_len s hb
  have hl : b.length = 32 := by simpa using h
  rw [hl] at this
  exact this
 ·cases h

end Go.Proofs.YtfimfbdlegookaaGreatDoor

/-! Words of 32 bits: what the machine's operations make of them. Conditions: as each theorem states. -/
namespace Go.Proofs.YtfimfbdlegookaaGreatDoor
open Go Go.RowKit

abbrev U32 (x : UInt32) : Value := .int .u32 (x.toNat : Int)
theorem bv_u32 (x : UInt32) : BitVec.ofInt 32 (x.toNat : Int) = x.toBitVec := by
 apply BitVec.eq_of_toNat_eq
 have := x.toNat_lt
 rw [BitVec.toNat_ofInt]
 show ((x.toNat : Int) % 4294967296).toNat = x.toNat
 omega
theorem wrap_u32 (n : Nat) (h : n < 4294967296) : IntKind.wrap .u32 (n : Int) = (n : Int) := by
 unfold IntKind.wrap IntKind.bits IntKind.signed
 simp
 omega
theorem bits_and32 (x y : UInt32) : bits .and .u32 (x.toNat : Int) (y.toNat : Int) = ((x &&& y).toNat : Int) := by
 have h := (x &&& y).toNat_lt
 unfold bits
 show IntKind.wrap .u32 ((BitVec.ofInt 32 (x.toNat : Int) &&& BitVec.ofInt 32 (y.toNat : Int)).toNat : Int) = _
 rw [bv_u32, bv_u32]
 exact wrap_u32 _ h
theorem bits_or32 (x y : UInt32) : bits .or .u32 (x.toNat : Int) (y.toNat : Int) = ((x ||| y).toNat : Int) := by
 have h := (x ||| y).toNat_lt
 unfold bits
 show IntKind.wrap .u32 ((BitVec.ofInt 32 (x.toNat : Int) ||| BitVec.ofInt 32 (y.toNat : Int)).toNat : Int) = _
 rw [bv_u32, bv_u32]
 exact wrap_u32 _ h
theorem bits_xor32 (x y : UInt32) : bits .xor .u32 (x.toNat : Int) (y.toNat : Int) = ((x ^^^ y).toNat : Int) := by
 have h := (x ^^^ y).toNat_lt
 unfold bits
 show IntKind.wrap .u32 ((BitVec.ofInt 32 (x.toNat : Int) ^^^ BitVec.ofInt 32 (y.toNat : Int)).toNat : Int) = _
 rw [bv_u32, bv_u32]
 exact wrap_u32 _ h
theorem bits_not32 (x : UInt32) : bits .xor .u32 4294967295 (x.toNat : Int) = ((~~~x).toNat : Int) := by
 have h := (~~~x).toNat_lt
 unfold bits
 show IntKind.wrap .u32 ((BitVec.ofInt 32 4294967295 ^^^ BitVec.ofInt 32 (x.toNat : Int)).toNat : Int) = _
 rw [bv_u32]
 have he : (BitVec.ofInt 32 4294967295 ^^^ x.toBitVec) = ~~~ x.toBitVec := by
  rw [show BitVec.ofInt 32 4294967295 = BitVec.allOnes 32 from rfl, BitVec.allOnes_xor]
 rw [he]
 exact wrap_u32 _ h
theorem add32 (x y : UInt32) : ((x.toNat : Int) + (y.toNat : Int)) % 4294967296 = ((x + y).toNat : Int) := by
 rw [UInt32.toNat_add]
 omega
theorem shr32 (x : UInt32) (k : Nat) (hk : k < 32) : (x.toNat : Int) / (2 ^ k : Int) = ((x >>> UInt32.ofNat k).toNat : Int) := by
 have hn : (UInt32.ofNat k).toNat = k := by simp; omega
 rw [UInt32.toNat_shiftRight, hn, Nat.mod_eq_of_lt hk, Nat.shiftRight_eq_div_pow]
 simp
theorem shl32 (x : UInt32) (k : Nat) (hk : k < 32) : ((x.toNat : Int) * (2 ^ k : Int)) % 4294967296 = ((x <<< UInt32.ofNat k).toNat : Int) := by
 have hn : (UInt32.ofNat k).toNat = k := by simp; omega
 rw [UInt32.toNat_shiftLeft, hn, Nat.mod_eq_of_lt hk, Nat.shiftLeft_eq]
 simp
end Go.Proofs.YtfimfbdlegookaaGreatDoor

/-! sha.Hex, Unhex, Valid: bytes as hexadecimal digits, and back. Conditions: at most 3000000 of them. -/
namespace Go.Proofs.YtfimfbdlegookaaGreatDoor
open Go Go.RowKit

theorem and15 : ∀ n : Nat, n < 256 → bits BinOp.and IntKind.u8 (n : Int) 15 = ((n % 16 : Nat) : Int) := by decide +kernel
theorem hex_hi (y : UInt8) (h : (y.toNat : Int) / 16 < 16) : Value.int .u8 ((digitsB.toArray[((y.toNat : Int) / 16).toNat]'(by simp [digitsB]; omega)).toNat : Int) = .int .u8 (digitsB.getD (y.toNat / 16) 0).toNat := by
 have e : ((y.toNat : Int) / 16).toNat = y.toNat / 16 := by omega
 have h16 : y.toNat / 16 < digitsB.length := by have := y.toNat_lt; simp [digitsB]; omega
 simp only [e, List.getElem_toArray, List.getD_eq_getElem?_getD, h16, List.getElem?_eq_getElem, Option.getD_some]
theorem hex_lo (y : UInt8) (h : ((y.toNat % 16 : Nat) : Int) < 16) : Value.int .u8 ((digitsB.toArray[(((y.toNat % 16 : Nat) : Int)).toNat]'(by simp [digitsB]; omega)).toNat : Int) = .int .u8 (digitsB.getD (y.toNat % 16) 0).toNat := by
 have e : (((y.toNat % 16 : Nat) : Int)).toNat = y.toNat % 16 := by omega
 have h16 : y.toNat % 16 < digitsB.length := by simp [digitsB]; omega
 simp only [e, List.getElem_toArray, List.getD_eq_getElem?_getD, h16, List.getElem?_eq_getElem, Option.getD_some]
theorem hex_snoc {l : B8} {k : Nat} (h : k < l.length) {y : UInt8} (hy : l.getD k 0 = y) : hexM (l.take (k + 1)) = hexM (l.take k) ++ [digitsB.getD (y.toNat / 16) 0, digitsB.getD (y.toNat % 16) 0] := by
 rw [List.take_succ_eq_append_getElem h]
 have : l[k] = y := by rw [← hy]; simp [h]
 simp [hexM, this]

set_option maxRecDepth 100000 in
set_option maxHeartbeats 400000 in
theorem hex_any (v : Value) (l : B8) (w : World) (hv : IsBytes w v l) (hl : l.length ≤ 3000000) :
  Calls Tryz.prog 121 #[v] w fun e w' => e = .returned (S8 (hexM l)) ∧ Ext w w' := by
 obtain ⟨a, cap, rfl, h1, h2, h3, h4⟩ := hv.get
 have H4 : Hid _ := h4
 clear h4 hv
 go_enter Tryz.func121, Tryz.ntmps121
 go_wp2
 go_loopw [3, 8] (fun v i wr => ∃ k : Nat, k ≤ l.length ∧ i = .int .i64 k ∧ wr.ownsRow w.heap.size 5 1 v (2 * k) ((hexM (l.take k)).map fun x => .int .u8 x.toNat) ∧ Ext w wr) (fun _ i _ => l.length - (intOf i).toNat)
 case atStart => exact ⟨0, Nat.zero_le _, rfl, World.ownsRow_nil _ _ _ _, Ext.refl _⟩
 case round =>
  obtain ⟨k, hk, rfl, hown, hx⟩ := hrel
  by_cases hlt : k < l.length
  ·obtain ⟨b, o, rfl, hc⟩ := H4.out k hlt
   have hck := hx.cell (hc k hlt)
   clear hc
   generalize hy : l.getD k 0 = y at hck
   have HY : Hid _ := hy
   clear hy
   have hy256 : y.toNat < 256 := y.toNat_lt
   have ha : bits BinOp.and IntKind.u8 (y.toNat : Int) 15 = ((y.toNat % 16 : Nat) : Int) := and15 _ hy256
   have HA : Hid _ := ha
   clear ha
   go_wp2
   apply wp_region_mix 8 [_, _, _, .int .u8 (digitsB.getD (y.toNat / 16) 0).toNat, _, _, .int .u8 (digitsB.getD (y.toNat % 16) 0).toNat, undef] [none, none, none, none, none, none, none, some (fun u w' => ∃ g, u = .slice (some ⟨g, 0, none⟩) 2 2 ∧ wr.heap.size ≤ g ∧ w'.heap[g]? = some (.cells #[.int .u8 (digitsB.getD (y.toNat / 16) 0).toNat, .int .u8 (digitsB.getD (y.toNat % 16) 0).toNat] 5 (0, 0)))] [[], [], [1], [2], [], [4], [5], [3, 6]] (by kernel_rfl) (by kernel_rfl) (by simp [mixV])
   ·refine ⟨?_, trivial⟩
    ·exact fun u w w' he ⟨g, h1, h2, h3⟩ => ⟨g, h1, h2, (he.block g (Array.getElem?_eq_some_iff.1 h3).1).trans h3⟩
   ·simp (maxSteps := 1000000) only [List.take_succ_cons, List.take_zero, oblFrom, stepObl, fillFrom, Act.put, List.setIfInBounds_toArray, List.set_cons_zero, List.set_cons_succ, knows, getV, mixV, List.getD_cons_zero, List.getD_cons_succ, and_true, true_and, forall_const]
    refine ⟨?_, ?_, ?_, ?_, ?_, ?_, ?_, ?_⟩
    ·intro xs wq hq R hR
     go_simp
     exact hR _ _ (Ext.refl _) rfl
    ·intro xs wq hq R hR
     go_simp
     exact hR _ _ (Ext.refl _) rfl
    ·intro xs wq hq hk R hR
     go_simp
     exact hR _ _ (Ext.refl _) rfl
    ·intro xs wq hq hk R hR
     go_simp
     rw [dif_pos ⟨by omega, by omega⟩]
     exact hR _ _ (Ext.refl _) (hex_hi y (by omega))
    ·intro xs wq hq R hR
     go_simp
     exact hR _ _ (Ext.refl _) rfl
    ·intro xs wq hq hk R hR
     go_simp
     exact hR _ _ (Ext.refl _) rfl
    ·intro xs wq hq hk R hR
     go_simp
     rw [HA.out, dif_pos ⟨by omega, by omega⟩]
     exact hR _ _ (Ext.refl _) (hex_lo y (by omega))
    ·intro xs wq hq hk R hR
     obtain ⟨hk0, hk1⟩ := hk
     go_simp
     exact hR _ _ ((Ext.refl _).alloc _) ⟨_, rfl, hq.size, alloc_at _ _⟩
   intro xs w2 hx2 hk
   simp only [heldV, Nat.zero_add, Nat.reduceAdd, and_true] at hk
   obtain ⟨q0, q1, q2, q3, q4, q5, q6, q7⟩ := hk
   simp (maxSteps := 1000000) only [List.take_succ_cons, List.take_zero, List.drop_succ_cons, List.drop_zero, fillFrom, Act.put, List.setIfInBounds_toArray, List.set_cons_zero, List.set_cons_succ, Nat.zero_add, Nat.reduceAdd, q0, q1, q2, q3, q4, q5, q6]
   clear q0 q1 q2 q3 q4 q5 q6
   generalize xs 7 = x7 at *
   obtain ⟨g, rfl, hg1, hg2⟩ := q7
   have hown2 := owns_ext hown hx2
   have hlen := hex_len (l.take k)
   go_wp2_with (at_builtin; refine app_u8 rfl _ _ rfl w.heap.size _ (2 * k) _ rfl hown2 g 2 2 [digitsB.getD (y.toNat / 16) 0, digitsB.getD (y.toNat % 16) 0] rfl rfl hg2 (by omega) (by have := (hx.trans hx2).size; exact this) ?_; intro v' w3 hown3 hg3)
   go_roundw
   case rel => exact ⟨k + 1, by omega, by go_num, by rw [hex_snoc hlt HY.out]; exact hown3, owns_ext_app (hx.trans hx2) hown2 hg3⟩
   case measure => simp [intOf]; omega
  ·have hkk : k = l.length := by omega
   subst hkk
   rw [List.take_length] at hown
   have hlen := hex_len l
   have hcv := conv_bytes (l := hexM l) (by unfold IsBytes; rw [hlen]; exact Row.of_owns hown (by omega))
   clear hlen
   go_wp2
   go_ret
   exact ⟨rfl, hx⟩

/-! ### Unhex -/
theorem index_dig : ∀ n : Fin 256, Lib.indexByte digitsB (UInt8.ofNat n) = if digM (UInt8.ofNat n) < 16 then (digM (UInt8.ofNat n) : Int) else -1 := by decide +kernel
theorem index_digM (c : UInt8) : Lib.indexByte digitsB c = if digM c < 16 then (digM c : Int) else -1 := by
 have := index_dig ⟨c.toNat, c.toNat_lt⟩
 simpa using this
theorem or16 : ∀ a b : Fin 16, bits BinOp.or IntKind.i64 ((a.val : Int) * 16) (b.val : Int) = (a.val : Int) * 16 + b.val := by decide +kernel
theorem idx_val {l : B8} {i : Int} {n : Nat} {x : UInt8} (hi : i = n) (hx : l.getD n 0 = x) (h : i.toNat < (⟨l.toArray⟩ : ByteArray).size) : Value.int .u8 (((⟨l.toArray⟩ : ByteArray)[i.toNat]).toNat : Int) = .int .u8 x.toNat := by
 subst hi
 have h' : n < l.length := h
 have : (⟨l.toArray⟩ : ByteArray)[(n : Int).toNat] = l[n] := rfl
 rw [this, ← hx]
 simp [h']
theorem ix_val (l : B8) (x : UInt8) {r : Int} (hr : Lib.indexByte l x = r) : Value.int .i64 (Lib.indexByte l ((x.toNat : Int).toNat.toUInt8)) = .int .i64 r := by
 rw [← hr]; simp
theorem unhex_two (x y : UInt8) (l : B8) : unhexM (x :: y :: l) = if digM x < 16 ∧ digM y < 16 then (unhexM l).map (UInt8.ofNat (16 * digM x + digM y) :: ·) else none := rfl
theorem unhex_append : ∀ (a b : B8), a.length % 2 = 0 → unhexM (a ++ b) = (unhexM a).bind fun x => (unhexM b).map (x ++ ·)
 | [], b, _ => by simp [unhexM]
 | [x], b, h => by simp at h
 | x :: y :: a, b, h => by
  have ih := unhex_append a b (by simp only [List.length_cons] at h; omega)
  rw [List.cons_append, List.cons_append, unhex_two, unhex_two, ih]
  by_cases hd : digM x < 16 ∧ digM y < 16
  ·rw [if_pos hd, if_pos hd]
   cases unhexM a with
   | none => rfl
   | some r => cases unhexM b <;> rfl
  ·rw [if_neg hd, if_neg hd]
   rfl
theorem unhex_odd {l : B8} (h : l.length % 2 = 1) : unhexM l = none := by
 cases hu : unhexM l with
 | none => rfl
 | some b => have := (unhex_len l hu).1; omega
theorem unhex_snoc {l bs : B8} {k : Nat} {x y : UInt8} (h : 2 * k + 1 < l.length) (hx : l.getD (2 * k) 0 = x) (hy : l.getD (2 * k + 1) 0 = y) (hu : unhexM (l.take (2 * k)) = some bs) :
  l.take (2 * (k + 1)) = l.take (2 * k) ++ [x, y] ∧ unhexM (l.take (2 * (k + 1))) = (if digM x < 16 ∧ digM y < 16 then some (bs ++ [UInt8.ofNat (16 * digM x + digM y)]) else none) := by
 have he : l.take (2 * (k + 1)) = l.take (2 * k) ++ [x, y] := by
  have h1 : l[2 * k]? = some x := by rw [← hx]; simp [List.getD_eq_getElem?_getD, show 2 * k < l.length by omega]
  have h2 : l[2 * k + 1]? = some y := by rw [← hy]; simp [List.getD_eq_getElem?_getD, h]
  rw [show 2 * (k + 1) = 2 * k + 1 + 1 by omega, List.take_add_one, List.take_add_one, h1, h2, List.append_assoc]
  rfl
 refine ⟨he, ?_⟩
 rw [he, unhex_append _ _ (by rw [List.length_take]; omega), hu]
 by_cases hd : digM x < 16 ∧ digM y < 16
 ·rw [if_pos hd]
  simp [unhexM, hd.1, hd.2]
 ·rw [if_neg hd]
  simp only [unhexM, if_neg hd]
  rfl
theorem unhex_none {l bs : B8} {k : Nat} {x y : UInt8} (h : 2 * k + 1 < l.length) (hx : l.getD (2 * k) 0 = x) (hy : l.getD (2 * k + 1) 0 = y) (hu : unhexM (l.take (2 * k)) = some bs) (hd : ¬ (digM x < 16 ∧ digM y < 16)) : unhexM l = none := by
 obtain ⟨h1, h2⟩ := unhex_snoc h hx hy hu
 rw [if_neg hd] at h2
 have := unhex_append (l.take (2 * (k + 1))) (l.drop (2 * (k + 1))) (by rw [List.length_take]; omega)
 rw [List.take_append_drop, h2] at this
 exact this
def UnhexPost (l : B8) (w : World) (e : Ending) (w' : World) : Prop :=
 (match unhexM l with
  | some b => ∃ v, e = .returned (.tuple #[v, .bool true]) ∧ IsBytes w' v b
  | none => e = .returned (.tuple #[.slice none 0 0, .bool false])) ∧ Ext w w'

set_option maxRecDepth 100000 in
set_option maxHeartbeats 800000 in
theorem unhex_any (l : B8) (w : World) (hl : l.length ≤ 3000000) :
  Calls Tryz.prog 58 #[S8 l] w (UnhexPost l w) := by
 have hd : (⟨l.toArray⟩ : ByteArray).toList = l := Lib.toList_data _
 by_cases hodd : l.length % 2 = 0
 ·obtain ⟨m, hm⟩ : ∃ m, l.length = 2 * m := ⟨l.length / 2, by omega⟩
  have hmod : (l.length : Int).tmod 2 = 0 := by
   rw [hm]
   exact Int.tmod_eq_zero_of_dvd ⟨(m : Int), by push_cast; rfl⟩
  have HM : Hid _ := hm
  clear hodd
  go_enter Tryz.func58, Tryz.ntmps58
  go_wp2
  clear hmod
  go_loopw [4, 5] (fun v i wr => ∃ (k : Nat) (bs : B8), 2 * k ≤ l.length ∧ i = .int .i64 (2 * k) ∧ bs.length = k ∧ Hid (unhexM (l.take (2 * k)) = some bs) ∧ wr.ownsRow w.heap.size 5 1 v k (bs.map fun x => .int .u8 x.toNat) ∧ Ext w wr) (fun _ i _ => l.length - (intOf i).toNat)
  case atStart => exact ⟨0, [], Nat.zero_le _, rfl, rfl, rfl, World.ownsRow_nil _ _ _ _, Ext.refl _⟩
  case round =>
   obtain ⟨k, bs, hk, rfl, hbl, HU, hown, hx⟩ := hrel
   have hm := HM.out
   by_cases hlt : 2 * k < l.length
   ·have hlt1 : 2 * k + 1 < l.length := by omega
    have hl1 : 2 * (k : Int) < (l.length : Int) := by omega
    have hl2 : (2 * (k : Int) + 1) < (l.length : Int) := by omega
    have hwr : IntKind.i64.wrap (2 * (k : Int) + 1) = 2 * (k : Int) + 1 := IntWalk.i64_in _ (by omega)
    have HW : Hid _ := hwr
    obtain ⟨x, hxe⟩ : ∃ x, l.getD (2 * k) 0 = x := ⟨_, rfl⟩
    obtain ⟨y, hye⟩ : ∃ y, l.getD (2 * k + 1) 0 = y := ⟨_, rfl⟩
    have HX : Hid _ := hxe
    have HY : Hid _ := hye
    obtain ⟨r, hr⟩ : ∃ r, Lib.indexByte digitsB x = r := ⟨_, rfl⟩
    obtain ⟨s, hs⟩ : ∃ s, Lib.indexByte digitsB y = s := ⟨_, rfl⟩
    have HRX : Hid _ := hr
    have HSY : Hid _ := hs
    have hrv := index_digM x
    have hsv := index_digM y
    rw [hr] at hrv
    rw [hs] at hsv
    have HRV : Hid _ := hrv
    have HSV : Hid _ := hsv
    clear hwr hm hxe hye hr hs hrv hsv
    go_wp2
    apply wp_region_mix 9 [_, _, .int .u8 x.toNat, .int .i64 r, _, _, _, .int .u8 y.toNat, .int .i64 s] [none, none, none, none, none, none, none, none, none] [[], [], [0, 1], [2], [], [], [5], [4, 6], [7]] (by kernel_rfl) (by kernel_rfl) (by simp [mixV])
    ·trivial
    ·simp (maxSteps := 1000000) only [List.take_succ_cons, List.take_zero, oblFrom, stepObl, fillFrom, Act.put, List.setIfInBounds_toArray, List.set_cons_zero, List.set_cons_succ, knows, getV, mixV, List.getD_cons_zero, List.getD_cons_succ, and_true, true_and, forall_const]
     refine ⟨?_, ?_, ?_, ?_, ?_, ?_, ?_, ?_, ?_⟩
     ·intro xs wq hq R hR
      go_simp
      exact hR _ _ (Ext.refl _) rfl
     ·intro xs wq hq R hR
      go_simp
      exact hR _ _ (Ext.refl _) rfl
     ·intro xs wq hq hk R hR
      obtain ⟨hk0, hk1⟩ := hk
      go_simp
      rw [dif_pos (by omega)]
      exact hR _ _ (Ext.refl _) (idx_val (by omega) HX.out (by show (2 * (k : Int)).toNat < l.length; omega))
     ·intro xs wq hq hk R hR
      go_simp
      refine (Tryz.strings_IndexByte ⟨digitsB.toArray⟩ x.toNat _).mono ?_
      rintro e w2 ⟨rfl, rfl⟩
      exact ⟨_, rfl, hR _ _ (Ext.refl _) (ix_val _ x HRX.out)⟩
     ·intro xs wq hq R hR
      go_simp
      exact hR _ _ (Ext.refl _) rfl
     ·intro xs wq hq R hR
      go_simp
      exact hR _ _ (Ext.refl _) rfl
     ·intro xs wq hq hk R hR
      go_simp
      exact hR _ _ (Ext.refl _) rfl
     ·intro xs wq hq hk R hR
      obtain ⟨hk0, hk1⟩ := hk
      go_simp
      simp only [HW.out]
      rw [dif_pos ⟨by omega, by omega⟩]
      exact hR _ _ (Ext.refl _) (idx_val (by omega) HY.out (by show (2 * (k : Int) + 1).toNat < l.length; omega))
     ·intro xs wq hq hk R hR
      go_simp
      refine (Tryz.strings_IndexByte ⟨digitsB.toArray⟩ y.toNat _).mono ?_
      rintro e w2 ⟨rfl, rfl⟩
      exact ⟨_, rfl, hR _ _ (Ext.refl _) (ix_val _ y HSY.out)⟩
    intro xs w2 hx2 hk
    simp only [heldV, Nat.zero_add, Nat.reduceAdd, and_true] at hk
    obtain ⟨q0, q1, q2, q3, q4, q5, q6, q7, q8⟩ := hk
    simp (maxSteps := 1000000) only [List.take_succ_cons, List.take_zero, List.drop_succ_cons, List.drop_zero, fillFrom, Act.put, List.setIfInBounds_toArray, List.set_cons_zero, List.set_cons_succ, Nat.zero_add, Nat.reduceAdd, q0, q1, q2, q3, q4, q5, q6, q7, q8]
    clear q0 q1 q2 q3 q4 q5 q6 q7 q8
    have hrv := HRV.out
    have hsv := HSV.out
    have hx2' := Ext.trans hx hx2
    by_cases hxd : digM x < 16
    ·rw [if_pos hxd] at hrv
     by_cases hyd : digM y < 16
     ·rw [if_pos hyd] at hsv
      obtain ⟨z, hz⟩ : ∃ z, UInt8.ofNat (16 * digM x + digM y) = z := ⟨_, rfl⟩
      have hbv : bits BinOp.or IntKind.i64 (r * 16) s % 256 = (z.toNat : Int) := by
       have := or16 ⟨digM x, hxd⟩ ⟨digM y, hyd⟩
       simp only at this
       rw [hrv, hsv, this, ← hz]
       simp only [UInt8.toNat_ofNat']
       omega
      have HZ : Hid _ := hz
      have hr0 : ¬ r < 0 := by omega
      have hs0 : ¬ s < 0 := by omega
      have hr16 : r < 16 := by omega
      have hs16 : s < 16 := by omega
      have HXD : Hid _ := hxd
      have HYD : Hid _ := hyd
      have hown2 := owns_ext hown hx2
      have hsz := hx2'.size
      clear hrv hsv hz hxd hyd hown
      go_wp2_with (at_builtin; go_must (refine app_u8 rfl _ _ rfl w.heap.size _ k _ rfl (hown2.alloc _) w2.heap.size 1 1 [z] rfl rfl (alloc_at _ _) (by omega) (by simp; omega) ?_; intro v' w3 hown3 hg3))
      go_roundw
      case rel => exact ⟨k + 1, bs ++ [z], by omega, by go_num, by simp [hbl], by unfold Hid; rw [(unhex_snoc hlt1 HX.out HY.out HU.out).2, if_pos ⟨HXD.out, HYD.out⟩, HZ.out], by simpa using hown3, owns_ext_app (hx2'.alloc _) (hown2.alloc _) hg3⟩
      case measure => simp [intOf]; omega
     ·rw [if_neg hyd] at hsv
      have HN : Hid _ := unhex_none hlt1 HX.out HY.out HU.out (fun h => hyd h.2)
      have hr0 : ¬ r < 0 := by omega
      have hs0 : s < 0 := by omega
      clear hrv hsv hxd hyd
      go_wp2
      go_ret2
      unfold UnhexPost
      rw [HN.out]
      exact ⟨rfl, hx2'⟩
    ·rw [if_neg hxd] at hrv
     have HN : Hid _ := unhex_none hlt1 HX.out HY.out HU.out (fun h => hxd h.1)
     have hr0 : r < 0 := by omega
     clear hrv hsv hxd
     go_wp2
     go_ret2
     unfold UnhexPost
     rw [HN.out]
     exact ⟨rfl, hx2'⟩
   ·have hg : ¬ (2 * (k : Int)) < (l.length : Int) := by omega
    have hlk : 2 * k = l.length := by omega
    have hu := HU.out
    rw [hlk, List.take_length] at hu
    have HUL : Hid _ := hu
    have hb : IsBytes wr u4 bs := by
     unfold IsBytes
     rw [hbl]
     exact Row.of_owns hown (by omega)
    have HBS : Hid _ := hb
    clear hb hown hu hlk hm
    go_wp2
    go_ret2
    unfold UnhexPost
    rw [HUL.out]
    exact ⟨⟨_, rfl, HBS.out⟩, hx⟩
 ·have ho : l.length % 2 = 1 := by omega
  have hmod : (l.length : Int).tmod 2 = 1 := by rw [Int.tmod_eq_emod_of_nonneg (by omega)]; omega
  have HN : Hid _ := unhex_odd ho
  clear hodd ho
  go_enter Tryz.func58, Tryz.ntmps58
  go_wp2
  go_ret2
  unfold UnhexPost
  rw [HN.out]
  exact ⟨rfl, Ext.refl _⟩

set_option maxRecDepth 100000 in
theorem valid_any (l : B8) (w : World) (hl : l.length ≤ 3000000) :
  Calls Tryz.prog 14 #[S8 l] w fun e w' => e = .returned (.bool (validB l)) ∧ Ext w w' := by
 go_enter Tryz.func14, Tryz.ntmps14
 go_wp2_with fail
 go_at_call 58
 refine (unhex_any l w hl).mono ?_
 rintro e w1 ⟨h, hx⟩
 have HV : Hid (validB l = match unhexM l with | some b => b.length == 32 | none => false) := rfl
 cases hu : unhexM l with
 | none =>
  rw [hu] at h
  have HV2 : Hid (validB l = false) := by unfold Hid; rw [HV.out, hu]
  subst h
  clear hu HV
  go_wp2
  go_ret
  exact ⟨by rw [HV2.out]; rfl, hx⟩
 | some b =>
  rw [hu] at h
  obtain ⟨v, rfl, hb⟩ := h
  obtain ⟨s1, s2, rfl, -⟩ := id hb
  have hv : validB l = (b.length == 32) := by rw [HV.out, hu]
  have hlen := (unhex_len l hu).1
  have hbe : (((b.length : Nat) : Int) == 32) = validB l := by
   rw [hv]
   by_cases h32 : b.length = 32
   ·rw [h32]; rfl
   ·have h1 : (b.length == 32) = false := by simpa using h32
    rw [h1]
    simp only [beq_eq_false_iff_ne, ne_eq]
    omega
  have HBE : Hid _ := hbe
  clear hu HV hv hb hbe hlen
  go_wp2
  go_ret
  exact ⟨by rw [← HBE.out]; rfl, hx⟩

end Go.Proofs.YtfimfbdlegookaaGreatDoor

/-! A region that draws its order and only reads, walked once: each step's rest behind a structure, so that nothing of it is unfolded ahead of its turn. Conditions: as each theorem states. -/
namespace Go.Proofs.YtfimfbdlegookaaGreatDoor
open Go Go.RowKit Go.Sort

structure QW (p : Prop) : Prop where
 out : p
section
variable {P : Program} {ops : Array Oper} {C : World → Prop}
end
theorem Ext.drawn (w : World) (n : Nat) : Ext w (w.drewN n) := ⟨rfl, rfl, rfl, Nat.le_refl _, fun _ _ => rfl⟩
end Go.Proofs.YtfimfbdlegookaaGreatDoor

/-! sha: words turned; the schedule of a block. Conditions: as each theorem states. -/
namespace Go.Proofs.YtfimfbdlegookaaGreatDoor
open Go Go.RowKit

theorem sub_of (s : Nat) (hs : s < 32) : (32 : UInt32) - UInt32.ofNat s = UInt32.ofNat (32 - s) := by
 apply UInt32.toNat_inj.1
 have h1 : (UInt32.ofNat s).toNat = s := by simp; omega
 have h2 : (UInt32.ofNat (32 - s)).toNat = 32 - s := by simp; omega
 rw [UInt32.toNat_sub_of_le _ _ (by rw [UInt32.le_iff_toNat_le, h1]; show s ≤ 32; omega), h1, h2]
 rfl
set_option maxRecDepth 100000 in
theorem rotl_any (x : UInt32) (k s : Nat) (w : World) (hs0 : 0 < s) (hs : s < 32) (hb : bits BinOp.and IntKind.u64 (IntKind.u64.wrap (-(k : Int))) 31 = (s : Int)) :
  Calls Tryz.prog 243 #[U32 x, .int .i64 (-(k : Int))] w fun e w' => e = .returned (U32 (rotl x (UInt32.ofNat s))) ∧ w' = w := by
 have h1 : (0 : Int) ≤ (s : Int) := by omega
 have h2 : (s : Int) ≤ 32 := by omega
 have h3 : IntKind.u64.wrap (32 - (s : Int)) = ((32 - s : Nat) : Int) := by rw [IntWalk.u64_in _ (by omega)]; omega
 have h4 : (0 : Int) ≤ ((32 - s : Nat) : Int) := by omega
 have h5 : ((32 - s : Nat) : Int) ≤ 32 := by omega
 have HV : Hid (Value.int IntKind.u32 (bits BinOp.or IntKind.u32 (↑x.toNat * 2 ^ s % 4294967296) (↑x.toNat / 2 ^ (32 - s))) = U32 (rotl x (UInt32.ofNat s))) := by
  unfold Hid rotl
  rw [shl32 x s hs, shr32 x (32 - s) (by omega), bits_or32, sub_of s hs]
 go_enter Tryz.func243, Tryz.ntmps243
 go_wp2
 go_ret
 exact ⟨congrArg Ending.returned HV.out, rfl⟩
theorem rot6 (x : UInt32) (w : World) : Calls Tryz.prog 243 #[U32 x, .int .i64 (-6)] w fun e w' => e = .returned (U32 (rotl x 26)) ∧ w' = w := rotl_any x 6 26 w (by decide) (by decide) (by decide +kernel)
theorem rot11 (x : UInt32) (w : World) : Calls Tryz.prog 243 #[U32 x, .int .i64 (-11)] w fun e w' => e = .returned (U32 (rotl x 21)) ∧ w' = w := rotl_any x 11 21 w (by decide) (by decide) (by decide +kernel)
theorem rot25 (x : UInt32) (w : World) : Calls Tryz.prog 243 #[U32 x, .int .i64 (-25)] w fun e w' => e = .returned (U32 (rotl x 7)) ∧ w' = w := rotl_any x 25 7 w (by decide) (by decide) (by decide +kernel)
theorem rot2 (x : UInt32) (w : World) : Calls Tryz.prog 243 #[U32 x, .int .i64 (-2)] w fun e w' => e = .returned (U32 (rotl x 30)) ∧ w' = w := rotl_any x 2 30 w (by decide) (by decide) (by decide +kernel)
theorem rot13 (x : UInt32) (w : World) : Calls Tryz.prog 243 #[U32 x, .int .i64 (-13)] w fun e w' => e = .returned (U32 (rotl x 19)) ∧ w' = w := rotl_any x 13 19 w (by decide) (by decide) (by decide +kernel)
theorem rot22 (x : UInt32) (w : World) : Calls Tryz.prog 243 #[U32 x, .int .i64 (-22)] w fun e w' => e = .returned (U32 (rotl x 10)) ∧ w' = w := rotl_any x 22 10 w (by decide) (by decide) (by decide +kernel)
theorem rot7 (x : UInt32) (w : World) : Calls Tryz.prog 243 #[U32 x, .int .i64 (-7)] w fun e w' => e = .returned (U32 (rotl x 25)) ∧ w' = w := rotl_any x 7 25 w (by decide) (by decide) (by decide +kernel)
theorem rot18 (x : UInt32) (w : World) : Calls Tryz.prog 243 #[U32 x, .int .i64 (-18)] w fun e w' => e = .returned (U32 (rotl x 14)) ∧ w' = w := rotl_any x 18 14 w (by decide) (by decide) (by decide +kernel)
theorem rot17 (x : UInt32) (w : World) : Calls Tryz.prog 243 #[U32 x, .int .i64 (-17)] w fun e w' => e = .returned (U32 (rotl x 15)) ∧ w' = w := rotl_any x 17 15 w (by decide) (by decide) (by decide +kernel)
theorem rot19 (x : UInt32) (w : World) : Calls Tryz.prog 243 #[U32 x, .int .i64 (-19)] w fun e w' => e = .returned (U32 (rotl x 13)) ∧ w' = w := rotl_any x 19 13 w (by decide) (by decide) (by decide +kernel)

end Go.Proofs.YtfimfbdlegookaaGreatDoor
