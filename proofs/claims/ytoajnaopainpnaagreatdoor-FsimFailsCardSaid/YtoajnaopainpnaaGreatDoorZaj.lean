/- What FsimSafe, FsimKeeps, FsimFails say, of the file system in plain Lean. Conditions: as each theorem states. -/
import Derived.Test.YtoajnaopainpnaaGreatDoorZai

set_option linter.unusedVariables false
set_option linter.unusedSimpArgs false

/-! What FsimSafe, FsimKeeps, FsimFails say, of the file system in plain Lean. Conditions: as each theorem states. -/
namespace Go.Proofs.YtoajnaopainpnaaGreatDoor
open Go Go.RowKit

/-! ### Runs of calls -/
def runL (m : Fs) (l : List Opn) : Fs := l.foldl stepM m
theorem run_snoc {m : Fs} {l : List Opn} {k : Nat} {o : Opn} (h : l[k]? = some o) : runL m (l.take (k + 1)) = stepM (runL m (l.take k)) o := by
  obtain ⟨hlt, rfl⟩ := (List.getElem?_eq_some_iff.1 h)
  unfold runL
  rw [List.take_succ_eq_append_getElem hlt, List.foldl_append]
  rfl
def stepK (m : Fs) (o : Opn) : Fs := if o.kind = 5 then m else stepM m o
def runK (m : Fs) (l : List Opn) : Fs := l.foldl stepK m
theorem runK_snoc {m : Fs} {l : List Opn} {k : Nat} {o : Opn} (h : l[k]? = some o) : runK m (l.take (k + 1)) = stepK (runK m (l.take k)) o := by
  obtain ⟨hlt, rfl⟩ := (List.getElem?_eq_some_iff.1 h)
  unfold runK
  rw [List.take_succ_eq_append_getElem hlt, List.foldl_append]
  rfl
/-- Nothing planned, up. -/
structure Idle (m : Fs) : Prop where
  plan : m.plan = []
  down : m.down = false
theorem idle_step {m : Fs} {o : Opn} (h : Idle m) (h0 : 0 ≤ o.kind) (h7 : o.kind ≤ 7) : Idle (stepM m o) := by
  have hc := call_calm h.plan h.down
  have hk : ∀ n, Idle { m with calls := n } := fun n => ⟨h.plan, h.down⟩
  have hd : ∀ n c, Idle (does { m with calls := n } c) := fun n c => ⟨h.plan, h.down⟩
  have gp : ∀ only, Idle (putM (callM m) o.path o.mode o.data only).1 := by
    intro only
    rw [hc]
    unfold putM putsM
    repeat' split
    all_goals first | exact hk _ | exact hd _ _
  have gm : ∀ fresh, Idle (moveM m o.path o.dest fresh).1 := by
    intro fresh
    unfold moveM
    rw [hc]
    unfold mvM
    repeat' split
    all_goals first | exact hk _ | exact hd _ _
  have gr : Idle (removeM m o.path).1 := by
    unfold removeM
    rw [hc]
    unfold removesM
    repeat' split
    all_goals first | exact hk _ | exact hd _ _
  have g5 : Idle (syncM m).1 := by
    unfold syncM
    rw [hc]
    exact ⟨h.plan, h.down⟩
  have g6 : Idle (readM m o.path).1 := by rw [read_fst, hc]; exact hk _
  have g7 : Idle (listM m o.path).1 := by rw [list_fst, hc]; exact hk _
  unfold stepM
  refine ite_dep (fun _ => gp _) (fun _ => ?_)
  refine ite_dep (fun _ => gp _) (fun _ => ?_)
  refine ite_dep (fun _ => gm _) (fun _ => ?_)
  refine ite_dep (fun _ => gm _) (fun _ => ?_)
  refine ite_dep (fun _ => gr) (fun _ => ?_)
  refine ite_dep (fun _ => g5) (fun _ => ?_)
  refine ite_dep (fun _ => g6) (fun _ => ?_)
  refine ite_dep (fun _ => g7) (fun _ => ?_)
  exfalso
  omega
/-- What a sync leaves where nothing is planned. -/
theorem sync_idle {m : Fs} (h : Idle m) : syncM m = (settle { m with calls := m.calls + 1 }, 0) := by
  unfold syncM
  rw [call_calm h.plan h.down]
  rfl
theorem settle_stays {m : Fs} (h : Idle m) (p : B8) : Stays p (look (settle m).now p) (settle m) :=
  ⟨h.plan, h.down, fun k => (by show look ((([] : List Ch).take k).foldl ap m.now) p = look m.now p; simp), fun c hc => (by cases hc)⟩
theorem settle_kept {m : Fs} (h : Idle m) : Kept (settle m).now (settle m) := ⟨h.plan, h.down, rfl⟩

/-! ### FsimSafe -/
def namedL (l : List Opn) : List B8 := l.flatMap fun o => [o.path, o.dest]
theorem named_snoc {l : List Opn} {k : Nat} {o : Opn} (h : l[k]? = some o) : namedL (l.take (k + 1)) = namedL (l.take k) ++ [o.path, o.dest] := by
  obtain ⟨hlt, rfl⟩ := (List.getElem?_eq_some_iff.1 h)
  unfold namedL
  rw [List.take_succ_eq_append_getElem hlt, List.flatMap_append]
  rfl
theorem named_len (l : List Opn) : (namedL l).length = 2 * l.length := by
  induction l with
  | nil => rfl
  | cons o l ih =>
    have : (namedL (o :: l)).length = 2 + (namedL l).length := by unfold namedL; rw [List.flatMap_cons, List.length_append]; rfl
    rw [this, ih, List.length_cons]
    omega
/-- What holds between the calls of FsimSafe. -/
structure Safe (m0 : Fs) (k : Nat) (names : List B8) (m : Fs) : Prop where
  good : Good (101 + k) m
  idle : Idle m
  stays : ∀ p, p ∉ names → Stays p (look m0.now p) m
theorem safe_start {m0 : Fs} (hg : Good 101 m0) (hi : Idle m0) (hs : m0.pend = []) (hs2 : m0.sure = m0.now) : Safe m0 0 [] m0 :=
  ⟨hg, hi, fun p _ => ⟨hi.plan, hi.down, fun k => by rw [hs, hs2]; simp, fun c hc => by rw [hs] at hc; cases hc⟩⟩
theorem safe_step {m0 m : Fs} {k : Nat} {names : List B8} {o : Opn} (h : Safe m0 k names m) (ho : OpOk o) (h0 : 0 ≤ o.kind) (h7 : o.kind ≤ 7) : Safe m0 (k + 1) (names ++ [o.path, o.dest]) (stepM m o) :=
  ⟨step_good h.good ho, idle_step h.idle h0 h7, fun p hp => by
    simp only [List.mem_append, List.mem_cons, List.not_mem_nil, or_false, not_or] at hp
    exact stays_step h.good.ok (h.stays p hp.1) h0 h7 (Ne.symm hp.2.1) (Ne.symm hp.2.2)⟩
theorem crash_up {m : Fs} (h : m.down = false) (keep torn : Int) : crash m keep torn = { m with now := fallen m keep torn, sure := fallen m keep torn, pend := [], down := true } := by
  unfold crash
  rw [h]
  rfl
theorem safe_crash {m0 m : Fs} {k : Nat} {names : List B8} (h : Safe m0 k names m) (keep torn : Int) : (crash m keep torn).pend = [] ∧ (crash m keep torn).down = true ∧ ∀ p x, p ∉ names → look m0.now p = some x → peekM (crash m keep torn) p = (x, true) := by
  rw [crash_up h.idle.down]
  refine ⟨rfl, rfl, fun p x hp hx => ?_⟩
  refine peek_of ?_
  show look (fallen m keep torn) p = some x
  rw [stays_fallen (h.stays p hp), hx]

/-! ### FsimKeeps -/
structure Keeps (m0 : Fs) (k : Nat) (m : Fs) : Prop where
  good : Good (101 + k) m
  kept : Kept m0.now m
theorem keeps_start {m0 : Fs} (hg : Good 101 m0) (hi : Idle m0) (hs2 : m0.sure = m0.now) : Keeps m0 0 m0 := ⟨hg, hi.plan, hi.down, hs2⟩
theorem keeps_step {m0 m : Fs} {k : Nat} {o : Opn} (h : Keeps m0 k m) (ho : OpOk o) (h0 : 0 ≤ o.kind) (h7 : o.kind ≤ 7) : Keeps m0 (k + 1) (stepK m o) := by
  unfold stepK
  by_cases h5 : o.kind = 5
  · rw [if_pos h5]; exact ⟨h.good.mono (by omega), h.kept⟩
  · rw [if_neg h5]; exact ⟨step_good h.good ho, kept_step h.kept h0 h7 h5⟩
theorem stepK_good {n : Nat} {m : Fs} {o : Opn} (h : Good n m) (ho : OpOk o) : Good (n + 1) (stepK m o) := by
  unfold stepK
  by_cases h5 : o.kind = 5
  · rw [if_pos h5]; exact h.mono (by omega)
  · rw [if_neg h5]; exact step_good h ho
/-- A crash that keeps all; one that keeps nothing. -/
theorem crash_all {m : Fs} (hok : OkM m) (hd : m.down = false) (hl : m.pend.length ≤ 1073741824) : (crash m 1073741824 (-1)).now = m.now := by
  rw [crash_up hd]
  show fallen m 1073741824 (-1) = m.now
  have hk : keepN m 1073741824 = m.pend.length := by
    unfold keepN
    have : (1073741824 : Int).toNat = 1073741824 := rfl
    rw [this]
    omega
  unfold fallen
  rw [hk, List.take_length, List.getElem?_eq_none (Nat.le_refl _), hok.fold]
  rfl
theorem torn_neg (l : Files) (c : Option Ch) : torn1 l (-1) c = l := by
  unfold torn1
  split
  · rw [if_neg (by omega)]
  · rfl
theorem crash_none {m0 m : Fs} (h : Kept m0.now m) : (crash m 0 (-1)).now = m0.now := by
  rw [crash_up h.down]
  show fallen m 0 (-1) = m0.now
  unfold fallen
  rw [torn_neg]
  have hk : keepN m 0 = 0 := by unfold keepN; simp
  rw [hk]
  exact h.sure
/-- What a user's write leaves. -/
theorem puts_no {m : Fs} {path : B8} {mode : Int} {data : B8} {fits : Bool} (h : (putsM m path mode data fits).2 ≠ 0) : (putsM m path mode data fits).1 = m := by
  revert h
  unfold putsM
  split
  · exact fun _ => rfl
  · split
    · exact fun _ => rfl
    · exact fun h => (h rfl).elim
theorem userWrite_no {m : Fs} {path : B8} {mode : Int} {data : B8} (h : (userWrite m path mode data).2 ≠ 0) : (userWrite m path mode data).1 = m := by
  revert h
  unfold userWrite
  split
  · exact fun _ => rfl
  · split
    · exact fun _ => rfl
    · split
      · exact fun h => puts_no h
      · exact fun h => (h rfl).elim
theorem userWrite_yes {m : Fs} {path : B8} {mode : Int} {data : B8} (h : (userWrite m path mode data).2 = 0) :
    pathB path = true ∧ ∃ x, x.data = data ∧ look (userWrite m path mode data).1.now path = some x ∧ (userWrite m path mode data).1.sure = (userWrite m path mode data).1.now ∧ (userWrite m path mode data).1.pend = [] ∧ (userWrite m path mode data).1.down = false := by
  revert h
  unfold userWrite
  split
  · intro h; simp at h
  · rename_i hd
    split
    · rename_i hw
      exact fun h => (hw h).elim
    · rename_i hw
      have hw0 := wrong_zero (by simpa using hw)
      split
      · rename_i hp
        exact fun h => (hp h).elim
      · rename_i hp
        intro _
        have he := puts_zero (m := m) (path := path) (mode := mode) (data := data) (fits := true) (by simpa using hp)
        refine ⟨hw0.1, ⟨mode, data, m.time + 1⟩, rfl, ?_, rfl, rfl, ?_⟩
        · show look (putsM m path mode data true).1.now path = _
          rw [he]
          exact look_putF_same _ _ _
        · show (putsM m path mode data true).1.down = false
          rw [he]
          show m.down = false
          simpa using hd
theorem crash_still {m : Fs} (hd : m.down = false) (hs : m.sure = m.now) (hp : m.pend = []) : (crash m 0 0).now = m.now := by
  rw [crash_up hd]
  show fallen m 0 0 = m.now
  unfold fallen
  rw [hp, hs]
  rfl

/-! ### FsimFails -/
theorem call_other {m : Fs} (h : ∀ e ∈ m.plan, e.t ≠ ((m.calls + 1 : Nat) : Int)) (hd : m.down = false) : callM m = ({ m with calls := m.calls + 1 }, false, 0) := by
  unfold callM
  have : ∀ (l : List Ev) (x : Fs × Bool × Bool), (∀ e ∈ l, e.t ≠ ((m.calls + 1 : Nat) : Int)) → l.foldl (happen (m.calls + 1)) x = x := by
    intro l
    induction l with
    | nil => intro x _; rfl
    | cons e l ih =>
      intro x hx
      rw [List.foldl_cons]
      have h1 : happen (m.calls + 1) x e = x := by
        unfold happen
        rw [if_pos (hx e (by simp))]
      rw [h1]
      exact ih x (fun e he => hx e (by simp [he]))
  rw [this _ _ h]
  simp [hd]
theorem call_room {m : Fs} {e : Ev} (hp : m.plan = [e]) (he : e.t = ((m.calls + 1 : Nat) : Int)) (hk : e.kind = 2) (hd : m.down = false) : callM m = ({ m with calls := m.calls + 1 }, true, 0) := by
  unfold callM
  rw [hp]
  simp only [List.foldl_cons, List.foldl_nil]
  have h1 : ∀ x : Fs × Bool × Bool, happen (m.calls + 1) x e = (x.1, true, x.2.2) := fun x => by
    unfold happen
    rw [if_neg (by rw [he]; simp), if_neg (by omega), if_pos hk]
  simp only [h1]
  simp [hd]
theorem call_broken {m : Fs} {e : Ev} (hp : m.plan = [e]) (he : e.t = ((m.calls + 1 : Nat) : Int)) (hk : e.kind = 3) (hd : m.down = false) : callM m = ({ m with calls := m.calls + 1 }, false, 11) := by
  unfold callM
  rw [hp]
  simp only [List.foldl_cons, List.foldl_nil]
  have h1 : ∀ x : Fs × Bool × Bool, happen (m.calls + 1) x e = (x.1, x.2.1, true) := fun x => by
    unfold happen
    rw [if_neg (by rw [he]; simp), if_neg (by omega), if_neg (by omega), if_pos hk]
  simp only [h1]
  simp [hd]
/-- What a write leaves does not hang on the calls' number, nor on what is planned. -/
theorem put_alike {a b : Fs} (hr : a.room = b.room) (hn : a.now = b.now) (ht : a.time = b.time) (path : B8) (mode : Int) (data : B8) :
    (putM (a, false, 0) path mode data false).2 = (putM (b, false, 0) path mode data false).2 ∧ (putM (a, false, 0) path mode data false).1.now = (putM (b, false, 0) path mode data false).1.now ∧ (putM (a, false, 0) path mode data false).1.calls = a.calls := by
  have hf : fitsM a path data.length = fitsM b path data.length := by unfold fitsM; rw [hr, hn]
  unfold putM putsM
  simp only [hf, hn]
  split
  · exact ⟨rfl, hn, rfl⟩
  · split
    · exact ⟨rfl, hn, rfl⟩
    · split
      · exact ⟨rfl, hn, rfl⟩
      · split
        · exact ⟨rfl, hn, rfl⟩
        · split
          · exact ⟨rfl, hn, rfl⟩
          · refine ⟨rfl, ?_, rfl⟩
            show ap a.now (.put path ⟨mode, data, ((a.time + 1 : Nat) : Int)⟩) = ap b.now (.put path ⟨mode, data, ((b.time + 1 : Nat) : Int)⟩)
            rw [hn, ht]
structure Failed (m : Fs) (kind : Int) (path : B8) (data : B8) (m1 m2 m3 : Fs) (e g g2 : Int) : Prop where
  no : e ≠ 0
  broken : kind = 3 → e = 11
  full : kind = 2 → g = 0 → e = 10
  same : m1 = { m with calls := m.calls + 1 }
  again : g2 = g
  alike : m2.now = m3.now
  count : m2.calls = m3.calls + 1
theorem fails {m : Fs} {ev : Ev} {path : B8} {data : B8} (hd : m.down = false) (hp : m.plan = [ev]) (he : ev.t = ((m.calls + 1 : Nat) : Int)) (hk : ev.kind = 2 ∨ ev.kind = 3) :
    Failed m ev.kind path data (writeM m path 1 data).1 (writeM (writeM m path 1 data).1 path 1 data).1 (writeM (planM m []) path 1 data).1 (writeM m path 1 data).2 (writeM (planM m []) path 1 data).2 (writeM (writeM m path 1 data).1 path 1 data).2 := by
  have ho : writeM (planM m []) path 1 data = putM ({ planM m [] with calls := m.calls + 1 }, false, 0) path 1 data false := by
    unfold writeM
    rw [call_calm (m := planM m []) rfl hd]
    rfl
  have h1 : (writeM m path 1 data).1 = { m with calls := m.calls + 1 } ∧ (writeM m path 1 data).2 ≠ 0 ∧ (ev.kind = 3 → (writeM m path 1 data).2 = 11) ∧ (ev.kind = 2 → (writeM (planM m []) path 1 data).2 = 0 → (writeM m path 1 data).2 = 10) := by
    rw [ho]
    rcases hk with hk | hk
    · have hc : writeM m path 1 data = putM ({ m with calls := m.calls + 1 }, true, 0) path 1 data false := by
        unfold writeM
        rw [call_room hp he hk hd]
      rw [hc]
      unfold putM putsM
      simp only [ne_eq, not_true_eq_false, if_false, Bool.false_eq_true, false_and, Bool.not_true, Bool.false_and, Bool.not_false, Bool.true_and]
      by_cases hw : wrongE path 1 data = 0
      · simp only [hw, not_true_eq_false, if_false, if_true]
        by_cases hmay : (look m.now path).isNone = true ∧ mayF m.now path [] = false
        · rw [if_pos hmay]
          refine ⟨rfl, by simp, fun h => by omega, fun _ h => ?_⟩
          rw [if_pos (show (look (planM m []).now path).isNone = true ∧ mayF (planM m []).now path [] = false from hmay)] at h
          simp at h
        · rw [if_neg hmay]
          exact ⟨rfl, by simp, fun h => by omega, fun _ _ => rfl⟩
      · rw [if_pos hw]
        refine ⟨rfl, hw, fun h => by omega, fun _ h => ?_⟩
        rw [if_pos hw] at h
        exact (hw h).elim
    · have hc : writeM m path 1 data = ({ m with calls := m.calls + 1 }, 11) := by
        unfold writeM
        rw [call_broken hp he hk hd]
        unfold putM
        simp
      rw [hc]
      exact ⟨rfl, by simp, fun _ => rfl, fun h => by omega⟩
  have h2 : writeM (writeM m path 1 data).1 path 1 data = putM ({ m with calls := m.calls + 2 }, false, 0) path 1 data false := by
    rw [h1.1]
    unfold writeM
    rw [call_other (m := { m with calls := m.calls + 1 }) (fun e hm => ?_) hd]
    rw [show ({ m with calls := m.calls + 1 } : Fs).plan = [ev] from hp, List.mem_singleton] at hm
    subst hm
    rw [he]
    show ((m.calls + 1 : Nat) : Int) ≠ ((m.calls + 1 + 1 : Nat) : Int)
    omega
  have h3 := put_alike (a := { m with calls := m.calls + 2 }) (b := { planM m [] with calls := m.calls + 1 }) rfl rfl rfl path 1 data
  have h4 := put_alike (a := { planM m [] with calls := m.calls + 1 }) (b := { planM m [] with calls := m.calls + 1 }) rfl rfl rfl path 1 data
  exact ⟨h1.2.1, h1.2.2.1, h1.2.2.2, h1.1, by rw [h2, ho]; exact h3.1, by rw [h2, ho]; exact h3.2.1, by rw [h2, ho, h3.2.2, h4.2.2]⟩

end Go.Proofs.YtoajnaopainpnaaGreatDoor
