/- marlaw8.RefsEither: whatever the input, the law returns true, and the input reads as it did: its row's statement and its tied card. Conditions: what the row lists: the library's variables hold what the program's text lays. -/
import Derived.Test.YtfimfbdlegookaaGreatDoorZah
import Derived.Deep.DeepCutAuto

set_option linter.unusedVariables false
set_option linter.unusedSimpArgs false
set_option linter.unusedSectionVars false

/-! A ref that is set while all may fail and fall: it is what it was, or new; the others stay: in plain Lean. Conditions: as each theorem states. -/
namespace Go.Proofs.YtfimfbdlegookaaGreatDoor
open Go Go.RowKit

/-- No user does a thing. -/
def NoUser (l : List Ev) : Prop := ∀ e ∈ l, e.kind ≠ 4 ∧ e.kind ≠ 5
/-- What stands there, and whatever may stand there behind a crash. -/
structure Sf (X : Files → Prop) (m : Fs) : Prop where
  user : NoUser m.plan
  room : 100000 ≤ m.room
  now : X m.now
  dn : m.down = true → m.sure = m.now ∧ m.pend = []
  up : m.down = false → ∀ keep torn, X (fallen m keep torn)
variable {X Y : Files → Prop} {m : Fs}
theorem Sf.mono (h : Sf X m) (hxy : ∀ F, X F → Y F) : Sf Y m := ⟨h.user, h.room, hxy _ h.now, h.dn, fun hu k t => hxy _ (h.up hu k t)⟩
theorem fallen_nil (h : m.pend = []) (k t : Int) : fallen m k t = m.sure := by
  unfold fallen keepN
  rw [h]
  simp [torn1]
theorem sf_still (hu : NoUser m.plan) (hr : 100000 ≤ m.room) (hs : m.sure = m.now) (hp : m.pend = []) (h : X m.now) : Sf X m :=
  ⟨hu, hr, h, fun _ => ⟨hs, hp⟩, fun _ k t => by rw [fallen_nil hp, hs]; exact h⟩
theorem crash_down (k t : Int) : (crash m k t).down = true := by
  unfold crash
  split
  · rename_i h; exact h
  · rfl
theorem sf_crash (h : Sf X m) (k t : Int) : Sf X (crash m k t) := by
  unfold crash
  split
  · exact h
  · rename_i hd
    exact ⟨h.user, h.room, h.up (by simpa using hd) k t, fun _ => ⟨rfl, rfl⟩, fun e => by cases e⟩
theorem happen_sf {n : Nat} {x : Fs × Bool × Bool} {e : Ev} (hu : e.kind ≠ 4 ∧ e.kind ≠ 5) (h : Sf X x.1) : Sf X (happen n x e).1 ∧ ((happen n x e).1.down = false → (happen n x e).1 = x.1) := by
  unfold happen
  split
  · exact ⟨h, fun _ => rfl⟩
  · split
    · exact ⟨sf_crash h _ _, fun hd => by rw [crash_down] at hd; cases hd⟩
    · split
      · exact ⟨h, fun _ => rfl⟩
      · split
        · exact ⟨h, fun _ => rfl⟩
        · rw [if_neg hu.1, if_neg hu.2]
          exact ⟨h, fun _ => rfl⟩
theorem fold_sf {n : Nat} : ∀ (l : List Ev) (x : Fs × Bool × Bool), NoUser l → Sf X x.1 → Sf X (l.foldl (happen n) x).1 ∧ ((l.foldl (happen n) x).1.down = false → (l.foldl (happen n) x).1 = x.1)
  | [], x, _, h => ⟨h, fun _ => rfl⟩
  | e :: l, x, hu, h => by
    obtain ⟨h1, h2⟩ := happen_sf (n := n) (hu e (by simp)) h
    obtain ⟨h3, h4⟩ := fold_sf l (happen n x e) (fun d hd => hu d (by simp [hd])) h1
    exact ⟨h3, fun hd => by
      have h5 := h4 hd
      have hd' : (l.foldl (happen n) (happen n x e)).1.down = false := hd
      rw [h5] at hd'
      exact h5.trans (h2 hd')⟩
/-- A call: nothing is done, or it fell. -/
theorem call_sf (h : Sf X m) : Sf X (callM m).1 ∧ ((callM m).1.down = false → (callM m).1 = { m with calls := m.calls + 1 }) ∧ ((callM m).2.2 = 0 → (callM m).1.down = false) := by
  obtain ⟨h1, h2⟩ := fold_sf (n := m.calls + 1) m.plan ({ m with calls := m.calls + 1 }, false, false) h.user ⟨h.user, h.room, h.now, h.dn, h.up⟩
  refine ⟨h1, h2, fun h0 => ?_⟩
  unfold callM at h0 ⊢
  simp only at h0 ⊢
  by_cases hd : (List.foldl (happen (m.calls + 1)) ({ m with calls := m.calls + 1 }, false, false) m.plan).1.down = true
  · rw [if_pos hd] at h0; cases h0
  · simpa using hd
theorem call_code (m : Fs) : (callM m).2.2 = 0 ∨ (callM m).2.2 = 11 ∨ (callM m).2.2 = 12 := by
  unfold callM
  simp only
  split
  · exact .inr (.inr rfl)
  · split
    · exact .inr (.inl rfl)
    · exact .inl rfl
/-! ### What a call that answers well has done -/
theorem put_ok {r : Fs × Bool × Int} {path : B8} {mode : Int} {data : B8} {only : Bool} (h : (putM r path mode data only).2 = 0) : r.2.2 = 0 ∧ (putM r path mode data only).1 = does r.1 (.put path ⟨mode, data, 0⟩) := by
  unfold putM at h ⊢
  by_cases h1 : r.2.2 ≠ 0
  · rw [if_pos h1] at h; exact (h1 h).elim
  · rw [if_neg h1] at h ⊢
    by_cases h2 : wrongE path mode data ≠ 0
    · rw [if_pos h2] at h; exact (h2 h).elim
    · rw [if_neg h2] at h ⊢
      by_cases h3 : only = true ∧ (look r.1.now path).isSome = true
      · rw [if_pos h3] at h; cases h
      · rw [if_neg h3] at h ⊢
        exact ⟨by simpa using h1, by rw [puts_zero h]⟩
theorem puts_no {m : Fs} {path : B8} {mode : Int} {data : B8} {fits : Bool} (h : (putsM m path mode data fits).2 ≠ 0) : (putsM m path mode data fits).1 = m := by
  unfold putsM at h ⊢
  split
  · rfl
  · split
    · rfl
    · rename_i h1 h2
      rw [if_neg h1, if_neg h2] at h
      exact (h rfl).elim
theorem put_no {r : Fs × Bool × Int} {path : B8} {mode : Int} {data : B8} {only : Bool} (h : (putM r path mode data only).2 ≠ 0) : (putM r path mode data only).1 = r.1 := by
  unfold putM at h ⊢
  by_cases h1 : r.2.2 ≠ 0
  · rw [if_pos h1]
  · rw [if_neg h1] at h ⊢
    by_cases h2 : wrongE path mode data ≠ 0
    · rw [if_pos h2]
    · rw [if_neg h2] at h ⊢
      by_cases h3 : only = true ∧ (look r.1.now path).isSome = true
      · rw [if_pos h3]
      · rw [if_neg h3] at h ⊢
        exact puts_no h
theorem mv_no {r : Fs × Bool × Int} {s d : B8} {fresh : Bool} (h : (mvM r s d fresh).2 ≠ 0) : (mvM r s d fresh).1 = r.1 := by
  unfold mvM at h ⊢
  split
  · rfl
  · split
    · rfl
    · split
      · rfl
      · split
        · rfl
        · split
          · rfl
          · split
            · rfl
            · rename_i h1 h2 h3 h4 h5 h6
              rw [if_neg h1, if_neg h2, if_neg h3, if_neg h4, if_neg h5, if_neg h6] at h
              exact (h rfl).elim
theorem mv_ok {r : Fs × Bool × Int} {s d : B8} {fresh : Bool} (hne : s ≠ d) (h : (mvM r s d fresh).2 = 0) : r.2.2 = 0 ∧ (mvM r s d fresh).1 = does r.1 (.mv s d) := by
  unfold mvM at h ⊢
  by_cases h1 : r.2.2 ≠ 0
  · rw [if_pos h1] at h; exact (h1 h).elim
  · rw [if_neg h1] at h ⊢
    by_cases h2 : pathB s = false ∨ pathB d = false
    · rw [if_pos h2] at h; cases h
    · rw [if_neg h2] at h ⊢
      by_cases h3 : (look r.1.now s).isNone = true
      · rw [if_pos h3] at h; cases h
      · rw [if_neg h3] at h ⊢
        by_cases h4 : (look r.1.now d).isSome = true ∧ fresh = true
        · rw [if_pos h4] at h; cases h
        · rw [if_neg h4, if_neg hne] at h ⊢
          by_cases h5 : (look r.1.now d).isNone = true ∧ mayF r.1.now d s = false
          · rw [if_pos h5] at h; cases h
          · rw [if_neg h5]
            exact ⟨by simpa using h1, rfl⟩
theorem remove_no {m : Fs} {p : B8} (h : (removeM m p).2 ≠ 0) : (removeM m p).1 = (callM m).1 := by
  unfold removeM at h ⊢
  by_cases h1 : (callM m).2.2 ≠ 0
  · rw [if_pos h1]
  · rw [if_neg h1] at h ⊢
    unfold removesM at h ⊢
    split
    · rfl
    · split
      · rfl
      · rename_i h2 h3
        rw [if_neg h2, if_neg h3] at h
        exact (h rfl).elim
theorem remove_ok {m : Fs} {p : B8} (h : (removeM m p).2 = 0) : (callM m).2.2 = 0 ∧ (removeM m p).1 = does (callM m).1 (.del p) := by
  unfold removeM at h ⊢
  by_cases h1 : (callM m).2.2 ≠ 0
  · rw [if_pos h1] at h; exact (h1 h).elim
  · rw [if_neg h1] at h ⊢
    exact ⟨by simpa using h1, by rw [removes_zero h]⟩
theorem sync_ok {m : Fs} (h : (syncM m).2 = 0) : (callM m).2.2 = 0 ∧ (syncM m).1 = settle (callM m).1 := by
  unfold syncM at h ⊢
  by_cases h1 : (callM m).2.2 = 0
  · rw [if_pos h1]; exact ⟨h1, rfl⟩
  · rw [if_neg h1] at h; exact (h1 h).elim
theorem sync_no {m : Fs} (h : (syncM m).2 ≠ 0) : (syncM m).1 = (callM m).1 := by
  unfold syncM at h ⊢
  by_cases h1 : (callM m).2.2 = 0
  · rw [if_pos h1] at h; exact (h rfl).elim
  · rw [if_neg h1]

/-! ### Files with a lock more -/
variable {F : Files} {hv : B8 → Option B8} {n : Nat}
theorem paths_put_in (q : B8 → Bool) (p : B8) (f : Fi) (h : q p = true) (l : Files) (h0 : (pathsL l).filter q = []) : (pathsL (putF l p f)).filter q = [p] := by
  have hi : ∀ r : Files, (pathsL r).filter q = [] → (pathsL (insF (p, f) r)).filter q = [p] := by
    intro r
    induction r with
    | nil => intro _; simp [insF, pathsL, h]
    | cons y r ih =>
      intro hr
      have hy : q y.1 = false := by
        cases hq : q y.1 with
        | false => rfl
        | true => unfold pathsL at hr; simp [hq] at hr
      have hr' : (pathsL r).filter q = [] := by
        unfold pathsL at hr ⊢
        simpa [hy] using hr
      unfold insF
      split
      · unfold pathsL at hr' ⊢
        simp only [List.map_cons, List.filter_cons, h, hy, if_true, hr']
        simp
      · have := ih hr'
        unfold pathsL at this ⊢
        simp only [List.map_cons, List.filter_cons, hy, this]
        simp
  unfold putF
  refine hi _ ?_
  have h2 : pathsL (delF l p) = (pathsL l).filter (fun x => !(x == p)) := by
    unfold pathsL delF
    rw [List.filter_map]
    rfl
  rw [h2, List.filter_filter, ← h0]
  have h3 : (pathsL l).filter (fun a => q a && !(a == p)) = ((pathsL l).filter q).filter (fun x => !(x == p)) := by rw [List.filter_filter]; congr 1; funext x; exact Bool.and_comm _ _
  rw [h3, h0]
  rfl
theorem apF_lock (h : ApF F none hv n) {k : B8} (hk : nameB k = true) {mode : Int} {d : B8} (hd : d.length ≤ 100) (t : Int) : ApF (putF F (lockP k) ⟨mode, d, t⟩) (some k) hv (n + 1) := by
  refine ⟨?_, h.name, ?_, ?_, ?_, ?_⟩
  · have h1 := usedF_put_le F (lockP k) ⟨mode, d, t⟩
    have h2 := h.used
    simp only at h1
    omega
  · intro l e
    cases e
    rw [look_putF_same]
    exact ⟨(path_name hk).1, rfl⟩
  · intro k' v' e
    rw [look_lock_put]
    exact h.refs _ _ e
  · intro e he
    rcases mem_put.1 he with rfl | ⟨he, -⟩
    · exact .inr ⟨k, rfl, rfl⟩
    · rcases h.all e he with h1 | ⟨l, h1, -⟩
      · exact .inl h1
      · cases h1
  · exact paths_put_in _ _ _ (by rfl) _ h.locks
def XA (hv : B8 → Option B8) (k : B8) (n : Nat) (F : Files) : Prop := ApF F none hv n ∨ ApF F (some k) hv n
def XB (hv : B8 → Option B8) (k b : B8) (n : Nat) (F : Files) : Prop := ApF F none (updH hv k b) n
def XAB (hv : B8 → Option B8) (k b : B8) (n : Nat) (F : Files) : Prop := XA hv k n F ∨ XB hv k b n F
/-- The lock stands, not durable. -/
structure Mid1 (F : Files) (k b : B8) (t : Int) (m : Fs) : Prop where
  now : m.now = putF F (lockP k) ⟨1, lineM b, t⟩
  sure : m.sure = F
  pend : m.pend = [.put (lockP k) ⟨1, lineM b, t⟩]
theorem torn_lock {k b : B8} {t torn : Int} (h : ApF F none hv n) (hk : nameB k = true) (hb : validB b = true) : XA hv k (n + 1) (torn1 F torn (some (.put (lockP k) ⟨1, lineM b, t⟩))) := by
  have hl := line_len hb
  unfold torn1
  simp only
  split
  · exact .inr (apF_lock h hk (by rw [List.length_take]; omega) t)
  · exact .inl (h.mono (by omega))
theorem sf_mid1 {k b : B8} {t : Int} (hm : Mid1 F k b t m) (hu : NoUser m.plan) (hr : 100000 ≤ m.room) (hd : m.down = false) (h : ApF F none hv n) (hk : nameB k = true) (hb : validB b = true) : Sf (XA hv k (n + 1)) m := by
  have hl := line_len hb
  have hlk : XA hv k (n + 1) (putF F (lockP k) ⟨1, lineM b, t⟩) := .inr (apF_lock h hk (by omega) t)
  refine ⟨hu, hr, by rw [hm.now]; exact hlk, (fun e => by rw [hd] at e; cases e), fun _ keep torn => ?_⟩
  unfold fallen
  rw [hm.sure, hm.pend]
  obtain ⟨j, hj⟩ : ∃ j, keepN m keep = j := ⟨_, rfl⟩
  have hj1 : j ≤ 1 := by
    rw [← hj]
    unfold keepN
    rw [hm.pend]
    exact Nat.min_le_right _ _
  rw [hj]
  match j, hj1 with
  | 0, _ => exact torn_lock h hk hb
  | 1, _ => exact hlk
theorem sf_mid2 {k b : B8} {t : Int} (hm : Mid1 F k b t m) (hu : NoUser m.plan) (hr : 100000 ≤ m.room) (hd : m.down = false) (h : ApF F none hv n) (hk : nameB k = true) (hb : validB b = true) : Sf (XA hv k (n + 1)) (does m (.del (lockP k))) := by
  have hl := line_len hb
  have hno : look F (lockP k) = none := h.nolock (by simp)
  have hdel : delF (putF F (lockP k) ⟨1, lineM b, t⟩) (lockP k) = F := by rw [delF_put, delF_free hno]
  have hlk : XA hv k (n + 1) (putF F (lockP k) ⟨1, lineM b, t⟩) := .inr (apF_lock h hk (by omega) t)
  have hF : XA hv k (n + 1) F := .inl (h.mono (by omega))
  refine ⟨hu, hr, ?_, fun e => ?_, fun _ keep torn => ?_⟩
  · show XA hv k (n + 1) (delF m.now (lockP k))
    rw [hm.now, hdel]
    exact hF
  · have e : m.down = true := e
    rw [hd] at e; cases e
  · have hp : (does m (.del (lockP k))).pend = [.put (lockP k) ⟨1, lineM b, t⟩, .del (lockP k)] := by
      show m.pend ++ [_] = _
      rw [hm.pend]
      rfl
    have hs : (does m (.del (lockP k))).sure = F := hm.sure
    unfold fallen
    obtain ⟨j, hj⟩ : ∃ j, keepN (does m (.del (lockP k))) keep = j := ⟨_, rfl⟩
    have hj1 : j ≤ 2 := by
      rw [← hj]
      unfold keepN
      rw [hp]
      exact Nat.min_le_right _ _
    rw [hj, hp, hs]
    match j, hj1 with
    | 0, _ => exact torn_lock h hk hb
    | 1, _ => exact hlk
    | 2, _ =>
      show XA hv k (n + 1) (delF (putF F (lockP k) ⟨1, lineM b, t⟩) (lockP k))
      rw [hdel]
      exact hF
theorem Mid1.calls {k b : B8} {t : Int} (h : Mid1 F k b t m) (c : Nat) : Mid1 F k b t { m with calls := c } := ⟨h.now, h.sure, h.pend⟩
/-- The lock is taken away again, or not. -/
theorem sf_drop {k b : B8} {t : Int} (h1 : m.down = false → Mid1 F k b t m) (hs : Sf (XA hv k (n + 1)) m) (h : ApF F none hv n) (hk : nameB k = true) (hb : validB b = true) : Sf (XA hv k (n + 1)) (removeM m (lockP k)).1 := by
  obtain ⟨c1, c2, c3⟩ := call_sf hs
  by_cases h0 : (removeM m (lockP k)).2 = 0
  · obtain ⟨e1, e2⟩ := remove_ok h0
    have hd := c3 e1
    have hc := c2 hd
    rw [e2, hc]
    have hd' : m.down = false := by
      have h9 : ({ m with calls := m.calls + 1 } : Fs).down = false := by rw [← hc]; exact hd
      exact h9
    exact sf_mid2 ((h1 hd').calls _) hs.user hs.room hd' h hk hb
  · rw [remove_no h0]
    exact c1

/-- A ref is set while all may fail and fall. -/
theorem set_sf {k b : B8} (hu : NoUser m.plan) (hr : 100000 ≤ m.room) (hd : m.down = false) (hs : m.sure = m.now) (hp : m.pend = []) (h : ApF m.now none hv n) (hk : nameB k = true) (hb : validB b = true) :
    Sf (XAB hv k b (n + 1)) (setM m k ((hv k).getD []) b).1 ∧ ((setM m k ((hv k).getD []) b).2 = 0 → Sf (XB hv k b (n + 1)) (setM m k ((hv k).getD []) b).1) := by
  have hold : (hv k).getD [] = [] ∨ validB ((hv k).getD []) = true := by
    cases hq : hv k with
    | none => exact .inl rfl
    | some x => exact .inr (h.name _ _ hq).2
  have hab : ∀ F, XA hv k (n + 1) F → XAB hv k b (n + 1) F := fun _ => .inl
  have hl := line_len hb
  obtain ⟨old, hold0⟩ : ∃ old, (hv k).getD [] = old := ⟨_, rfl⟩
  rw [hold0] at hold ⊢
  clear hold0
  have s0 : Sf (XA hv k (n + 1)) m := sf_still hu hr hs hp (.inl (h.mono (by omega)))
  obtain ⟨c1, c2, c3⟩ := call_sf s0
  unfold setM
  rw [if_neg (by rw [hk]; simp), if_neg (no_range hb hold)]
  by_cases h0 : (createM m (lockP k) 1 (lineM b)).2 = 0
  case neg =>
    rw [if_pos h0]
    have e1 : (createM m (lockP k) 1 (lineM b)).1 = (callM m).1 := put_no h0
    refine ⟨by show Sf _ (createM m (lockP k) 1 (lineM b)).1; rw [e1]; exact c1.mono hab, fun h9 => ?_⟩
    exfalso
    simp only at h9
    split at h9
    · cases h9
    · exact h0 h9
  rw [if_neg (by simpa using h0)]
  obtain ⟨e1, e2⟩ : (callM m).2.2 = 0 ∧ (createM m (lockP k) 1 (lineM b)).1 = does (callM m).1 (.put (lockP k) ⟨1, lineM b, 0⟩) := put_ok h0
  obtain ⟨m1, hm1⟩ : ∃ m1, (createM m (lockP k) 1 (lineM b)).1 = m1 := ⟨_, rfl⟩
  have hc0 := c2 (c3 e1)
  have k1 : Mid1 m.now k b ((m.time + 1 : Nat) : Int) m1 := by
    rw [← hm1, e2, hc0]
    refine ⟨rfl, hs, ?_⟩
    show m.pend ++ [_] = _
    rw [hp]
    rfl
  have u1 : NoUser m1.plan ∧ 100000 ≤ m1.room ∧ m1.down = false := by
    rw [← hm1, e2, hc0]
    exact ⟨hu, hr, hd⟩
  rw [hm1]
  clear hm1 e1 e2 hc0 h0 c1 c2 c3 s0
  have s1 : Sf (XA hv k (n + 1)) m1 := sf_mid1 k1 u1.1 u1.2.1 u1.2.2 h hk hb
  obtain ⟨c1, c2, c3⟩ := call_sf s1
  have k2 : (callM m1).1.down = false → Mid1 m.now k b ((m.time + 1 : Nat) : Int) (callM m1).1 := fun hd => by rw [c2 hd]; exact k1.calls _
  have hx1 : (expectM m1 k old).1 = (callM m1).1 := read_fst _ _
  by_cases h0 : (expectM m1 k old).2 = 0
  case neg =>
    have hmid : setMid (expectM m1 k old) k = ((removeM (callM m1).1 (lockP k)).1, (expectM m1 k old).2) := by
      unfold setMid
      rw [if_neg h0, if_pos h0, hx1]
    rw [hmid]
    exact ⟨(sf_drop k2 c1 h hk hb).mono hab, fun h9 => (h0 h9).elim⟩
  have e1 : (callM m1).2.2 = 0 := by
    have h9 : expectE (readM m1 (placeP k)).2 old = 0 := h0
    unfold readM at h9
    by_cases hc : (callM m1).2.2 = 0
    · exact hc
    · rw [if_pos hc] at h9
      unfold expectE at h9
      rcases call_code m1 with h | h | h
      · exact h
      · rw [h] at h9; simp at h9
      · rw [h] at h9; simp at h9
  have hc1 := c3 e1
  obtain ⟨m2, hm2⟩ : ∃ m2, (callM m1).1 = m2 := ⟨_, rfl⟩
  rw [hm2] at c1 c2 k2 hx1 hc1
  have hc2 := c2 hc1
  have u2 : NoUser m2.plan ∧ 100000 ≤ m2.room ∧ m2.down = false := by rw [hc2]; exact u1
  have hmid : setMid (expectM m1 k old) k = if (syncM m2).2 ≠ 0 then ((removeM (syncM m2).1 (lockP k)).1, (syncM m2).2) else setEnd (syncM m2).1 k := by
    unfold setMid
    rw [if_pos h0, hx1]
  rw [hmid]
  clear hmid hx1 h0 e1 c3
  have k2' := k2 hc1
  obtain ⟨d1, d2, d3⟩ := call_sf c1
  by_cases h0 : (syncM m2).2 = 0
  case neg =>
    rw [if_pos h0]
    have hn := sync_no h0
    refine ⟨?_, fun h9 => (h0 h9).elim⟩
    show Sf _ (removeM (syncM m2).1 (lockP k)).1
    rw [hn]
    exact (sf_drop (fun hd => by rw [d2 hd]; exact k2'.calls _) d1 h hk hb).mono hab
  rw [if_neg (by simpa using h0)]
  obtain ⟨e1, e2⟩ := sync_ok h0
  have hd2 := d2 (d3 e1)
  obtain ⟨m3, hm3⟩ : ∃ m3, (syncM m2).1 = m3 := ⟨_, rfl⟩
  have k3 : m3.now = putF m.now (lockP k) ⟨1, lineM b, ((m.time + 1 : Nat) : Int)⟩ ∧ m3.sure = m3.now ∧ m3.pend = [] ∧ NoUser m3.plan ∧ 100000 ≤ m3.room ∧ m3.down = false := by
    rw [← hm3, e2, hd2]
    exact ⟨k2'.now, rfl, rfl, u2⟩
  rw [hm3]
  clear hm3 e1 e2 hd2 d1 d2 d3 h0 c1 c2 hc1 hc2 u2 u1 k1 k2 k2' s1 hm2
  have lk3 : XA hv k (n + 1) m3.now := by rw [k3.1]; exact .inr (apF_lock h hk (by omega) _)
  have s3 : Sf (XA hv k (n + 1)) m3 := sf_still k3.2.2.2.1 k3.2.2.2.2.1 k3.2.1 k3.2.2.1 lk3
  obtain ⟨c1, c2, c3⟩ := call_sf s3
  unfold setEnd
  by_cases h0 : (moveM m3 (lockP k) (placeP k) false).2 = 0
  case neg =>
    rw [if_pos h0]
    have hn : (moveM m3 (lockP k) (placeP k) false).1 = (callM m3).1 := mv_no h0
    refine ⟨by rw [hn]; exact c1.mono hab, fun h9 => (h0 h9).elim⟩
  rw [if_neg (by simpa using h0)]
  obtain ⟨e1, e2⟩ : (callM m3).2.2 = 0 ∧ (moveM m3 (lockP k) (placeP k) false).1 = does (callM m3).1 (.mv (lockP k) (placeP k)) := mv_ok (fun e => place_lock e.symm) h0
  have hc3 := c2 (c3 e1)
  obtain ⟨m4, hm4⟩ : ∃ m4, (moveM m3 (lockP k) (placeP k) false).1 = m4 := ⟨_, rfl⟩
  have hno : look m.now (lockP k) = none := h.nolock (by simp)
  have hap : ap m3.now (.mv (lockP k) (placeP k)) = putF m.now (placeP k) ⟨1, lineM b, ((m.time + 1 : Nat) : Int)⟩ := by
    show (match look m3.now (lockP k) with | some x => putF (delF m3.now (lockP k)) (placeP k) x | none => m3.now) = _
    rw [k3.1, look_putF_same, delF_put, delF_free hno]
  have k4 : m4.now = putF m.now (placeP k) ⟨1, lineM b, ((m.time + 1 : Nat) : Int)⟩ ∧ m4.sure = m3.now ∧ m4.pend = [.mv (lockP k) (placeP k)] ∧ NoUser m4.plan ∧ 100000 ≤ m4.room ∧ m4.down = false := by
    rw [← hm4, e2, hc3]
    refine ⟨hap, k3.2.1, ?_, k3.2.2.2⟩
    show m3.pend ++ [_] = _
    rw [k3.2.2.1]
    rfl
  rw [hm4]
  clear hm4 e1 e2 hc3 c1 c2 c3 h0 s3
  have b4 : XB hv k b (n + 1) m4.now := by rw [k4.1]; exact apF_set h hk hb _
  have s4 : Sf (XAB hv k b (n + 1)) m4 := by
    refine ⟨k4.2.2.2.1, k4.2.2.2.2.1, .inr b4, (fun e => by rw [k4.2.2.2.2.2] at e; cases e), fun _ keep torn => ?_⟩
    unfold fallen
    obtain ⟨j, hj⟩ : ∃ j, keepN m4 keep = j := ⟨_, rfl⟩
    have hj1 : j ≤ 1 := by
      rw [← hj]
      unfold keepN
      rw [k4.2.2.1]
      exact Nat.min_le_right _ _
    rw [hj, k4.2.2.1, k4.2.1]
    match j, hj1 with
    | 0, _ => exact .inl lk3
    | 1, _ =>
      show XAB hv k b (n + 1) (ap m3.now (.mv (lockP k) (placeP k)))
      rw [hap, ← k4.1]
      exact .inr b4
  obtain ⟨c1, c2, c3⟩ := call_sf s4
  by_cases h0 : (syncM m4).2 = 0
  case neg =>
    refine ⟨by rw [sync_no h0]; exact c1, fun h9 => (h0 h9).elim⟩
  obtain ⟨e1, e2⟩ := sync_ok h0
  have hc4 := c2 (c3 e1)
  have s5 : Sf (XB hv k b (n + 1)) (syncM m4).1 := by
    rw [e2, hc4]
    exact sf_still (m := settle { m4 with calls := m4.calls + 1 }) k4.2.2.2.1 k4.2.2.2.2.1 rfl rfl b4
  exact ⟨s5.mono (fun _ => .inr), fun _ => s5⟩
/-! ### What is told -/
def isF (F : Files) (k id : B8) : Bool := if id = [] then (look F (placeP k)).isNone else match look F (placeP k) with | some x => x.data == lineM id | none => false
theorem apF_is {lk : Option B8} (h : ApF F lk hv n) (k id : B8) : isF F k id = decide ((hv k).getD [] = id) := by
  unfold isF
  cases hq : hv k with
  | none =>
    rw [h.noref hq]
    by_cases h0 : id = []
    · simp [h0]
    · rw [if_neg h0]
      exact (decide_eq_false (fun e => h0 e.symm)).symm
  | some v =>
    obtain ⟨t, ht⟩ := h.refs _ _ hq
    have hv0 := valid_ne (h.name _ _ hq).2
    rw [ht]
    show _ = decide (v = id)
    by_cases h0 : id = []
    · subst h0
      simp [hv0]
    · rw [if_neg h0]
      show (lineM v == lineM id) = _
      by_cases he : v = id
      · subst he; simp
      · rw [decide_eq_false he]
        exact beq_eq_false_iff_ne.2 (fun e => he (line_inj e))

end Go.Proofs.YtfimfbdlegookaaGreatDoor

/-! marlaw8.is; a plan of events that is given to a file system. Conditions: as each theorem states. -/
namespace Go.Proofs.YtfimfbdlegookaaGreatDoor
open Go Go.RowKit
set_option linter.unusedVariables false
set_option linter.unusedSimpArgs false
set_option linter.unusedSectionVars false

set_option maxRecDepth 100000 in
set_option maxHeartbeats 1000000 in
theorem is_any {S O R : Nat → Prop} {w : World} {p : Value} {m : Fs} (name id : B8) (h : IsFs S O R w p m) (hn : name.length ≤ 1000) (hi : id.length ≤ 1000000) :
    Calls Tryz.prog 27 #[p, S8 name, S8 id] w fun e w' => e = .returned (.bool (isF m.now name id)) ∧ Ext w w' := by
  have hpl : (placeP name).length ≤ 1000000 := by unfold placeP; simp; omega
  have HP : Hid _ := peek_any (placeP name) h hpl
  have hlk : peekM m (placeP name) = (match look m.now (placeP name) with | some f => (f, true) | none => (zeroFi, false)) := rfl
  obtain ⟨r, hr⟩ : ∃ r, isF m.now name id = r := ⟨_, rfl⟩
  have hr2 := hr
  rw [hr]
  unfold isF at hr2
  obtain ⟨q, hq⟩ : ∃ q, look m.now (placeP name) = q := ⟨_, rfl⟩
  rw [hq] at hr2 hlk
  have hx0 : ∃ (fx : Fi) (ok : Bool), peekM m (placeP name) = (fx, ok) ∧ r = (if id = [] then !ok else ok && fx.data == lineM id) := by
    rw [← hr2, hlk]
    cases q with
    | none => exact ⟨zeroFi, false, rfl, by by_cases h0 : id = [] <;> simp [h0]⟩
    | some f => exact ⟨f, true, rfl, by by_cases h0 : id = [] <;> simp [h0]⟩
  obtain ⟨fx, ok, hpk, hrr⟩ := hx0
  rw [hpk] at HP
  have HR : Hid _ := hrr
  clear hr hr2 hq hlk h hpk hrr q
  go_enter Tryz.func27, Tryz.ntmps27
  go_wp2_with fail
  go_at_call 42
  refine Calls.mono HP.out ?_
  rintro e w1 ⟨⟨v, rfl, hd⟩, hx1⟩
  try dsimp only at hd
  have hdb := hd.bytes
  obtain ⟨s1, t1, rfl, -⟩ := hdb
  try dsimp only
  go_upto_region 2 with fail
  obtain ⟨w2, hw2⟩ : ∃ wq, wq = w1.alloc (.cells #[.int .i64 fx.mode, .slice s1 fx.data.length t1, .int .i64 fx.time] 76) := ⟨_, rfl⟩
  rw [← hw2]
  have hx2 : Ext w1 w2 := by rw [hw2]; exact (Ext.refl _).alloc _
  have hb2 : w2.heap[w1.heap.size]? = some (.cells #[.int .i64 fx.mode, .slice s1 fx.data.length t1, .int .i64 fx.time] 76 (0, 0)) := by rw [hw2]; exact alloc_at _ _
  have HX : Hid (Ext w w2) := hx1.trans hx2
  have hcv := conv_bytes (IsData.ext hd hx2).bytes
  obtain ⟨c0, c1, c2⟩ := cellsAt3 hb2
  clear hw2 hb2 hd HP hx1 hx2
  try dsimp only
  by_cases h0 : id = []
  · subst h0
    have HR2 : Hid (r = !ok) := by have h9 := HR.out; rw [if_pos rfl] at h9; exact h9
    go_wp2
    go_ret
    exact ⟨by rw [HR2.out]; rfl, HX.out⟩
  · have hb0 : (id == ([] : B8)) = false := by simpa using h0
    have HR2 : Hid (r = (ok && fx.data == lineM id)) := by have h9 := HR.out; rw [if_neg h0] at h9; exact h9
    clear h0 HR
    cases ok with
    | false =>
      go_wp2
      go_ret
      exact ⟨by rw [HR2.out]; rfl, HX.out⟩
    | true =>
      go_wp2
      go_ret
      have e1 : ((⟨id.toArray⟩ : ByteArray) ++ ⟨#[10]⟩) = ⟨(lineM id).toArray⟩ := by
        apply ByteArray.ext
        rw [ByteArray.data_append]
        simp [lineM]
      rw [e1, ByteArray.toList_mk]
      exact ⟨by rw [HR2.out]; rfl, HX.out⟩

variable [Inhabited BaseW]
/-- Events are given to a file system of the call's own. -/
theorem One.plan {w0 w w' : World} {S O : Nat → Prop} {f : Value} {m : Fs} {L : List Ev} (h : One w0 S O w f m) (hf : IsFs (Nu w w') O (Nw (fun k => k < w.heap.size) w w') w' f (planM m L)) (hr : Fr O w w') : One w0 (Nu w w') O w' f (planM m L) := by
  have hs := hr.size
  have hs0 := h.ext.size
  refine ⟨Ext.of_fr h.ext hr (fun k hk => (h.lo k hk).1), hf.mono (fun _ h => h) (fun k hk => by rcases hk with hk | hk <;> omega), fun k hk => by have := h.lo k hk; omega, fun k hk => ⟨by have := hk.1; omega, hk.2⟩, fun k hk ho => ?_⟩
  have h1 := h.lo k ho
  have h2 := hk.1
  omega

/-! ### What holds at each stage -/
def otherB : B8 := [111, 116, 104, 101, 114]
theorem name_other : nameB otherB = true := by decide
theorem head_other : headB ≠ otherB := by decide
structure Bef (m : Fs) (a oth : B8) (hv : B8 → Option B8) (n : Nat) : Prop where
  ap : Ap m none hv n
  head : (hv headB).getD [] = a
  oth : hv otherB = some oth
  pend : m.pend = []
  sure : m.sure = m.now
theorem ap_none : Ap (newM 1048576) none (fun _ => none) 0 :=
  ⟨rfl, rfl, (show (100000 : Int) ≤ 1048576 by decide), Nat.zero_le _, (fun k v h => by cases h), (fun l h => by cases h), (fun k v h => by cases h), (fun e he => by cases he), rfl⟩
theorem no_lock {k : B8} : ∀ l : B8, (none : Option B8) = some l → l ≠ k ∧ isUnder (lockP k) (lockP l) = false := fun l h => by cases h
def hvO (oth : B8) : B8 → Option B8 := updH (fun _ => none) otherB oth
theorem hvO_head (oth : B8) : hvO oth headB = none := by unfold hvO updH; rw [if_neg head_other]
theorem bef1 {oth : B8} (h : validB oth = true) : (setM (newM 1048576) otherB [] oth).2 = 0 ∧ Bef (setM (newM 1048576) otherB [] oth).1 [] oth (hvO oth) 1 := by
  obtain ⟨h1, h2, h3, h4⟩ := ap_set ap_none (by omega) name_other h no_lock
  exact ⟨h1, h2, (by rw [hvO_head]; rfl), (by unfold hvO updH; rw [if_pos rfl]), h3, h4⟩
theorem Bef.mono {m : Fs} {a oth : B8} {hv : B8 → Option B8} {n k : Nat} (h : Bef m a oth hv n) (hk : n ≤ k) : Bef m a oth hv k := ⟨⟨h.ap.plan, h.ap.down, h.ap.room, h.ap.f.mono hk⟩, h.head, h.oth, h.pend, h.sure⟩
theorem bef2 {m : Fs} {a oth : B8} (hb : Bef m [] oth (hvO oth) 1) (h : validB a = true) : (setM m headB [] a).2 = 0 ∧ Bef (setM m headB [] a).1 a oth (updH (hvO oth) headB a) 2 := by
  have hs := ap_set hb.ap (by omega) name_head h no_lock
  rw [hvO_head] at hs
  obtain ⟨h1, h2, h3, h4⟩ := hs
  exact ⟨h1, h2, (by unfold updH; rw [if_pos rfl]; rfl), (by unfold updH; rw [if_neg (fun e => head_other e.symm)]; exact hb.oth), h3, h4⟩
/-- What is told of files that may stand there. -/
theorem xb_is {F : Files} {hv : B8 → Option B8} {b oth : B8} {n : Nat} (h : XB hv headB b n F) (ho : hv otherB = some oth) : isF F headB b = true ∧ isF F otherB oth = true := by
  have h : ApF F none (updH hv headB b) n := h
  rw [apF_is h, apF_is h]
  unfold updH
  rw [if_pos rfl, if_neg (fun e => head_other e.symm), ho]
  simp
theorem xa_is {F : Files} {hv : B8 → Option B8} {a oth : B8} {n : Nat} (h : XA hv headB n F) (hh : (hv headB).getD [] = a) (ho : hv otherB = some oth) : isF F headB a = true ∧ isF F otherB oth = true := by
  rcases h with h | h
  · rw [apF_is h, apF_is h, hh, ho]; simp
  · rw [apF_is h, apF_is h, hh, ho]; simp
theorem xab_is {F : Files} {hv : B8 → Option B8} {a b oth : B8} {n : Nat} (h : XAB hv headB b n F) (hh : (hv headB).getD [] = a) (ho : hv otherB = some oth) : (isF F headB a = false → isF F headB b = true) ∧ isF F otherB oth = true := by
  rcases h with h | h
  · obtain ⟨h1, h2⟩ := xa_is h hh ho
    exact ⟨(fun e => by rw [h1] at e; cases e), h2⟩
  · obtain ⟨h1, h2⟩ := xb_is h ho
    exact ⟨fun _ => h1, h2⟩
/-- Behind a crash, started anew. -/
theorem up_again {m : Fs} {hv : B8 → Option B8} {a b oth : B8} {n : Nat} (h : XAB hv headB b n m.now) (hr : 100000 ≤ m.room) (hh : (hv headB).getD [] = a) (ho : hv otherB = some oth) :
    ∃ lk hx, Ap (planM (rebootM m) []) lk hx n ∧ restL lk = none ∧ (if isF m.now headB b = true then b else a) = (hx headB).getD [] := by
  rcases h with (h | h) | h
  · refine ⟨none, hv, ⟨rfl, rfl, hr, h⟩, rfl, ?_⟩
    rw [apF_is h]
    split
    · rename_i hd; exact (of_decide_eq_true hd).symm
    · exact hh.symm
  · refine ⟨some headB, hv, ⟨rfl, rfl, hr, h⟩, rfl, ?_⟩
    rw [apF_is h]
    split
    · rename_i hd; exact (of_decide_eq_true hd).symm
    · exact hh.symm
  · have h : ApF m.now none (updH hv headB b) n := h
    refine ⟨none, updH hv headB b, ⟨rfl, rfl, hr, h⟩, rfl, ?_⟩
    have e : (updH hv headB b headB).getD [] = b := by unfold updH; rw [if_pos rfl]; rfl
    rw [apF_is h, e]
    simp
/-! ### What is asked ahead -/
def okE (a b oth : B8) (L : List Ev) : Bool := fewEv L && (decide (a.length ≤ 100) && (decide (b.length ≤ 100) && (decide (oth.length ≤ 100) && (validB b && ((a == [] || validB a) && validB oth)))))
theorem okE_bad {a b oth : B8} {L : List Ev} {bad : Bool} (h : okE a b oth L = !bad) (h0 : okE a b oth L = false) : bad = true := by
  rw [h0] at h
  cases bad with
  | true => rfl
  | false => cases h
theorem okE_good {a b oth : B8} {L : List Ev} {bad : Bool} (h : okE a b oth L = !bad) (h1 : fewEv L = true) (h2 : a.length ≤ 100) (h3 : b.length ≤ 100) (h4 : oth.length ≤ 100) (h5 : validB b = true) (h6 : (a == [] || validB a) = true) (h7 : validB oth = true) : bad = false := by
  have : okE a b oth L = true := by
    unfold okE
    rw [h1, h5, h6, h7, decide_eq_true h2, decide_eq_true h3, decide_eq_true h4]
    rfl
  rw [this] at h
  cases bad with
  | false => rfl
  | true => cases h
theorem okE_all {a b oth : B8} {L : List Ev} (h : okE a b oth L = !false) : fewEv L = true ∧ a.length ≤ 100 ∧ b.length ≤ 100 ∧ oth.length ≤ 100 ∧ validB b = true ∧ (a = [] ∨ validB a = true) ∧ validB oth = true := by
  unfold okE at h
  simp only [Bool.not_false, Bool.and_eq_true, decide_eq_true_eq, Bool.or_eq_true, beq_iff_eq] at h
  obtain ⟨h1, h2, h3, h4, h5, h6, h7⟩ := h
  exact ⟨h1, h2, h3, h4, h5, h6, h7⟩
theorem good_unlock1 {m : Fs} (h : Good 19 m) (hl : (lastL (listM m lockD).2.1 lockD).length ≤ 1) : Good 22 (unlockM m).1 := by
  have h1 := good_list h lockD
  have h2 := good_drops (l := lastL (listM m lockD).2.1 lockD) h1
  unfold unlockM
  split
  · exact h1.mono (by omega)
  · split
    · exact h2.mono (by omega)
    · exact h2.mono (by omega)
/-! ### Events that are given on -/
def evIn (e : Ev) : Bool := decide (0 < e.t) && decide (e.t < 100)
def planE (c : Nat) (L : List Ev) : List Ev := (L.filter evIn).map fun e => { e with t := e.t + c }
theorem planE_in {c : Nat} {L : List Ev} {k : Nat} {e : Ev} (h : L[k]? = some e) (hi : evIn e = true) : planE c (L.take (k + 1)) = planE c (L.take k) ++ [{ e with t := e.t + c }] := by
  unfold planE
  rw [take_snocN h, List.filter_append, List.map_append]
  simp [hi]
theorem planE_out {c : Nat} {L : List Ev} {k : Nat} {e : Ev} (h : L[k]? = some e) (hi : evIn e = false) : planE c (L.take (k + 1)) = planE c (L.take k) := by
  unfold planE
  rw [take_snocN h, List.filter_append, List.map_append]
  simp [hi]
theorem planE_mem {c : Nat} {L : List Ev} {e : Ev} (h : e ∈ planE c L) : ∃ d ∈ L, e = { d with t := d.t + c } := by
  obtain ⟨d, hd, rfl⟩ := List.mem_map.1 h
  exact ⟨d, (List.mem_filter.1 hd).1, rfl⟩
theorem planE_len (c : Nat) (L : List Ev) : (planE c L).length ≤ L.length := by
  unfold planE
  rw [List.length_map]
  exact List.length_filter_le _ _
theorem noU_snoc {L : List Ev} {k : Nat} {e : Ev} (h : L[k]? = some e) (h0 : NoUser (L.take k)) (h1 : e.kind ≠ 4 ∧ e.kind ≠ 5) : NoUser (L.take (k + 1)) := by
  rw [take_snocN h]
  intro d hd
  rcases List.mem_append.1 hd with hd | hd
  · exact h0 d hd
  · rw [List.mem_singleton.1 hd]; exact h1
theorem few_path {L : List Ev} (h : fewEv L = true) : L.length ≤ 60 ∧ ∀ e ∈ L, e.path.length ≤ 400 := by
  unfold fewEv at h
  simp only [Bool.and_eq_true, decide_eq_true_eq, List.all_eq_true] at h
  exact ⟨h.1, h.2.1⟩
theorem good_crash {n : Nat} {m : Fs} (h : Good n m) (keep torn : Int) : Good (n + 1) (crash m keep torn) :=
  have k10 := left_hap h.ok ⟨0, 1, 0, keep, torn, [], []⟩
  h.left (k10.1.mono (by omega)) (by have := k10.2; show (hapM m ⟨0, 1, 0, keep, torn, [], []⟩).calls ≤ _; omega)

end Go.Proofs.YtfimfbdlegookaaGreatDoor

/-! marlaw8.RefsEither. Conditions: as each theorem states. -/
namespace Go.Proofs.YtfimfbdlegookaaGreatDoor
open Go Go.RowKit
set_option linter.unusedVariables false
set_option linter.unusedSimpArgs false
set_option linter.unusedSectionVars false
variable [Inhabited BaseW]

set_option maxRecDepth 100000 in
set_option maxHeartbeats 8000000 in
theorem either_any (a b oth : B8) (vp : Value) (L : List Ev) (keep torn : Int) (w : World) (hB : Ext baseW w) (hE : Env w) (hS : EnvS w) (hv : ReadO w IsEvI vp L) (hi : ∀ e ∈ L, I64 e.keep ∧ I64 e.torn) (hk : I64 keep) (ht : I64 torn) :
    Calls Tryz.prog 5 #[S8 a, S8 b, S8 oth, vp, .int .i64 keep, .int .i64 torn] w fun e w' => e = .returned (.bool true) ∧ Ext w w' := by
  obtain ⟨pa, pc, rfl, l1, l2, l3, h4⟩ := readO_get 7 (fun c x hx => hx.length.1) (by omega) hv
  have H4 : Hid _ := h4
  have HV : Hid (ReadO w IsEvI (.slice pa L.length pc) L) := hv
  have HE : Hid (Env w) := hE
  have HS : Hid (EnvS w) := hS
  have HBW : Hid (Ext baseW w) := hB
  have HI : Hid (∀ e ∈ L, I64 e.keep ∧ I64 e.torn) := hi
  have HK : Hid (I64 keep) := hk
  have HTN : Hid (I64 torn) := ht
  clear h4 hv hE hS hB hi hk ht
  go_enter Tryz.func5, Tryz.ntmps5
  go_wp2_with fail
  go_at_call 10
  refine (first8_any w HE.out HS.out).mono ?_
  rintro e w1 ⟨rfl, hx1⟩
  have HX1 : Hid (Ext w w1) := hx1
  clear hx1
  go_wp2_with fail
  go_at_call 11
  refine (new_yes 1048576 _ (by omega) (by omega)).mono ?_
  rintro e w2 ⟨⟨p, rfl, hf⟩, hx2⟩
  have H2 : Hid (One w1 (fun _ => False) (Nu w1 w2) w2 p (newM 1048576)) := One.new hf hx2
  obtain ⟨g, rfl⟩ : ∃ g, p = .pointer (some ⟨g, 0, none⟩) := by
    obtain ⟨g, gm, gd, vp, vl, vu, L, c0, hpe, -⟩ := hf
    exact ⟨g, hpe⟩
  have HX2 : Hid (Ext w w2) := HX1.out.trans hx2
  clear hf hx2
  obtain ⟨bad, hbad⟩ : ∃ c : Bool, okE a b oth L = !c := ⟨!okE a b oth L, by simp⟩
  have HBAD : Hid _ := hbad
  clear hbad
  obtain ⟨fw, hfw⟩ : ∃ b, fewEv L = b := ⟨_, rfl⟩
  have HFW : Hid _ := hfw
  clear hfw
  go_upto_region 4 with fail
  go_cut [73] (fun c wx => c = .bool bad ∧ Ext w2 wx)
  case first => as_aux_lemma =>
    go_wp2_with fail
    go_at_call 23
    refine (fewEvents_any (HV.out.dExt HX2.out)).mono ?_
    rw [HFW.out]
    rintro e w3 ⟨rfl, hx3⟩
    have H3 : Hid (Ext w2 w3) := hx3
    clear hx3
    cases fw with
    | false =>
      have HR : Hid (bad = true) := okE_bad HBAD.out (by unfold okE; rw [HFW.out]; rfl)
      go_wp2_with fail
      go_meet
      case rel => exact ⟨by rw [HR.out], H3.out⟩
    | true =>
      by_cases hla : (100 : Int) < (a.length : Int)
      · have HR : Hid (bad = true) := okE_bad HBAD.out (by unfold okE; rw [decide_eq_false (by omega : ¬ a.length ≤ 100)]; simp)
        go_wp2_with fail
        go_meet
        case rel => exact ⟨by rw [HR.out], H3.out⟩
      by_cases hlb : (100 : Int) < (b.length : Int)
      · have HR : Hid (bad = true) := okE_bad HBAD.out (by unfold okE; rw [decide_eq_false (by omega : ¬ b.length ≤ 100)]; simp)
        go_wp2_with fail
        go_meet
        case rel => exact ⟨by rw [HR.out], H3.out⟩
      by_cases hloth : (100 : Int) < (oth.length : Int)
      · have HR : Hid (bad = true) := okE_bad HBAD.out (by unfold okE; rw [decide_eq_false (by omega : ¬ oth.length ≤ 100)]; simp)
        go_wp2_with fail
        go_meet
        case rel => exact ⟨by rw [HR.out], H3.out⟩
      obtain ⟨vb, hvb⟩ : ∃ vb, validB b = vb := ⟨_, rfl⟩
      have HVB : Hid _ := hvb
      clear hvb
      go_wp2_with fail
      go_at_call 14
      refine (valid_any b w3 (by omega)).mono ?_
      rw [HVB.out]
      rintro e w4 ⟨rfl, hx4⟩
      have H4w : Hid (Ext w2 w4) := H3.out.trans hx4
      clear hx4
      cases vb with
      | false =>
        have HR : Hid (bad = true) := okE_bad HBAD.out (by unfold okE; rw [HVB.out]; simp)
        go_wp2_with fail
        go_meet
        case rel => exact ⟨by rw [HR.out], H4w.out⟩
      | true =>
        obtain ⟨ab, hab⟩ : ∃ ab, (a == ([] : B8)) = ab := ⟨_, rfl⟩
        have hab2 : (a != ([] : B8)) = !ab := by unfold bne; rw [hab]
        have HAB : Hid _ := hab
        obtain ⟨va, hva⟩ : ∃ va, validB a = va := ⟨_, rfl⟩
        have HVA : Hid _ := hva
        clear hva
        obtain ⟨vo, hvo⟩ : ∃ vo, validB oth = vo := ⟨_, rfl⟩
        have HVO : Hid _ := hvo
        clear hvo
        cases ab
        case' false =>
          go_wp2_with fail
          go_at_call 14
          refine (valid_any a w4 (by omega)).mono ?_
          rw [HVA.out]
          rintro e w5 ⟨rfl, hx5⟩
          have H5w : Hid (Ext w2 w5) := H4w.out.trans hx5
          clear hx5
          cases va
          case' false =>
            have HR : Hid (bad = true) := okE_bad HBAD.out (by unfold okE; rw [HAB.out, HVA.out]; simp)
            go_wp2_with fail
            go_meet
            case rel => exact ⟨by rw [HR.out], H5w.out⟩
          case' true =>
            have HAV : Hid (((a == ([] : B8)) || validB a) = true) := by unfold Hid; rw [HVA.out]; simp
            go_wp2_with fail
        case' true =>
          have HAV : Hid (((a == ([] : B8)) || validB a) = true) := by unfold Hid; rw [HAB.out]; rfl
          obtain ⟨w5, hw5⟩ : ∃ w5, w5 = w4 := ⟨_, rfl⟩
          have H5w : Hid (Ext w2 w5) := by rw [hw5]; exact H4w.out
          go_wp2_with fail
          rw [← hw5]
          clear hw5
        all_goals
          go_at_call 14
          refine (valid_any oth w5 (by omega)).mono ?_
          rw [HVO.out]
          rintro e w6 ⟨rfl, hx6⟩
          have H6w : Hid (Ext w2 w6) := H5w.out.trans hx6
          clear hx6
          cases vo with
          | false =>
            have HR : Hid (bad = true) := okE_bad HBAD.out (by unfold okE; rw [HVO.out]; simp)
            go_wp2_with fail
            go_meet
            case rel => exact ⟨by rw [HR.out]; try (simp; omega), H6w.out⟩
          | true =>
            have HR : Hid (bad = false) := okE_good HBAD.out HFW.out (by omega) (by omega) (by omega) HVB.out HAV.out HVO.out
            go_wp2_with fail
            go_meet
            case rel => exact ⟨by rw [HR.out]; try (simp; omega), H6w.out⟩
  case rest =>
    obtain ⟨rfl, hx26⟩ := hcut
    obtain ⟨w6, rfl⟩ : ∃ w6 : World, w6 = wc := ⟨_, rfl⟩
    have HX6 : Hid (Ext w w6) := HX2.out.trans hx26
    have HO6 : Hid (One w1 (fun _ => False) (Nu w1 w2) w6 (.pointer (some ⟨g, 0, none⟩)) (newM 1048576)) := One.more H2.out hx26
    clear hx26
    cases bad with
    | true =>
      go_wp2_with fail
      go_at_call 10
      refine (first8_any w6 (HE.out.ext HX6.out) (HS.out.ext HX6.out)).mono ?_
      rintro e wz ⟨rfl, hxz⟩
      go_wp2
      go_ret
      exact ⟨rfl, HX6.out.trans hxz⟩
    | false =>
      obtain ⟨hfw, hla, hlb, hlo, hvb, hav, hvo⟩ := okE_all HBAD.out
      obtain ⟨hl60, hpth⟩ := few_path hfw
      have HPTH : Hid _ := hpth
      have HVB : Hid (validB b = true) := hvb
      have HVO : Hid (validB oth = true) := hvo
      have HAV : Hid (a = [] ∨ validB a = true) := hav
      clear hpth hvb hvo hav hfw HFW fw
      go_wp2_with fail
      go_loopw [15] (fun i wr => ∃ k : Nat, k ≤ L.length ∧ i = .int .i64 k ∧ NoUser (L.take k) ∧ Ext w6 wr) (fun i _ => L.length - (intOf i).toNat)
      case atStart => exact ⟨0, Nat.zero_le _, rfl, (fun e he => by simp at he), Ext.refl _⟩
      case round =>
        obtain ⟨k, hk, rfl, hnu, hxr⟩ := hrel
        have HNU : Hid (NoUser (L.take k)) := hnu
        have HXR : Hid (Ext w6 wr) := hxr
        have HXW : Hid (Ext w wr) := HX6.out.trans hxr
        clear hnu hxr
        by_cases hlt : k < L.length
        · obtain ⟨e, hke⟩ : ∃ e, L[k]? = some e := ⟨_, List.getElem?_eq_getElem hlt⟩
          obtain ⟨bb, oo, cs, rfl, hev, hc⟩ := H4.out k e hke
          obtain ⟨vd, rfl, hd⟩ := hev
          have c1 := HXW.out.cell (hc 1 _ rfl)
          have HKE : Hid _ := hke
          clear hc hd hke
          by_cases k4 : e.kind = 4
          · have hk4 : (e.kind == 4) = true := by simpa using k4
            clear k4
            go_wp2_with fail
            go_at_call 10
            refine (first8_any wr (HE.out.ext HXW.out) (HS.out.ext HXW.out)).mono ?_
            rintro e wz ⟨rfl, hxz⟩
            go_wp2
            go_ret
            exact ⟨rfl, HXW.out.trans hxz⟩
          · have hk4 : (e.kind == 4) = false := by simpa using k4
            by_cases k5 : e.kind = 5
            · have hk5 : (e.kind == 5) = true := by simpa using k5
              clear k4 k5
              go_wp2_with fail
              go_at_call 10
              refine (first8_any wr (HE.out.ext HXW.out) (HS.out.ext HXW.out)).mono ?_
              rintro e wz ⟨rfl, hxz⟩
              go_wp2
              go_ret
              exact ⟨rfl, HXW.out.trans hxz⟩
            · have hk5 : (e.kind == 5) = false := by simpa using k5
              have HNU2 : Hid (NoUser (L.take (k + 1))) := noU_snoc HKE.out HNU.out ⟨k4, k5⟩
              clear k4 k5
              go_wp2_with fail
              go_roundw
              case rel => exact ⟨k + 1, by omega, by go_num, HNU2.out, HXR.out⟩
              case measure => simp [intOf]; omega
        · have hkk : k = L.length := by omega
          subst hkk
          have HNUL : Hid (NoUser L) := by have h9 := HNU.out; rw [List.take_length] at h9; exact h9
          have HE1 : Hid (Env w1) := HE.out.ext HX1.out
          have HOR : Hid (One w1 (fun _ => False) (Nu w1 w2) wr (.pointer (some ⟨g, 0, none⟩)) (newM 1048576)) := One.more HO6.out HXR.out
          have hg0 : Good 0 (newM 1048576) := good_new (by omega) (by omega)
          obtain ⟨b1, b2⟩ := bef1 HVO.out
          have hsc := set_any otherB [] oth (One.fin HOR.out HE1.out hg0 (by omega)) hg0 (by omega) (by decide) (by decide) (by omega)
          have hgs := good_set hg0 otherB [] oth
          obtain ⟨⟨m1, r1⟩, hm1⟩ : ∃ q, setM (newM 1048576) otherB [] oth = q := ⟨_, rfl⟩
          rw [hm1] at b1 b2 hsc hgs
          have hr1 : r1 = 0 := b1
          subst hr1
          have HSC : Hid _ := hsc
          have HBF1 : Hid (Bef m1 [] oth (hvO oth) 1) := b2
          have HGS : Hid (Good 6 m1) := hgs
          clear b1 b2 hsc hgs hm1 hg0
          go_upto_region 11 with fail
          go_cut [113] (fun c wx => c = .bool false ∧ ∃ (m2 : Fs) (hvA : B8 → Option B8) (O8 : Nat → Prop), One w1 (fun _ => False) O8 wx (.pointer (some ⟨g, 0, none⟩)) m2 ∧ Bef m2 a oth hvA 2 ∧ Good 12 m2)
          case first => as_aux_lemma =>
            go_wp2_with fail
            go_at_call 15
            refine Calls.mono HSC.out ?_
            rintro e9 w7 ⟨rfl, hp7⟩
            have HO7 : Hid (One w1 (fun _ => False) (Nw (Nu w1 w2) wr w7) w7 (.pointer (some ⟨g, 0, none⟩)) m1) := One.post HOR.out hp7
            clear hp7 HSC
            obtain ⟨ab, hab⟩ : ∃ ab, (a == ([] : B8)) = ab := ⟨_, rfl⟩
            have hab2 : (a != ([] : B8)) = !ab := by unfold bne; rw [hab]
            cases ab with
            | false =>
              have hva : validB a = true := by
                rcases HAV.out with h | h
                · rw [h] at hab; simp at hab
                · exact h
              obtain ⟨b1, b2⟩ := bef2 HBF1.out hva
              have hsc := set_any headB [] a (One.fin HO7.out HE1.out HGS.out (by omega)) HGS.out (by omega) (by decide) (by decide) (by omega)
              have hgs := good_set HGS.out headB [] a
              obtain ⟨⟨m2, r2⟩, hm2⟩ : ∃ q, setM m1 headB [] a = q := ⟨_, rfl⟩
              rw [hm2] at b1 b2 hsc hgs
              have hr2 : r2 = 0 := b1
              subst hr2
              have HSC : Hid _ := hsc
              have HBF : Hid (Bef m2 a oth (updH (hvO oth) headB a) 2) := b2
              have HG2 : Hid (Good 12 m2) := hgs
              clear b1 b2 hsc hgs hm2 hva
              go_wp2_with fail
              go_at_call 15
              refine Calls.mono HSC.out ?_
              rintro e9 w8 ⟨rfl, hp8⟩
              have HO8 : Hid (One w1 (fun _ => False) _ w8 (.pointer (some ⟨g, 0, none⟩)) m2) := One.post HO7.out hp8
              clear hp8 HSC
              go_wp2_with fail
              go_meet
              case rel => exact ⟨rfl, m2, _, _, HO8.out, HBF.out, HG2.out⟩
            | true =>
              have hae : a = [] := by simpa using hab
              have HBF : Hid (Bef m1 a oth (hvO oth) 2) := by rw [hae]; exact HBF1.out.mono (by omega)
              clear hae
              go_wp2_with fail
              go_meet
              case rel => exact ⟨rfl, m1, _, _, HO7.out, HBF.out, HGS.out.mono (by omega)⟩
          case rest =>
            obtain ⟨rfl, m2, hvA, O8, ho8, hbf, hg2⟩ := hcut
            obtain ⟨w8, rfl⟩ : ∃ w8 : World, w8 = wc := ⟨_, rfl⟩
            have HO8 : Hid (One w1 (fun _ => False) O8 w8 (.pointer (some ⟨g, 0, none⟩)) m2) := ho8
            have HBF : Hid (Bef m2 a oth hvA 2) := hbf
            have HG2 : Hid (Good 12 m2) := hg2
            clear ho8 hbf hg2 HBF1 HGS HSC HOR
            go_wp2_with fail
            have HXW8 : Hid (Ext w w8) := HX1.out.trans HO8.out.ext
            obtain ⟨cc, hcc⟩ : ∃ cc, m2.calls = cc := ⟨_, rfl⟩
            have hccb : cc ≤ 6000 := by have := HG2.out.calls; omega
            have HCC : Hid _ := hcc
            have HNB : Hid (w1.heap.size ≤ w8.heap.size) := HO8.out.ext.size
            clear hcc
            go_loopw [16, 17] (fun v i wr => ∃ (k n : Nat) (css : List (List Value)), k ≤ L.length ∧ i = .int .i64 k ∧ n ≤ k ∧ Hid ((planE cc (L.take k)).length = n) ∧ wr.ownsRow w8.heap.size 53 7 v n css.flatten ∧ Each IsEvI css (planE cc (L.take k)) ∧ Ext w8 wr) (fun _ i _ => L.length - (intOf i).toNat)
            case atStart => exact ⟨0, 0, [], Nat.zero_le _, rfl, Nat.le_refl _, rfl, World.ownsRow_nil _ _ _ _, Each.nil _, Ext.refl _⟩
            case round =>
              obtain ⟨k, n, css, hk, rfl, hnk, HPL, hown, heach, hxr⟩ := hrel
              have HEA : Hid (Each IsEvI css (planE cc (L.take k))) := heach
              have HXR : Hid (Ext w8 wr) := hxr
              have HXW : Hid (Ext w wr) := HXW8.out.trans hxr
              have HOW : Hid (wr.ownsRow w8.heap.size 53 7 u16 n css.flatten) := hown
              have hsz8 : w8.heap.size ≤ wr.heap.size := hxr.size
              clear heach hxr hown
              by_cases hlt : k < L.length
              · obtain ⟨e, hke⟩ : ∃ e, L[k]? = some e := ⟨_, List.getElem?_eq_getElem hlt⟩
                obtain ⟨bb, oo, cs, rfl, hev, hc⟩ := H4.out k e hke
                obtain ⟨vd, rfl, hd⟩ := hev
                obtain ⟨s1, s2, rfl, -⟩ := id hd.bytes
                have c0 := HXW.out.cell (hc 0 _ rfl)
                have c1 := HXW.out.cell (hc 1 _ rfl)
                have c2 := HXW.out.cell (hc 2 _ rfl)
                have c3 := HXW.out.cell (hc 3 _ rfl)
                have c4 := HXW.out.cell (hc 4 _ rfl)
                have c5 := HXW.out.cell (hc 5 _ rfl)
                have c6 := HXW.out.cell (hc 6 _ rfl)
                simp only [Nat.add_zero] at c0
                have HKE : Hid _ := hke
                have HD : Hid (OldB (.slice s1 e.data.length s2) e.data) := hd
                clear hc hd hke
                go_upto_region 18 with fail
                obtain ⟨wa, hwa⟩ : ∃ wa, wa = wr.alloc (.cells #[.int .i64 e.t, .int .i64 e.kind, .int .i64 e.mode, .int .i64 e.keep, .int .i64 e.torn, S8 e.path, .slice s1 e.data.length s2] 53) := ⟨_, rfl⟩
                have hxa : Ext wr wa := by rw [hwa]; exact (Ext.refl _).alloc _
                have hga : wa.heap[wr.heap.size]? = some (.cells #[.int .i64 e.t, .int .i64 e.kind, .int .i64 e.mode, .int .i64 e.keep, .int .i64 e.torn, S8 e.path, .slice s1 e.data.length s2] 53 (0, 0)) := by rw [hwa]; exact alloc_at _ _
                rw [show wr.alloc (.cells #[.int .i64 e.t, .int .i64 e.kind, .int .i64 e.mode, .int .i64 e.keep, .int .i64 e.torn, S8 e.path, .slice s1 e.data.length s2] 53) = wa from hwa.symm]
                obtain ⟨gp, hgp⟩ : ∃ gp, wr.heap.size = gp := ⟨_, rfl⟩
                rw [hgp] at hga ⊢
                have q0 : wa.cell? ⟨gp, 0, none⟩ = some (.int .i64 e.t) := (cell_of_row _ _ 0 _ _ _ hga).trans rfl
                have HGA : Hid _ := hga
                have HXA : Hid (Ext w8 wa) := HXR.out.trans hxa
                have HOA : Hid (wa.ownsRow w8.heap.size 53 7 u16 n css.flatten) := owns_ext HOW.out hxa
                have HGP : Hid (w8.heap.size ≤ gp ∧ ∀ j, u16.ownBlock = some j → j ≠ gp) := ⟨by omega, fun j hj => by have := (HOW.out.lt j hj).2; omega⟩
                clear hwa hxa hga hgp c0 c1 c2 c3 c4 c5 c6
                have hno : evIn e = false ∨ (0 < e.t ∧ e.t < 100) := by
                  unfold evIn
                  by_cases h1 : 0 < e.t
                  · by_cases h2 : e.t < 100
                    · exact .inr ⟨h1, h2⟩
                    · exact .inl (by simp [h2])
                  · exact .inl (by simp [h1])
                by_cases t0 : 0 < e.t
                · by_cases t1 : e.t < 100
                  · have HIN : Hid (evIn e = true) := by unfold Hid evIn; simp [t0, t1]
                    have hwr : IntKind.i64.wrap (e.t + (cc : Int)) = e.t + cc := IntWalk.i64_in _ (by omega)
                    clear hno
                    go_wp2_with fail
                    apply wp_region_mix 6 [_, _, _, .int .i64 (cc : Int), .int .i64 (e.t + (cc : Int)), _] [none, none, none, none, none, none] [[], [0], [], [2], [1, 3], []] (by kernel_rfl) (by kernel_rfl) (by simp [mixV])
                    · trivial
                    · simp (maxSteps := 1000000) only [List.take_succ_cons, List.take_zero, oblFrom, stepObl, fillFrom, Act.put, List.setIfInBounds_toArray, List.set_cons_zero, List.set_cons_succ, knows, getV, mixV, List.getD_cons_zero, List.getD_cons_succ, and_true, true_and, forall_const]
                      refine ⟨?_, ?_, ?_, ?_, ?_, ?_⟩
                      · intro xs wq hq R hR
                        have f0 := hq.cell q0
                        go_simp
                        exact hR _ _ (Ext.refl _) rfl
                      · intro xs wq hq hk R hR
                        have f0 := hq.cell q0
                        go_simp
                        exact hR _ _ (Ext.refl _) rfl
                      · intro xs wq hq R hR
                        have f0 := hq.cell q0
                        go_simp
                        exact hR _ _ (Ext.refl _) rfl
                      · intro xs wq hq hk R hR
                        have hfs := IsFs.ext (One.more HO8.out HXA.out).fs hq
                        go_simp
                        exact (calls_any hfs).mono (by rintro e' w4 ⟨rfl, rfl⟩; rw [HCC.out]; exact ⟨_, rfl, hR _ _ (Ext.refl _) rfl⟩)
                      · intro xs wq hq hk R hR
                        obtain ⟨hk0, hk1⟩ := hk
                        have f0 := hq.cell q0
                        go_simp
                        exact hR _ _ (Ext.refl _) rfl
                      · intro xs wq hq R hR
                        have f0 := hq.cell q0
                        go_simp
                        exact hR _ _ (Ext.refl _) rfl
                    intro xs w9 hx9 hk
                    simp only [heldV, Nat.zero_add, Nat.reduceAdd, and_true] at hk
                    obtain ⟨q0, q1, q2, q3, q4, q5⟩ := hk
                    simp (maxSteps := 1000000) only [List.take_succ_cons, List.take_zero, List.drop_succ_cons, List.drop_zero, fillFrom, Act.put, List.setIfInBounds_toArray, List.set_cons_zero, List.set_cons_succ, Nat.zero_add, Nat.reduceAdd, q0, q1, q2, q3, q4, q5]
                    clear q0 q1 q2 q3 q4 q5
                    have hg9 := Ext.row hx9 HGA.out
                    refine store_field rfl 3 (.tmp 137) (.tmp 136) rfl gp 0 rfl (.int .i64 (e.t + (cc : Int))) rfl rfl 53 #[.int .i64 e.t, .int .i64 e.kind, .int .i64 e.mode, .int .i64 e.keep, .int .i64 e.torn, S8 e.path, .slice s1 e.data.length s2] hg9 (by simp) (by kernel_rfl) #[.int .i64 (e.t + cc), .int .i64 e.kind, .int .i64 e.mode, .int .i64 e.keep, .int .i64 e.torn, S8 e.path, .slice s1 e.data.length s2] (by simp) ?_
                    intro w10 hg10 hgr10
                    have p0 : w10.cell? ⟨gp, 0, none⟩ = some (.int .i64 (e.t + (cc : Int))) := (cell_of_row _ _ 0 _ _ _ hg10).trans rfl
                    have p1 : w10.cell? ⟨gp, 1, none⟩ = some (.int .i64 e.kind) := (cell_of_row _ _ 1 _ _ _ hg10).trans rfl
                    have p2 : w10.cell? ⟨gp, 2, none⟩ = some (.int .i64 e.mode) := (cell_of_row _ _ 2 _ _ _ hg10).trans rfl
                    have p3 : w10.cell? ⟨gp, 3, none⟩ = some (.int .i64 e.keep) := (cell_of_row _ _ 3 _ _ _ hg10).trans rfl
                    have p4 : w10.cell? ⟨gp, 4, none⟩ = some (.int .i64 e.torn) := (cell_of_row _ _ 4 _ _ _ hg10).trans rfl
                    have p5 : w10.cell? ⟨gp, 5, none⟩ = some (S8 e.path) := (cell_of_row _ _ 5 _ _ _ hg10).trans rfl
                    have p6 : w10.cell? ⟨gp, 6, none⟩ = some (.slice s1 e.data.length s2) := (cell_of_row _ _ 6 _ _ _ hg10).trans rfl
                    have hx10 : Ext w8 w10 := Ext.but (HXA.out.trans hx9) hgr10 HGP.out.1
                    have hown10 : w10.ownsRow w8.heap.size 53 7 u16 n css.flatten := (owns_ext HOA.out hx9).kept hgr10 (by
                      cases hv : u16.ownBlock with
                      | none => exact .inl rfl
                      | some j => exact .inr (fun he => HGP.out.2 j hv (Option.some.inj he)))
                    have HX10 : Hid (Ext w8 w10) := hx10
                    have hs10 : w8.heap.size ≤ w10.heap.size := hx10.size
                    clear hx9 hg9 hg10 hgr10 hx10 q0
                    go_wp2_with (at_builtin; go_must (refine app_ev rfl _ _ rfl w8.heap.size _ n _ rfl (hown10.alloc _) w10.heap.size 1 [.int .i64 (e.t + cc), .int .i64 e.kind, .int .i64 e.mode, .int .i64 e.keep, .int .i64 e.torn, S8 e.path, .slice s1 e.data.length s2] rfl rfl (alloc_at _ _) (by simp [Value.oneCell']) (by omega) (by simp; omega) ?_; intro v' w11 hown11 hg11 hob))
                    go_roundw
                    case rel =>
                      refine ⟨k + 1, n + 1, css ++ [[.int .i64 (e.t + cc), .int .i64 e.kind, .int .i64 e.mode, .int .i64 e.keep, .int .i64 e.torn, S8 e.path, .slice s1 e.data.length s2]], by omega, by go_num, by omega, ?_, ?_, ?_, owns_ext_app (HX10.out.alloc _) (hown10.alloc _) hg11⟩
                      · unfold Hid; rw [planE_in HKE.out HIN.out, List.length_append, HPL.out]; rfl
                      · rw [List.flatten_append]; simpa using hown11
                      · rw [planE_in HKE.out HIN.out]; exact Each.snoc HEA.out ⟨_, rfl, HD.out⟩
                    case measure => simp [intOf]; omega
                  · have HIN : Hid (evIn e = false) := hno.resolve_right (fun h => t1 h.2)
                    clear hno
                    go_wp2_with fail
                    go_roundw
                    case rel => exact ⟨k + 1, n, css, by omega, by go_num, by omega, (by unfold Hid; rw [planE_out HKE.out HIN.out]; exact HPL.out), HOA.out, (by rw [planE_out HKE.out HIN.out]; exact HEA.out), HXA.out⟩
                    case measure => simp [intOf]; omega
                · have HIN : Hid (evIn e = false) := hno.resolve_right (fun h => t0 h.1)
                  clear hno
                  go_wp2_with fail
                  go_roundw
                  case rel => exact ⟨k + 1, n, css, by omega, by go_num, by omega, (by unfold Hid; rw [planE_out HKE.out HIN.out]; exact HPL.out), HOA.out, (by rw [planE_out HKE.out HIN.out]; exact HEA.out), HXA.out⟩
                  case measure => simp [intOf]; omega
              · have hkk : k = L.length := by omega
                subst hkk
                have HPN : Hid ((planE cc L).length = n) := by have h9 := HPL.out; rw [List.take_length] at h9; exact h9
                have hea : Each IsEvI css (planE cc L) := by have h9 := HEA.out; rw [List.take_length] at h9; exact h9
                have HOR2 : Hid (One w1 (fun _ => False) O8 wr (.pointer (some ⟨g, 0, none⟩)) m2) := One.more HO8.out HXR.out
                have hown2 := HOW.out
                rw [← HPN.out] at hown2
                have hro : ReadO wr IsEvI u16 (planE cc L) := ⟨css, Row.of_owns hown2 (by have := HPN.out; omega), fun _ j hj => (hown2.lt j hj).2, hea⟩
                have hP0 : (planE cc L).length ≤ 60 := by have := HPN.out; omega
                have hP1 : ∀ e ∈ planE cc L, I64 e.keep ∧ I64 e.torn ∧ e.path.length ≤ 400 := fun e he => by
                  obtain ⟨d, hd, rfl⟩ := planE_mem he
                  exact ⟨(HI.out d hd).1, (HI.out d hd).2, HPTH.out d hd⟩
                have hP2 : NoUser (planE cc L) := fun e he => by
                  obtain ⟨d, hd, rfl⟩ := planE_mem he
                  exact HNUL.out d hd
                obtain ⟨P, hPe⟩ : ∃ P, planE cc L = P := ⟨_, rfl⟩
                rw [hPe] at hro hP0 hP1 hP2
                have HRB : Hid (ReadB wr u16 P) := (ReadO.dUp hro (fun e he => (hP1 e he).2.2)).dRead (HBW.out.trans HXW.out)
                have HG3 : Hid (Good 12 (planM m2 P)) := good_plan HG2.out hP0 hP1
                have hnu3 : NoUser (planM m2 P).plan := fun e he => hP2 e (List.mem_filter.1 he).1
                obtain ⟨hs1, hs2⟩ := set_sf (m := planM m2 P) (hv := hvA) (k := headB) (b := b) (n := 2) hnu3 HBF.out.ap.room HBF.out.ap.down HBF.out.sure HBF.out.pend HBF.out.ap.f name_head HVB.out
                rw [HBF.out.head] at hs1 hs2
                have hPl : P.length ≤ 1000 := by omega
                clear hown2 hro hP1 hP2 hnu3 hea hPe hP0 HOW HEA HPL HPN
                go_wp2_with fail
                go_at_call 25
                refine (plan_any HOR2.out.fs (fun k hk => (HOR2.out.lo k hk).2) HRB.out hPl).mono ?_
                rintro e9 w11 ⟨rfl, hf11, hr11⟩
                have HO11 : Hid (One w1 (Nu wr w11) O8 w11 (.pointer (some ⟨g, 0, none⟩)) (planM m2 P)) := One.plan HOR2.out hf11 hr11
                have hsc := set_any headB a b (One.fin HO11.out HE1.out HG3.out (by omega)) HG3.out (by omega) (by decide) (by omega) (by omega)
                have hgs := good_set HG3.out headB a b
                obtain ⟨⟨m4, g4⟩, hm4⟩ : ∃ q, setM (planM m2 P) headB a b = q := ⟨_, rfl⟩
                rw [hm4] at hs1 hs2 hsc hgs
                have HS4 : Hid (Sf (XAB hvA headB b 3) m4) := hs1
                have HS4B : Hid (g4 = 0 → Sf (XB hvA headB b 3) m4) := hs2
                have HSC : Hid _ := hsc
                have HG4 : Hid (Good 18 m4) := hgs
                clear hf11 hr11 hsc hgs hs1 hs2 hm4 hPl
                go_wp2_with fail
                go_at_call 15
                refine Calls.mono HSC.out ?_
                rintro e9 w12 ⟨rfl, hp12⟩
                obtain ⟨S12, hS12⟩ : ∃ S, S = Nu wr w11 := ⟨_, rfl⟩
                obtain ⟨O12, hO12⟩ : ∃ O, O = Nw O8 w11 w12 := ⟨_, rfl⟩
                have HO12 : Hid (One w1 S12 O12 w12 (.pointer (some ⟨g, 0, none⟩)) m4) := by rw [hS12, hO12]; exact One.post HO11.out hp12
                clear hp12 HSC hS12 hO12
                obtain ⟨dn, hdn⟩ : ∃ dn, m4.down = dn := ⟨_, rfl⟩
                have HDN : Hid _ := hdn
                clear hdn
                go_upto_region 23 with fail
                go_cut [162] (fun c wx => c = .bool false ∧ One w1 S12 O12 wx (.pointer (some ⟨g, 0, none⟩)) m4)
                case first => as_aux_lemma =>
                  go_wp2_with fail
                  go_at_call 26
                  refine (up_any HO12.out.fs).mono ?_
                  rw [HDN.out]
                  rintro e9 w13 ⟨rfl, hw13⟩
                  subst hw13
                  cases dn with
                  | true =>
                    go_wp2_with fail
                    go_meet
                    case rel => exact ⟨rfl, HO12.out⟩
                  | false =>
                    obtain ⟨ia, hia⟩ : ∃ i, isF m4.now headB a = i := ⟨_, rfl⟩
                    have HIA : Hid _ := hia
                    clear hia
                    go_wp2_with fail
                    go_at_call 27
                    refine (is_any headB a HO12.out.fs (by decide) (by omega)).mono ?_
                    rw [HIA.out]
                    rintro e9 w14 ⟨rfl, hx14⟩
                    have HO14 : Hid (One w1 S12 O12 w14 (.pointer (some ⟨g, 0, none⟩)) m4) := One.more HO12.out hx14
                    clear hx14
                    cases ia with
                    | true =>
                      go_wp2_with fail
                      go_meet
                      case rel => exact ⟨rfl, HO14.out⟩
                    | false =>
                      have HIB : Hid (isF m4.now headB b = true) := (xab_is HS4.out.now HBF.out.head HBF.out.oth).1 HIA.out
                      go_wp2_with fail
                      go_at_call 27
                      refine (is_any headB b HO14.out.fs (by decide) (by omega)).mono ?_
                      rw [HIB.out]
                      rintro e9 wj ⟨rfl, hxj⟩
                      have HOJ : Hid (One w1 S12 O12 wj (.pointer (some ⟨g, 0, none⟩)) m4) := One.more HO14.out hxj
                      clear hxj
                      go_wp2_with fail
                      go_meet
                      case rel => exact ⟨rfl, HOJ.out⟩
                case rest =>
                  obtain ⟨rfl, hoj⟩ := hcut
                  obtain ⟨wj, rfl⟩ : ∃ wj : World, wj = wc := ⟨_, rfl⟩
                  have HOJ : Hid (One w1 S12 O12 wj (.pointer (some ⟨g, 0, none⟩)) m4) := hoj
                  clear hoj HO12
                  go_wp2_with fail
                  go_at_call 28
                  refine (crash_any keep torn HOJ.out.fs HG4.out.ok (by have := HG4.out.time; omega) HK.out HTN.out).mono ?_
                  rintro e9 w15 ⟨rfl, hp15⟩
                  obtain ⟨O15, hO15⟩ : ∃ O, O = Nw O12 wj w15 := ⟨_, rfl⟩
                  have HO15 : Hid (One w1 S12 O15 w15 (.pointer (some ⟨g, 0, none⟩)) (crash m4 keep torn)) := by rw [hO15]; exact One.post HOJ.out hp15
                  have HG5 : Hid (Good 19 (crash m4 keep torn)) := good_crash HG4.out keep torn
                  have HS5 : Hid (Sf (XAB hvA headB b 3) (crash m4 keep torn)) := sf_crash HS4.out keep torn
                  have HS5B : Hid (g4 = 0 → Sf (XB hvA headB b 3) (crash m4 keep torn)) := fun h0 => sf_crash (HS4B.out h0) keep torn
                  clear hp15 hO15
                  generalize crash m4 keep torn = m5 at *
                  obtain ⟨hab1, hio⟩ := xab_is HS5.out.now HBF.out.head HBF.out.oth
                  have HAB1 : Hid (isF m5.now headB a = false → isF m5.now headB b = true) := hab1
                  have HIO : Hid (isF m5.now otherB oth = true) := hio
                  clear hab1 hio
                  obtain ⟨gz, hgz⟩ : ∃ z, (g4 == 0) = z := ⟨_, rfl⟩
                  have HGZ : Hid _ := hgz
                  obtain ⟨ia, hia⟩ : ∃ i, isF m5.now headB a = i := ⟨_, rfl⟩
                  have HIA : Hid _ := hia
                  clear hia
                  go_upto_region 26 with fail
                  go_cut [192] (fun c wx => c = .bool false ∧ One w1 S12 O15 wx (.pointer (some ⟨g, 0, none⟩)) m5)
                  case first => as_aux_lemma =>
                    cases gz with
                    | true =>
                      have HIB : Hid (isF m5.now headB b = true) := (xb_is (HS5B.out (by simpa using HGZ.out)).now HBF.out.oth).1
                      go_wp2_with fail
                      go_at_call 27
                      refine (is_any headB b HO15.out.fs (by decide) (by omega)).mono ?_
                      rw [HIB.out]
                      rintro e9 w16 ⟨rfl, hx16⟩
                      have HO16 : Hid (One w1 S12 O15 w16 (.pointer (some ⟨g, 0, none⟩)) m5) := One.more HO15.out hx16
                      clear hx16
                      go_wp2_with fail
                      go_at_call 27
                      refine (is_any headB a HO16.out.fs (by decide) (by omega)).mono ?_
                      rw [HIA.out]
                      rintro e9 w17 ⟨rfl, hx17⟩
                      have HO17 : Hid (One w1 S12 O15 w17 (.pointer (some ⟨g, 0, none⟩)) m5) := One.more HO16.out hx17
                      clear hx17
                      cases ia with
                      | true =>
                        go_wp2_with fail
                        go_at_call 27
                        refine (is_any otherB oth HO17.out.fs (by decide) (by omega)).mono ?_
                        rw [HIO.out]
                        rintro e9 w18 ⟨rfl, hx18⟩
                        have HO18 : Hid (One w1 S12 O15 w18 (.pointer (some ⟨g, 0, none⟩)) m5) := One.more HO17.out hx18
                        clear hx18
                        go_wp2_with fail
                        go_meet
                        case rel => exact ⟨rfl, HO18.out⟩
                      | false =>
                        go_wp2_with fail
                        go_at_call 27
                        refine (is_any headB b HO17.out.fs (by decide) (by omega)).mono ?_
                        rw [HIB.out]
                        rintro e9 w18 ⟨rfl, hx18⟩
                        have HO18 : Hid (One w1 S12 O15 w18 (.pointer (some ⟨g, 0, none⟩)) m5) := One.more HO17.out hx18
                        clear hx18
                        go_wp2_with fail
                        go_at_call 27
                        refine (is_any otherB oth HO18.out.fs (by decide) (by omega)).mono ?_
                        rw [HIO.out]
                        rintro e9 w19 ⟨rfl, hx19⟩
                        have HO19 : Hid (One w1 S12 O15 w19 (.pointer (some ⟨g, 0, none⟩)) m5) := One.more HO18.out hx19
                        clear hx19
                        go_wp2_with fail
                        go_meet
                        case rel => exact ⟨rfl, HO19.out⟩
                    | false =>
                      go_wp2_with fail
                      go_at_call 27
                      refine (is_any headB a HO15.out.fs (by decide) (by omega)).mono ?_
                      rw [HIA.out]
                      rintro e9 w17 ⟨rfl, hx17⟩
                      have HO17 : Hid (One w1 S12 O15 w17 (.pointer (some ⟨g, 0, none⟩)) m5) := One.more HO15.out hx17
                      clear hx17
                      cases ia with
                      | true =>
                        go_wp2_with fail
                        go_at_call 27
                        refine (is_any otherB oth HO17.out.fs (by decide) (by omega)).mono ?_
                        rw [HIO.out]
                        rintro e9 w18 ⟨rfl, hx18⟩
                        have HO18 : Hid (One w1 S12 O15 w18 (.pointer (some ⟨g, 0, none⟩)) m5) := One.more HO17.out hx18
                        clear hx18
                        go_wp2_with fail
                        go_meet
                        case rel => exact ⟨rfl, HO18.out⟩
                      | false =>
                        have HIB : Hid (isF m5.now headB b = true) := HAB1.out HIA.out
                        go_wp2_with fail
                        go_at_call 27
                        refine (is_any headB b HO17.out.fs (by decide) (by omega)).mono ?_
                        rw [HIB.out]
                        rintro e9 w18 ⟨rfl, hx18⟩
                        have HO18 : Hid (One w1 S12 O15 w18 (.pointer (some ⟨g, 0, none⟩)) m5) := One.more HO17.out hx18
                        clear hx18
                        go_wp2_with fail
                        go_at_call 27
                        refine (is_any otherB oth HO18.out.fs (by decide) (by omega)).mono ?_
                        rw [HIO.out]
                        rintro e9 w19 ⟨rfl, hx19⟩
                        have HO19 : Hid (One w1 S12 O15 w19 (.pointer (some ⟨g, 0, none⟩)) m5) := One.more HO18.out hx19
                        clear hx19
                        go_wp2_with fail
                        go_meet
                        case rel => exact ⟨rfl, HO19.out⟩
                  case rest =>
                    obtain ⟨rfl, hoj⟩ := hcut
                    obtain ⟨wk, rfl⟩ : ∃ wk : World, wk = wc := ⟨_, rfl⟩
                    have HOK : Hid (One w1 S12 O15 wk (.pointer (some ⟨g, 0, none⟩)) m5) := hoj
                    obtain ⟨lkx, hx, hap, hrs, hnow⟩ := up_again HS5.out.now HS5.out.room HBF.out.head HBF.out.oth
                    have HG7 : Hid (Good 19 (planM (rebootM m5) [])) := good_plan (good_reboot HG5.out) (Nat.zero_le _) (fun e he => by cases he)
                    clear hoj HO15 hgz HGZ HIA
                    go_wp2_with fail
                    go_at_call 29
                    refine (reboot_any HOK.out.fs).mono ?_
                    rintro e9 w20 ⟨rfl, hp20⟩
                    have HO20 : Hid (One w1 S12 (Nw O15 wk w20) w20 (.pointer (some ⟨g, 0, none⟩)) (rebootM m5)) := One.post HOK.out hp20
                    clear hp20
                    go_wp2_with fail
                    go_at_call 25
                    refine (plan_any HO20.out.fs (fun k hk => (HO20.out.lo k hk).2) (readB_nil w20) (Nat.zero_le _)).mono ?_
                    rintro e9 w21 ⟨rfl, hf21, hr21⟩
                    have HO21 : Hid (One w1 (Nu w20 w21) (Nw O15 wk w20) w21 (.pointer (some ⟨g, 0, none⟩)) (planM (rebootM m5) [])) := One.plan HO20.out hf21 hr21
                    have hmn : (planM (rebootM m5) []).now = m5.now := rfl
                    clear hf21 hr21
                    obtain ⟨m7, hm7⟩ : ∃ m, planM (rebootM m5) [] = m := ⟨_, rfl⟩
                    rw [hm7] at hap HG7 HO21 hmn
                    clear hm7
                    have hfi := One.fin HO21.out HE1.out HG7.out (by omega)
                    have hln := locks_len hap
                    obtain ⟨hu1, hu2⟩ := ap_unlock hap
                    have huc := unlock_any hfi ((good_list HG7.out lockD).fit (by omega)) (fun _ => fitAll_good (good_list HG7.out lockD) (by omega))
                    have hug : Good 22 (unlockM m7).1 := good_unlock1 HG7.out hln
                    rw [hrs] at hu2
                    have hib : isF m7.now headB b = decide ((hx headB).getD [] = b) := apF_is hap.f headB b
                    obtain ⟨⟨m8, n8, e8⟩, hum⟩ : ∃ q, unlockM m7 = q := ⟨_, rfl⟩
                    rw [hum] at hu1 hu2 huc hug
                    have he8 : e8 = 0 := congrArg Prod.snd hu1
                    subst he8
                    have HAP8 : Hid (Ap m8 none hx 3) := hu2
                    have HUC : Hid _ := huc
                    have HG8 : Hid (Good 22 m8) := hug
                    have hib8 : isF m8.now headB b = decide ((hx headB).getD [] = b) := apF_is hu2.f headB b
                    have HNOW : Hid ((if isF m8.now headB b = true then b else a) = (hx headB).getD []) := by unfold Hid; rw [hib8, ← hib, hmn]; exact hnow
                    clear hfi hln hu1 hu2 huc hug hum hap hrs hnow hib hib8 hmn
                    go_wp2_with fail
                    go_at_call 19
                    refine Calls.mono HUC.out ?_
                    rintro e9 w22 ⟨rfl, hp22⟩
                    have HO22 : Hid (One w1 (Nu w20 w21) (Nw (Nw O15 wk w20) w21 w22) w22 (.pointer (some ⟨g, 0, none⟩)) m8) := One.post HO21.out hp22
                    clear hp22 HUC
                    obtain ⟨ib, hib⟩ : ∃ i, isF m8.now headB b = i := ⟨_, rfl⟩
                    have HIB : Hid _ := hib
                    clear hib
                    go_wp2_with fail
                    go_at_call 27
                    refine (is_any headB b HO22.out.fs (by decide) (by omega)).mono ?_
                    rw [HIB.out]
                    rintro e9 w23 ⟨rfl, hx23⟩
                    have HO23 : Hid (One w1 (Nu w20 w21) (Nw (Nw O15 wk w20) w21 w22) w23 (.pointer (some ⟨g, 0, none⟩)) m8) := One.more HO22.out hx23
                    have HX23 : Hid (Ext w w23) := HX1.out.trans HO23.out.ext
                    clear hx23
                    obtain ⟨cur, hcur⟩ : ∃ c, (hx headB).getD [] = c := ⟨_, rfl⟩
                    have hset := ap_set HAP8.out (by omega) name_head HVO.out no_lock
                    rw [hcur] at hset
                    have HSET : Hid _ := hset
                    have HCUR : Hid ((if ib = true then b else a) = cur) := by have h9 := HNOW.out; rw [HIB.out, hcur] at h9; exact h9
                    clear hset hcur HNOW HIB
                    cases ib
                    case' true =>
                      have hcb : b = cur := by have h9 := HCUR.out; rw [if_pos rfl] at h9; exact h9
                      have HCB : Hid _ := hcb
                      have hcl : cur.length ≤ 1000000 := by rw [← hcb]; omega
                      clear hcb
                      go_wp2_with fail
                    case' false =>
                      have hcb : a = cur := by have h9 := HCUR.out; rw [if_neg (by simp)] at h9; exact h9
                      have HCB : Hid _ := hcb
                      have hcl : cur.length ≤ 1000000 := by rw [← hcb]; omega
                      clear hcb
                      go_wp2_with fail
                    all_goals
                      go_at_call 10
                      refine (first8_any w23 (HE.out.ext HX23.out) (HS.out.ext HX23.out)).mono ?_
                      rintro e9 w24 ⟨rfl, hx24⟩
                      have HO24 : Hid (One w1 (Nu w20 w21) (Nw (Nw O15 wk w20) w21 w22) w24 (.pointer (some ⟨g, 0, none⟩)) m8) := One.more HO23.out hx24
                      clear hx24
                      have hsc := set_any headB cur oth (One.fin HO24.out HE1.out HG8.out (by omega)) HG8.out (by omega) (by decide) hcl (by omega)
                      have hset := HSET.out
                      obtain ⟨⟨m9, r9⟩, hm9⟩ : ∃ q, setM m8 headB cur oth = q := ⟨_, rfl⟩
                      rw [hm9] at hsc hset
                      have hr9 : r9 = 0 := hset.1
                      subst hr9
                      have HAP9 : Hid (Ap m9 none (updH hx headB oth) 4) := hset.2.1
                      have HSC : Hid _ := hsc
                      have HIS : Hid (isF m9.now headB oth = true) := by
                        unfold Hid
                        rw [apF_is HAP9.out.f]
                        unfold updH
                        rw [if_pos rfl]
                        simp
                      clear hsc hset hm9
                      go_wp2_with fail
                      go_at_call 15
                      rw [HCB.out]
                      refine Calls.mono HSC.out ?_
                      rintro e9 w25 ⟨rfl, hp25⟩
                      have HO25 : Hid (One w1 (Nu w20 w21) _ w25 (.pointer (some ⟨g, 0, none⟩)) m9) := One.post HO24.out hp25
                      clear hp25 HSC
                      go_wp2_with fail
                      go_at_call 27
                      refine (is_any headB oth HO25.out.fs (by decide) (by omega)).mono ?_
                      rw [HIS.out]
                      rintro e9 w26 ⟨rfl, hx26⟩
                      have HX26 : Hid (Ext w w26) := HX1.out.trans (HO25.out.ext.trans hx26)
                      clear hx26
                      go_wp2
                      go_ret
                      exact ⟨rfl, HX26.out⟩

end Go.Proofs.YtfimfbdlegookaaGreatDoor

/-! marlaw8.RefsEither: whatever the input, the law returns true, and the input reads as it did: its row's statement and its tied card. Conditions: what the row lists: the library's variables hold what the program's text lays. -/
namespace Go.Proofs.YtfimfbdlegookaaGreatDoor.refsEither
open Go Go.ChangeShapes Go.WideShapes Go.ChangeAt Go.RowKit Go.Deep

set_option maxRecDepth 100000 in
theorem contract (H : Type) (enc : TypeId × Value → H) (W : World) (base : Nat) (args : Array Value) (ds gs : List (DataW H)) (before : List MemPlace)
    (hval : ∀ (j : Nat) t v, Tryz.f5.params[j]? = some t → args[j]? = some v → Value.okWide Tryz.prog W .any base t v)
    (hW : DataW.Whole enc Tryz.prog Tryz.f5.params.toList Rows.refsEitherSpec.vars false W args.toList ds gs before)
    (hsz : (DataW.weightsEach Tryz.prog (Tryz.f5.params.toList ++ (OpenSpec.ofChange Rows.refsEitherSpec).bare.plain.varTypes Tryz.prog) (ds ++ gs)).all (· ≤ reachBytes) = true)
    (hL : laidMetH Tryz.prog Rows.refsEitherRow.laid W) (hS : W.ShapedOpen Tryz.prog) :
    Calls Tryz.prog 5 args W fun e W' => ∃ v, e = .returned v ∧ Rows.refsEitherSpec.post enc Tryz.prog Tryz.f5 false true false false W args v W' := by
  have hW' := hW
  obtain ⟨p, q, hA0, hV, rfl, hfz, hnd⟩ := hW
  have hA : DataW.TrodAll enc Tryz.prog W 0 (fun _ => true) true Tryz.f5.params.toList args.toList ds p := hA0
  obtain ⟨rfl, rfl⟩ := trodVars_none hV
  clear hA0
  simp only [List.append_nil] at hW'
  have hE : Env W := env_of hS
  have hES : EnvS W := envS_of (by rw [MakeChecks.laidMetH_plain _ _ _ (by kernel_rfl)] at hL; exact hL) hS
  letI : Inhabited BaseW := ⟨⟨W⟩⟩
  have hBW : baseW = W := rfl
  have hBE : Ext baseW W := Ext.refl W
  have hAll := hA
  have hlt : ∀ x ∈ p, x.block < W.heap.size := fun x hx => by simpa using hW'.lt x (by simpa using hx)
  rw [Tryz.params5] at hA hval hsz
  obtain ⟨v0, vs0, d0, ds0, p0, q0, ha0, hd0, hp0, h0, hA⟩ := trodAll_cons hA
  obtain ⟨v1, vs1, d1, ds1, p1, q1, ha1, hd1, hp1, h1, hA⟩ := trodAll_cons hA
  obtain ⟨v2, vs2, d2, ds2, p2, q2, ha2, hd2, hp2, h2, hA⟩ := trodAll_cons hA
  obtain ⟨v3, vs3, d3, ds3, p3, q3, ha3, hd3, hp3, h3, hA⟩ := trodAll_cons hA
  obtain ⟨v4, vs4, d4, ds4, p4, q4, ha4, hd4, hp4, h4, hA⟩ := trodAll_cons hA
  obtain ⟨v5, vs5, d5, ds5, p5, q5, ha5, hd5, hp5, h5, hA⟩ := trodAll_cons hA
  obtain ⟨hn0, hn1, hn2⟩ := trodAll_nil hA
  subst hn0 hn1 hn2
  subst hp5 hd5 ha5
  subst hp4 hd4 ha4
  subst hp3 hd3 ha3
  subst hp2 hd2 ha2
  subst hp1 hd1 ha1
  subst hp0 hd0
  obtain rfl : args = #[v0, v1, v2, v3, v4, v5] := by cases args; simp_all
  clear ha0
  have hv0 := hval 0 9 v0 rfl rfl
  obtain ⟨a, rfl⟩ : ∃ l : B8, v0 = S8 l := by obtain ⟨s, rfl⟩ := okWide_string Tryz.underlying9 hv0; exact ⟨s.data.toList, rfl⟩
  have hv1 := hval 1 9 v1 rfl rfl
  obtain ⟨b, rfl⟩ : ∃ l : B8, v1 = S8 l := by obtain ⟨s, rfl⟩ := okWide_string Tryz.underlying9 hv1; exact ⟨s.data.toList, rfl⟩
  have hv2 := hval 2 9 v2 rfl rfl
  obtain ⟨oth, rfl⟩ : ∃ l : B8, v2 = S8 l := by obtain ⟨s, rfl⟩ := okWide_string Tryz.underlying9 hv2; exact ⟨s.data.toList, rfl⟩
  have hv3 := hval 3 32 v3 rfl rfl
  obtain ⟨L, hL2, hiL⟩ := arg_evs (j := 3) hBW hv3 h3 hsz rfl rfl
  have hv4 := hval 4 3 v4 rfl rfl
  obtain ⟨keep, rfl, -, -, hw4⟩ := open_int Tryz.underlying3 hv4 h4
  have hkeep : I64 keep := i64_wf hw4
  have hv5 := hval 5 3 v5 rfl rfl
  obtain ⟨torn, rfl, -, -, hw5⟩ := open_int Tryz.underlying3 hv5 h5
  have htorn : I64 torn := i64_wf hw5
  refine (either_any a b oth v3 L keep torn W hBE hE hES hL2 hiL hkeep htorn).mono fun e W' ⟨he, hg⟩ => ?_
  subst he
  have harg := trodAll_below laidOut hg hAll hlt (by rw [Tryz.params5]; exact fun t ht => by simp only [List.mem_cons, List.not_mem_nil, or_false] at ht; rcases ht with rfl | rfl | rfl | rfl | rfl | rfl <;> exact ⟨by kernel_rfl, of_decide_eq_true (by kernel_rfl)⟩)
  exact ⟨_, rfl, _, _, _, [], _, [], hW', trodAll_mk1 (shut_bool Tryz.underlying4 _), harg, rfl, hg.frame _, fun h => by cases h⟩

theorem laid_met (os : Os) : laidMetH Tryz.prog Rows.refsEitherRow.laid ((World.laidAll Tryz.prog os Rows.refsEitherRow.laid).forCall (fun _ _ => 0) ⟨#[], #[.string ⟨#[]⟩, .string ⟨#[]⟩, .string ⟨#[]⟩, .slice none 0 0, .int .i64 0, .int .i64 0], []⟩).memory := by
  rw [MakeChecks.laidMetH_plain _ _ _ (by kernel_rfl)]
  exact laidMet_laidAll _ (by kernel_rfl) (by kernel_rfl)
theorem reads (os : Os) {H : Type} (enc : TypeId × Value → H) : ∃ places, DataW.whole enc Tryz.prog ((World.laidAll Tryz.prog os Rows.refsEitherRow.laid).forCall (fun _ _ => 0) ⟨#[], #[.string ⟨#[]⟩, .string ⟨#[]⟩, .string ⟨#[]⟩, .slice none 0 0, .int .i64 0, .int .i64 0], []⟩).memory Tryz.f5.params.toList Rows.refsEitherSpec.vars false #[.string ⟨#[]⟩, .string ⟨#[]⟩, .string ⟨#[]⟩, .slice none 0 0, .int .i64 0, .int .i64 0].toList 8 = some ([.lit (.string []), .lit (.string []), .lit (.string []), .nil, .lit (.int .i64 0), .lit (.int .i64 0)], [], places) :=
  ⟨[], by kernel_rfl⟩

set_option maxRecDepth 100000 in
theorem lifted (os : Os) (started : os.Started) (H : Type) (enc : TypeId × Value → H) (F : Stop.Interp) :
    ReturnsInHanded {} Tryz.checked os 5 .any ((OpenSpec.ofChange Rows.refsEitherSpec).preRow enc Tryz.prog Tryz.f5 Rows.refsEitherRow.domain false Rows.refsEitherRow.laid) (((OpenSpec.ofChange Rows.refsEitherSpec).at F).post enc Tryz.prog Tryz.f5 false true false false) := by
  obtain ⟨places, hx⟩ := reads os enc
  refine returnsInHanded_of_row (C := Tryz.checked) (s := OpenSpec.ofChange Rows.refsEitherSpec) own started (by kernel_rfl) Tryz.func5
    (witness_row_at (enc := enc) (C := Tryz.checked) false (World.laidAll Tryz.prog os Rows.refsEitherRow.laid) #[.string ⟨#[]⟩, .string ⟨#[]⟩, .string ⟨#[]⟩, .slice none 0 0, .int .i64 0, .int .i64 0] (World.laidAll_os _ _ _) (by kernel_rfl) (by kernel_rfl) (by kernel_rfl)
      (OpenSpec.preRow_of_cond 8 hx (by kernel_rfl) (fun k hk => by cases hk) (by kernel_rfl) (laid_met os))) ?_
  intro W base args ds gs before hval hW _ _ hsz hL hS _
  exact contract H enc W base args ds gs before hval hW hsz hL hS

theorem said : Rows.RefsEitherSaid :=
  OpenClaim.holds_of_cond 5 Tryz.f5 rfl rfl rfl rfl rfl rfl rfl ⟨rfl, rfl, rfl, rfl, rfl⟩ rfl rfl rfl rfl rfl (by kernel_rfl) Tryz.func5 (by kernel_rfl)
    (of_decide_eq_true (by kernel_rfl)) (by unfold Func.isWrapper; first | (rw [if_pos (by decide +kernel)]; kernel_rfl) | (rw [if_neg (by decide +kernel)]; exact ⟨rfl, rfl⟩))
    (fun os started H enc _ F => by rw [OpenClaim.pre_eq_preRow]; exact lifted os started H enc F)

theorem plain (f : FuncId) (fn : Func) (hf : Tryz.pinned.checked.prog.funcNamed "marline/marlaw8.RefsEither" = some f) (hfn : Tryz.pinned.checked.prog.funcs[f]? = some fn) :
    false = Tryz.pinned.checked.prog.looks [] ∧ ∀ (j : Nat) t, fn.params[j]? = some t → Tryz.pinned.checked.prog.wantsStandIn t = false := by
  obtain rfl : f = 5 := Option.some.inj ((show Tryz.prog.funcNamed "marline/marlaw8.RefsEither" = some 5 by kernel_rfl).symm.trans hf) |>.symm
  obtain rfl : fn = Tryz.f5 := (Option.some.inj (Tryz.func5.symm.trans hfn)).symm
  refine ⟨by kernel_rfl, fun j t ht => ?_⟩
  rw [Tryz.params5] at ht
  have hm : t ∈ [9, 9, 9, 32, 3, 3] := by simpa using Array.mem_of_getElem? ht
  simp only [List.mem_cons, List.not_mem_nil, or_false] at hm
  rcases hm with rfl | rfl | rfl | rfl | rfl | rfl
  · exact (show Tryz.prog.wantsStandIn 9 = false by kernel_rfl)
  · exact (show Tryz.prog.wantsStandIn 9 = false by kernel_rfl)
  · exact (show Tryz.prog.wantsStandIn 9 = false by kernel_rfl)
  · exact (show Tryz.prog.wantsStandIn 32 = false by kernel_rfl)
  · exact (show Tryz.prog.wantsStandIn 3 = false by kernel_rfl)
  · exact (show Tryz.prog.wantsStandIn 3 = false by kernel_rfl)

/-- The card. -/
theorem card : Rows.RefsEitherCardSaid :=
  Claim7.holds_tied_plain_at .later [] _ _ _ _ said (fun _ h => by cases h) (by kernel_rfl) (fun _ h => by cases h) refsEither_row_tie rfl ⟨rfl, rfl⟩ (by kernel_rfl) rfl plain (by kernel_rfl)

end Go.Proofs.YtfimfbdlegookaaGreatDoor.refsEither
