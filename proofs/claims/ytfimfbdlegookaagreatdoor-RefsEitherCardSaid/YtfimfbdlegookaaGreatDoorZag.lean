/- marlaw8.RefsExpect. Conditions: as each theorem states. -/
import Derived.Test.YtfimfbdlegookaaGreatDoorZaf
import Derived.Test.YtfimfbdlegookaaGreatDoorZae
import Derived.Lib.SlBytesConst
import Derived.Test.YtfimfbdlegookaaGreatDoorZad

set_option linter.unusedVariables false
set_option linter.unusedSimpArgs false
set_option linter.unusedSectionVars false

/-! What marlaw8.RefsExpect says, in plain Lean: one ref, set and deleted just from what it is. Conditions: as each theorem states. -/
namespace Go.Proofs.YtfimfbdlegookaaGreatDoor
open Go Go.RowKit

def headB : B8 := [104, 101, 97, 100]
def placeH : B8 := [115, 47, 114, 47, 104, 101, 97, 100]
def lockH : B8 := [115, 47, 108, 47, 104, 101, 97, 100]
theorem place_head : placeP headB = placeH := rfl
theorem lock_head : lockP headB = lockH := rfl
theorem name_head : nameB headB = true := by decide
theorem path_lockH : pathB lockH = true := by decide
theorem path_placeH : pathB placeH = true := by decide
theorem lt_heads : ltB lockH placeH = true := by decide
/-- One ref, or none; nothing planned, up, room enough. -/
structure Ex (m : Fs) (cur : B8) : Prop where
  plan : m.plan = []
  down : m.down = false
  room : 1000 ≤ m.room
  now : (cur = [] ∧ m.now = []) ∨ (validB cur = true ∧ ∃ t, m.now = [(placeH, ⟨1, lineM cur, t⟩)])
theorem valid_ne {s : B8} (h : validB s = true) : s ≠ [] := by
  rintro rfl
  exact absurd h (by decide)
theorem line_len {s : B8} (h : validB s = true) : (lineM s).length = 65 := by
  unfold lineM
  rw [List.length_append, (valid_len h).1]
  rfl
theorem line_inj {a b : B8} (h : lineM a = lineM b) : a = b := List.append_cancel_right h
theorem wrong_lock {s : B8} (h : validB s = true) : wrongE lockH 1 (lineM s) = 0 := by
  unfold wrongE
  rw [path_lockH, line_len h]
  rfl
theorem may_one (f : Fi) : mayF [(placeH, f)] lockH [] = true := by
  have h1 : isUnder placeH lockH = false := by decide
  have h2 : isUnder lockH placeH = false := by decide
  unfold mayF
  simp [h1, h2]
/-- The lock is laid. -/
theorem ex_create {m : Fs} {cur next : B8} (h : Ex m cur) (hv : validB next = true) :
    ∃ m', createM m lockH 1 (lineM next) = (m', 0) ∧ m'.plan = [] ∧ m'.down = false ∧ 1000 ≤ m'.room ∧
      ∃ t, m'.now = (lockH, ⟨1, lineM next, t⟩) :: m.now := by
  unfold createM putM
  rw [call_calm h.plan h.down]
  simp only [ne_eq, not_true_eq_false, if_false, wrong_lock hv, Bool.not_false, Bool.true_and]
  have hlen := line_len hv
  rcases h.now with ⟨-, hn⟩ | ⟨hc, t, hn⟩
  · have hl : look m.now lockH = none := by rw [hn]; rfl
    have hf : fitsM { m with calls := m.calls + 1 } lockH (lineM next).length = true := by
      unfold fitsM
      show decide _ = true
      rw [hlen]
      show decide (((65 : Nat) : Int) ≤ m.room - (usedF m.now : Int) + (oldLen m.now lockH : Int)) = true
      have hroom := h.room
      have hu : usedF m.now = 0 := by rw [hn]; rfl
      have ho : oldLen m.now lockH = 0 := by rw [hn]; rfl
      rw [hu, ho]
      exact decide_eq_true (by omega)
    rw [if_neg (by rw [hl]; simp), hf]
    unfold putsM
    rw [if_neg (by show ¬ ((look m.now lockH).isNone = true ∧ mayF m.now lockH [] = false); rw [hn]; simp [mayF]), if_neg (by simp)]
    refine ⟨_, rfl, h.plan, h.down, h.room, ((m.time + 1 : Nat) : Int), ?_⟩
    show ap m.now (.put lockH ⟨1, lineM next, ((m.time + 1 : Nat) : Int)⟩) = _
    rw [hn]
    rfl
  · have hcl := line_len hc
    have hl : look m.now lockH = none := by rw [hn]; rfl
    have hmay : mayF m.now lockH [] = true := by rw [hn]; exact may_one _
    have hf : fitsM { m with calls := m.calls + 1 } lockH (lineM next).length = true := by
      unfold fitsM
      show decide (((lineM next).length : Int) ≤ m.room - (usedF m.now : Int) + (oldLen m.now lockH : Int)) = true
      have hu : usedF m.now = 65 := by rw [hn]; unfold usedF; simp [hcl]
      have ho : oldLen m.now lockH = 0 := by unfold oldLen; rw [hl]
      have hroom := h.room
      rw [hu, ho, hlen]
      exact decide_eq_true (by omega)
    rw [if_neg (by rw [hl]; simp), hf]
    unfold putsM
    rw [if_neg (by show ¬ ((look m.now lockH).isNone = true ∧ mayF m.now lockH [] = false); rw [hmay]; simp), if_neg (by simp)]
    refine ⟨_, rfl, h.plan, h.down, h.room, ((m.time + 1 : Nat) : Int), ?_⟩
    show ap m.now (.put lockH ⟨1, lineM next, ((m.time + 1 : Nat) : Int)⟩) = _
    rw [hn]
    rfl
theorem ex_read {m : Fs} {cur : B8} {pre : Files} (hp : m.plan = []) (hd : m.down = false) (hpre : pre = [] ∨ ∃ f, pre = [(lockH, f)])
    (hn : (cur = [] ∧ m.now = pre) ∨ (validB cur = true ∧ ∃ t, m.now = pre ++ [(placeH, ⟨1, lineM cur, t⟩)])) :
    (readM m placeH).1 = { m with calls := m.calls + 1 } ∧ ((cur = [] ∧ (readM m placeH).2 = (zeroFi, 7)) ∨ (validB cur = true ∧ ∃ t, (readM m placeH).2 = (⟨1, lineM cur, t⟩, 0))) := by
  unfold readM
  rw [call_calm hp hd]
  simp only [ne_eq, not_true_eq_false, if_false, path_placeH, Bool.true_eq_false]
  rcases hn with ⟨hc, hn⟩ | ⟨hc, t, hn⟩
  · have hl : look m.now placeH = none := by
      rw [hn]
      rcases hpre with rfl | ⟨f, rfl⟩ <;> rfl
    rw [hl]
    exact ⟨rfl, .inl ⟨hc, rfl⟩⟩
  · have hl : look m.now placeH = some ⟨1, lineM cur, t⟩ := by
      rw [hn]
      rcases hpre with rfl | ⟨f, rfl⟩ <;> rfl
    rw [hl]
    exact ⟨rfl, .inr ⟨hc, t, rfl⟩⟩
theorem ex_expect {m : Fs} {cur old : B8} (h : (cur = [] ∧ (readM m placeH).2 = (zeroFi, 7)) ∨ (validB cur = true ∧ ∃ t, (readM m placeH).2 = (⟨1, lineM cur, t⟩, 0))) :
    expectE (readM m placeH).2 old = if old = cur then 0 else 13 := by
  rcases h with ⟨rfl, h⟩ | ⟨hc, t, h⟩
  · rw [h]
    unfold expectE
    simp
  · rw [h]
    unfold expectE
    have hne := valid_ne hc
    by_cases ho : old = cur
    · subst ho
      simp [hne]
    · rw [if_neg ho]
      simp only [ne_eq]
      rw [if_neg (by decide), if_neg (by decide)]
      by_cases h0 : old = []
      · rw [if_pos (.inl h0)]
      · rw [if_pos (.inr (fun he => ho (line_inj he).symm))]
theorem sync_plain {m : Fs} (hp : m.plan = []) (hd : m.down = false) : syncM m = (settle { m with calls := m.calls + 1 }, 0) := by
  unfold syncM
  rw [call_calm hp hd]
  rfl
/-- A ref is set: just from what it is. -/
theorem ex_set {m : Fs} {cur : B8} (h : Ex m cur) (old next : B8) :
    ((setM m headB old next).2 = 0 ↔ validB next = true ∧ old = cur) ∧ Ex (setM m headB old next).1 (if validB next = true ∧ old = cur then next else cur) := by
  have hcv : cur = [] ∨ validB cur = true := h.now.imp And.left And.left
  unfold setM
  rw [name_head, if_neg (by simp), lock_head]
  by_cases hb : validB next = false ∨ (old ≠ [] ∧ validB old = false)
  · rw [if_pos hb]
    have hng : ¬ (validB next = true ∧ old = cur) := by
      rintro ⟨h1, rfl⟩
      rcases hb with hb | hb
      · rw [h1] at hb; cases hb
      · rcases hcv with hc | hc
        · exact hb.1 hc
        · rw [hb.2] at hc; cases hc
    rw [if_neg hng]
    exact ⟨⟨fun h => absurd h (by simp), fun h => (hng h).elim⟩, h⟩
  · rw [if_neg hb]
    simp only [not_or, Bool.not_eq_false] at hb
    have hv := hb.1
    obtain ⟨m1, he, hp1, hd1, hr1, t, hn1⟩ := ex_create h hv
    rw [he]
    simp only [ne_eq, not_true_eq_false, if_false]
    have hnow : (cur = [] ∧ m1.now = [(lockH, ⟨1, lineM next, t⟩)]) ∨ (validB cur = true ∧ ∃ t', m1.now = [(lockH, ⟨1, lineM next, t⟩)] ++ [(placeH, ⟨1, lineM cur, t'⟩)]) := by
      rcases h.now with ⟨hc, hn⟩ | ⟨hc, t', hn⟩
      · exact .inl ⟨hc, by rw [hn1, hn]⟩
      · exact .inr ⟨hc, t', by rw [hn1, hn]; rfl⟩
    obtain ⟨hr, hre⟩ := ex_read hp1 hd1 (.inr ⟨_, rfl⟩) hnow
    have hee := ex_expect (old := old) hre
    unfold expectM
    rw [place_head, hee, hr]
    by_cases ho : old = cur
    · rw [if_pos ho, if_pos ⟨hv, ho⟩]
      unfold setMid
      simp only [if_true]
      rw [sync_plain (m := { m1 with calls := m1.calls + 1 }) hp1 hd1]
      simp only [ne_eq, not_true_eq_false, if_false]
      unfold setEnd
      rw [place_head, lock_head]
      have hmv : ∃ m', moveM (settle { m1 with calls := m1.calls + 1 + 1 }) lockH placeH false = (m', 0) ∧ m'.plan = [] ∧ m'.down = false ∧ 1000 ≤ m'.room ∧ ∃ t, m'.now = [(placeH, ⟨1, lineM next, t⟩)] := by
        unfold moveM
        rw [call_calm (m := settle { m1 with calls := m1.calls + 1 + 1 }) hp1 hd1]
        unfold mvM
        simp only [ne_eq, not_true_eq_false, if_false, path_lockH, path_placeH, Bool.true_eq_false, or_self, and_false, Bool.false_eq_true]
        have hl : look m1.now lockH = some ⟨1, lineM next, t⟩ := by rw [hn1]; rfl
        show ∃ m', (if (look m1.now lockH).isNone = true then _ else _) = _ ∧ _
        rw [hl, if_neg (by simp), if_neg (by decide)]
        have hmay : ¬ ((look m1.now placeH).isNone = true ∧ mayF m1.now placeH lockH = false) := by
          rcases hnow with ⟨-, hn⟩ | ⟨-, t', hn⟩
          · rw [hn]
            rintro ⟨-, h2⟩
            have : mayF [(lockH, ⟨1, lineM next, t⟩)] placeH lockH = true := by unfold mayF; simp
            rw [this] at h2; cases h2
          · rw [hn]
            rintro ⟨h1, -⟩
            have : look ([(lockH, ⟨1, lineM next, t⟩)] ++ [(placeH, ⟨1, lineM cur, t'⟩)]) placeH = some ⟨1, lineM cur, t'⟩ := rfl
            rw [this] at h1; cases h1
        show ∃ m', (if (look m1.now placeH).isNone = true ∧ mayF m1.now placeH lockH = false then _ else _) = _ ∧ _
        rw [if_neg hmay]
        refine ⟨_, rfl, hp1, hd1, hr1, t, ?_⟩
        show ap m1.now (.mv lockH placeH) = _
        show (match look m1.now lockH with | some x => putF (delF m1.now lockH) placeH x | none => m1.now) = _
        rw [hl]
        rcases hnow with ⟨-, hn⟩ | ⟨-, t', hn⟩
        · rw [hn]; rfl
        · rw [hn]; rfl
      obtain ⟨m', hm, hp', hd', hr', t', hn'⟩ := hmv
      rw [hm, if_neg (by simp), sync_plain hp' hd']
      exact ⟨⟨fun _ => ⟨hv, ho⟩, fun _ => rfl⟩, hp', hd', hr', .inr ⟨hv, t', hn'⟩⟩
    · have hng : ¬ (validB next = true ∧ old = cur) := fun h => ho h.2
      rw [if_neg ho, if_neg hng]
      unfold setMid
      rw [if_neg (show ¬ (13 : Int) = 0 by decide), if_pos (show (13 : Int) ≠ 0 by decide)]
      refine ⟨⟨fun h => absurd h (by simp), fun h => (hng h).elim⟩, ?_⟩
      unfold removeM
      rw [call_calm (m := { m1 with calls := m1.calls + 1 }) hp1 hd1, lock_head]
      unfold removesM
      simp only [ne_eq, not_true_eq_false, if_false, path_lockH, Bool.true_eq_false]
      have hl : look m1.now lockH = some ⟨1, lineM next, t⟩ := by rw [hn1]; rfl
      rw [if_neg (by show ¬ ((look m1.now lockH).isNone = true); rw [hl]; simp)]
      refine ⟨hp1, hd1, hr1, ?_⟩
      show (cur = [] ∧ ap m1.now (.del lockH) = []) ∨ (validB cur = true ∧ ∃ t, ap m1.now (.del lockH) = _)
      rcases hnow with ⟨hc, hn⟩ | ⟨hc, t', hn⟩
      · rw [hn]; exact .inl ⟨hc, rfl⟩
      · rw [hn]; exact .inr ⟨hc, t', rfl⟩
/-- A set from what the ref is not: ErrLock. -/
theorem ex_set13 {m : Fs} {cur : B8} (h : Ex m cur) (old next : B8) (hv : validB next = true) (hold : old = [] ∨ validB old = true) (ho : old ≠ cur) : (setM m headB old next).2 = 13 := by
  unfold setM
  have hb : ¬ (validB next = false ∨ (old ≠ [] ∧ validB old = false)) := by
    rintro (h1 | ⟨h1, h2⟩)
    · rw [hv] at h1; cases h1
    · rcases hold with h3 | h3
      · exact h1 h3
      · rw [h3] at h2; cases h2
  rw [name_head, if_neg (by simp), lock_head, if_neg hb]
  obtain ⟨m1, he, hp1, hd1, hr1, t, hn1⟩ := ex_create h hv
  rw [he]
  simp only [ne_eq, not_true_eq_false, if_false]
  have hnow : (cur = [] ∧ m1.now = [(lockH, ⟨1, lineM next, t⟩)]) ∨ (validB cur = true ∧ ∃ t', m1.now = [(lockH, ⟨1, lineM next, t⟩)] ++ [(placeH, ⟨1, lineM cur, t'⟩)]) := by
    rcases h.now with ⟨hc, hn⟩ | ⟨hc, t', hn⟩
    · exact .inl ⟨hc, by rw [hn1, hn]⟩
    · exact .inr ⟨hc, t', by rw [hn1, hn]; rfl⟩
  obtain ⟨hr, hre⟩ := ex_read hp1 hd1 (.inr ⟨_, rfl⟩) hnow
  have hee := ex_expect (old := old) hre
  unfold expectM
  rw [place_head, hee, hr, if_neg ho]
  unfold setMid
  rw [if_neg (show ¬ (13 : Int) = 0 by decide), if_pos (show (13 : Int) ≠ 0 by decide)]
/-- .. deleted. -/
theorem ex_delete {m : Fs} {cur : B8} (h : Ex m cur) (old : B8) :
    ((deleteM m headB old).2 = 0 ↔ cur ≠ [] ∧ old = cur) ∧ Ex (deleteM m headB old).1 (if cur ≠ [] ∧ old = cur then [] else cur) := by
  have hcv : cur = [] ∨ validB cur = true := h.now.imp And.left And.left
  unfold deleteM
  rw [name_head, if_neg (by simp), place_head]
  by_cases hb : validB old = false
  · rw [if_pos hb]
    have hng : ¬ (cur ≠ [] ∧ old = cur) := by
      rintro ⟨h1, rfl⟩
      rcases hcv with hc | hc
      · exact h1 hc
      · rw [hb] at hc; cases hc
    rw [if_neg hng]
    exact ⟨⟨fun h => absurd h (by simp), fun h => (hng h).elim⟩, h⟩
  · rw [if_neg hb]
    have hv : validB old = true := by simpa using hb
    obtain ⟨hr, hre⟩ := ex_read h.plan h.down (.inl rfl) (cur := cur) (by simpa using h.now)
    rw [hr]
    rcases hre with ⟨rfl, hre⟩ | ⟨hc, t, hre⟩
    · rw [hre]
      have hng : ¬ (([] : B8) ≠ [] ∧ old = []) := fun h => h.1 rfl
      rw [if_neg hng]
      dsimp only
      rw [if_pos (show (7 : Int) ≠ 0 by decide)]
      exact ⟨⟨fun h => absurd h (by simp), fun h => (h.1 rfl).elim⟩, h.plan, h.down, h.room, h.now⟩
    · rw [hre]
      dsimp only
      rw [if_neg (show ¬ (0 : Int) ≠ 0 by simp)]
      have hne := valid_ne hc
      by_cases ho : old = cur
      · subst ho
        rw [if_neg (show ¬ lineM old ≠ lineM old by simp), if_pos (show old ≠ [] ∧ old = old from ⟨hne, rfl⟩)]
        have hn : ∃ t, m.now = [(placeH, ⟨1, lineM old, t⟩)] := by
          rcases h.now with ⟨h0, -⟩ | ⟨-, h1⟩
          · exact (hne h0).elim
          · exact h1
        obtain ⟨t', hn⟩ := hn
        have hrm : ∃ m', removeM { m with calls := m.calls + 1 } placeH = (m', 0) ∧ m'.plan = [] ∧ m'.down = false ∧ 1000 ≤ m'.room ∧ m'.now = [] := by
          unfold removeM
          rw [call_calm (m := { m with calls := m.calls + 1 }) h.plan h.down]
          unfold removesM
          simp only [ne_eq, not_true_eq_false, if_false, path_placeH, Bool.true_eq_false]
          have hl : look m.now placeH = some ⟨1, lineM old, t'⟩ := by rw [hn]; rfl
          show ∃ m', (if (look m.now placeH).isNone = true then _ else _) = _ ∧ _
          rw [hl, if_neg (by simp)]
          refine ⟨_, rfl, h.plan, h.down, h.room, ?_⟩
          show ap m.now (.del placeH) = []
          rw [hn]; rfl
        obtain ⟨m', hm, hp', hd', hr', hn'⟩ := hrm
        rw [hm]
        dsimp only
        rw [if_neg (show ¬ (0 : Int) ≠ 0 by simp), sync_plain hp' hd']
        exact ⟨⟨fun _ => ⟨hne, rfl⟩, fun _ => rfl⟩, hp', hd', hr', .inl ⟨rfl, hn'⟩⟩
      · have hng : ¬ (cur ≠ [] ∧ old = cur) := fun h => ho h.2
        rw [if_pos (fun he => ho (line_inj he).symm), if_neg hng]
        exact ⟨⟨fun h => absurd h (by simp), fun h => (hng h).elim⟩, h.plan, h.down, h.room, h.now⟩
theorem ex_calls {m : Fs} {cur : B8} (h : Ex m cur) (n : Nat) : Ex { m with calls := n } cur := ⟨h.plan, h.down, h.room, h.now⟩
theorem trim_line {s : B8} : Lib.trimSuffix (lineM s) [10] = s := by
  unfold Lib.trimSuffix lineM
  have : Lib.hasSuffix (s ++ [10]) [10] = true := by
    unfold Lib.hasSuffix
    simp
  rw [this]
  simp
/-- .. told. -/
theorem ex_get {m : Fs} {cur : B8} (h : Ex m cur) : Ex (getM m headB).1 cur ∧ (getM m headB).2.1 = cur ∧ ((getM m headB).2.2 = 0 ↔ cur ≠ []) := by
  unfold getM
  rw [name_head, if_neg (by simp), place_head]
  obtain ⟨hr, hre⟩ := ex_read h.plan h.down (.inl rfl) (cur := cur) (by simpa using h.now)
  rw [hr]
  refine ⟨ex_calls h _, ?_⟩
  rcases hre with ⟨rfl, hre⟩ | ⟨hc, t, hre⟩
  · rw [hre]
    unfold getE
    simp
  · rw [hre]
    unfold getE
    simp [trim_line, hc, valid_ne hc]
/-- .. listed. -/
theorem ex_list {m : Fs} {cur : B8} (h : Ex m cur) : Ex (refsM m).1 cur ∧ (refsM m).2.2 = 0 ∧ (refsM m).2.1.length = if cur ≠ [] then 1 else 0 := by
  unfold refsM listM
  rw [call_calm h.plan h.down]
  have hp : pathB placeD = true := by decide
  have h0 : placeD ≠ [] := by decide
  simp only [ne_eq, not_true_eq_false, if_false, h0, hp, Bool.true_eq_false]
  refine ⟨ex_calls h _, by first | rfl | trivial, ?_⟩
  rcases h.now with ⟨rfl, hn⟩ | ⟨hc, t, hn⟩
  · show (lastL ((pathsL m.now).filter (isUnder placeD)) placeD).length = _
    rw [hn]
    rfl
  · show (lastL ((pathsL m.now).filter (isUnder placeD)) placeD).length = _
    rw [hn, if_pos (valid_ne hc)]
    show (lastL (([placeH] : List B8).filter (isUnder placeD)) placeD).length = 1
    decide

/-- What the chapter's examples fix. -/
theorem ex_first {m : Fs} (h : Ex m []) {a b : B8} (ha : validB a = true) (hb : validB b = true) :
    (setM m headB [] a).2 = 0 ∧ (setM (setM m headB [] a).1 headB [] b).2 = 13 ∧ (getM (setM (setM m headB [] a).1 headB [] b).1 headB).2 = (a, 0) := by
  obtain ⟨h1, h2⟩ := ex_set h [] a
  rw [if_pos ⟨ha, rfl⟩] at h2
  have h0 := h1.2 ⟨ha, rfl⟩
  have hne := valid_ne ha
  have h3 := ex_set13 h2 [] b hb (.inl rfl) (fun h => hne h.symm)
  obtain ⟨-, h4⟩ := ex_set h2 [] b
  rw [if_neg (fun h => hne h.2.symm)] at h4
  obtain ⟨-, h5, h6⟩ := ex_get h4
  exact ⟨h0, h3, Prod.ext h5 (h6.2 hne)⟩

end Go.Proofs.YtfimfbdlegookaaGreatDoor

/-! A file system of the call's own; marlaw8.first: what the chapter's examples fix. Conditions: as each theorem states. -/
namespace Go.Proofs.YtfimfbdlegookaaGreatDoor
open Go Go.RowKit
set_option linter.unusedVariables false
set_option linter.unusedSimpArgs false
set_option linter.unusedSectionVars false

theorem env_ltR {w0 : World} (hE : Env w0) : 2 < w0.heap.size := by
  obtain ⟨m, hm⟩ := hE
  exact World.block_lt_of_cell? _ _ hm
/-- A file system of the call's own. -/
structure One (w0 : World) (S O : Nat → Prop) (w : World) (f : Value) (m : Fs) : Prop where
  ext : Ext w0 w
  fs : IsFs S O (fun k => k < w.heap.size) w f m
  lo : ∀ k, O k → w0.heap.size ≤ k ∧ k < w.heap.size
  loS : ∀ k, S k → w0.heap.size ≤ k ∧ k < w.heap.size
  disS : ∀ k, S k → ¬ O k
section
variable {w0 w w' : World} {S O : Nat → Prop} {f : Value} {m m' : Fs} {n : Nat}
theorem One.noG (h : One w0 S O w f m) (hE : Env w0) : NoG O := fun k hk e => by have := h.lo k hk; have := env_ltR hE; omega
theorem One.fin (h : One w0 S O w f m) (hE : Env w0) (hg : Good n m) (hn : n ≤ 1000) : FsIn S O (fun k => k < w.heap.size) w f m := by
  have ht := hg.time
  have hc := hg.calls
  exact ⟨hE.ext h.ext, h.fs, hg.ok, hg.plan, by omega, by omega, h.noG hE, fun k hk => ⟨h.disS k hk, (h.loS k hk).2⟩, fun k hk => (h.lo k hk).2, hg.room0, hg.room1⟩
theorem One.more (h : One w0 S O w f m) (hx : Ext w w') : One w0 S O w' f m := by
  have hs := hx.size
  exact ⟨h.ext.trans hx, (h.fs.ext hx).mono (fun _ h => h) (fun k hk => Nat.lt_of_lt_of_le hk hs), fun k hk => by have := h.lo k hk; omega, fun k hk => by have := h.loS k hk; omega, h.disS⟩
theorem One.post (h : One w0 S O w f m) (hp : FsPost S O (fun k => k < w.heap.size) w f m' w') : One w0 S (Nw O w w') w' f m' := by
  have hs := hp.fr.size
  have hs0 := h.ext.size
  refine ⟨Ext.of_fr h.ext hp.fr (fun k hk => (h.lo k hk).1), hp.fs.mono (fun _ h => h) (fun k hk => by rcases hk with hk | hk <;> omega), fun k hk => ?_, fun k hk => by have := h.loS k hk; omega, fun k hk ho => ?_⟩
  · rcases hk with hk | hk
    · have := h.lo k hk; omega
    · exact ⟨by omega, hk.2⟩
  · rcases ho with ho | ho
    · exact h.disS k hk ho
    · have := h.loS k hk; omega
end
theorem One.new {w w' : World} {p : Value} {room : Int} (h : IsFs (fun _ => False) (Nu w w') (fun _ => False) w' p (newM room)) (hx : Ext w w') : One w (fun _ => False) (Nu w w') w' p (newM room) :=
  ⟨hx, h.mono (fun _ h => h) (fun _ h => h.elim), fun k hk => hk, fun k hk => hk.elim, fun k hk => hk.elim⟩
theorem good_new {room : Int} (h0 : 0 ≤ room) (h1 : room ≤ 1073741824) : Good 0 (newM room) :=
  ⟨(new_ok room).1, (new_ok room).2, Nat.zero_le _, Nat.le_refl _, Nat.le_refl _, h0, h1⟩


theorem ex_new : Ex (newM 1000) [] := ⟨rfl, rfl, by decide, .inl ⟨rfl, rfl⟩⟩
theorem one_byte {w : World} {g : Nat} {x : UInt8} {fr : Nat × Nat} (h : w.heap[g]? = some (.cells #[.int .u8 (x.toNat : Int)] 5 fr)) : IsBytes w (.slice (some ⟨g, 0, none⟩) 1 1) [x] := Row.new h (by decide) _ rfl
def aB : B8 := shaM [97]
def bB : B8 := shaM [98]
theorem a_valid : validB aB = true := sha_valid _
theorem b_valid : validB bB = true := sha_valid _
def rm0 : Fs := newM 1000
def rm1 : Fs := (setM rm0 headB [] aB).1
def rm2 : Fs := (setM rm1 headB [] bB).1
def rm3 : Fs := (getM rm2 headB).1
theorem r_first : (setM rm0 headB [] aB).2 = 0 ∧ (setM rm1 headB [] bB).2 = 13 ∧ (getM rm2 headB).2 = (aB, 0) := ex_first ex_new a_valid b_valid
theorem r_good : Good 0 rm0 ∧ Good 6 rm1 ∧ Good 12 rm2 := by
  have g0 : Good 0 rm0 := good_new (by omega) (by omega)
  exact ⟨g0, good_set g0 _ _ _, good_set (good_set g0 _ _ _) _ _ _⟩

set_option maxRecDepth 100000 in
set_option maxHeartbeats 4000000 in
theorem first8_any (w : World) (hE : Env w) (hS : EnvS w) :
    Calls Tryz.prog 10 #[] w fun e w' => e = .returned (.bool true) ∧ Ext w w' := by
  obtain ⟨g0, g1, g2⟩ := r_good
  obtain ⟨f0, f1, f2⟩ := r_first
  have HE : Hid (Env w) := hE
  have HS : Hid (EnvS w) := hS
  have F0 : Hid _ := f0
  have F1 : Hid _ := f1
  have F2 : Hid _ := f2
  have al : aB.length = 64 := sha_len _
  have bl : bB.length = 64 := sha_len _
  clear hE hS f0 f1 f2
  have kc := fun (w : World) (C : Array Value) (n c : Nat) => Lib.run_convert_bytes_const (P := Tryz.prog) w 31 5 C n c Tryz.underlying31 Tryz.underlying5
  go_enter Tryz.func10, Tryz.ntmps10
  go_wp2_with fail
  go_at_call 11
  refine (new_yes 1000 _ (by omega) (by omega)).mono ?_
  rintro e w1 ⟨⟨p, rfl, hf⟩, hx1⟩
  have H1 : Hid (One w (fun _ => False) (Nu w w1) w1 p rm0) := One.new hf hx1
  obtain ⟨g, rfl⟩ : ∃ g, p = .pointer (some ⟨g, 0, none⟩) := by
    obtain ⟨g, gm, gd, vp, vl, vu, L, c0, hpe, -⟩ := hf
    exact ⟨g, hpe⟩
  clear hf hx1
  go_upto_region 4 with fail
  obtain ⟨wa, hwa⟩ : ∃ wa, wa = w1.alloc (.cells #[.int .u8 97] 5 (1, 2)) := ⟨_, rfl⟩
  have hxa : Ext w1 wa := by rw [hwa]; exact (Ext.refl _).alloc _
  have hba : IsBytes wa (.slice (some ⟨w1.heap.size, 0, none⟩) 1 1) [97] := one_byte (x := 97) (fr := (1, 2)) (by rw [hwa]; exact alloc_at _ _)
  have HWA : Hid _ := hwa
  have HBA : Hid (IsBytes wa (.slice (some ⟨w1.heap.size, 0, none⟩) 1 1) [97]) := hba
  have H1a : Hid (One w _ _ wa _ rm0) := One.more H1.out hxa
  clear hwa hba hxa
  go_wp2_with fail
  rw [show w1.alloc (.cells #[.int .u8 97] 5 (1, 2)) = wa from HWA.out.symm]
  go_at_call 45
  refine (id_sha _ [97] wa (HS.out.ext H1a.out.ext) HBA.out (by decide)).mono ?_
  rintro e w2 ⟨rfl, hx2⟩
  have H2 : Hid (One w _ _ w2 _ rm0) := One.more H1a.out hx2
  obtain ⟨wb, hwb⟩ : ∃ wb, wb = w2.alloc (.cells #[.int .u8 98] 5 (1, 2)) := ⟨_, rfl⟩
  have hxb : Ext w2 wb := by rw [hwb]; exact (Ext.refl _).alloc _
  have hbb : IsBytes wb (.slice (some ⟨w2.heap.size, 0, none⟩) 1 1) [98] := one_byte (x := 98) (fr := (1, 2)) (by rw [hwb]; exact alloc_at _ _)
  have HWB : Hid _ := hwb
  have HBB : Hid (IsBytes wb (.slice (some ⟨w2.heap.size, 0, none⟩) 1 1) [98]) := hbb
  have H2b : Hid (One w _ _ wb _ rm0) := One.more H2.out hxb
  clear hwb hbb hxb hx2
  go_wp2_with fail
  rw [show w2.alloc (.cells #[.int .u8 98] 5 (1, 2)) = wb from HWB.out.symm]
  go_at_call 45
  refine (id_sha _ [98] wb (HS.out.ext H2b.out.ext) HBB.out (by decide)).mono ?_
  rintro e w3 ⟨rfl, hx3⟩
  have H3 : Hid (One w _ _ w3 _ rm0) := One.more H2b.out hx3
  clear hx3
  rw [show shaM [97] = aB from rfl, show shaM [98] = bB from rfl]
  go_wp2_with fail
  go_at_call 15
  refine (set_any headB [] aB (One.fin H3.out HE.out g0 (by omega)) g0 (by omega) (by decide) (by decide) (by omega)).mono ?_
  rw [F0.out]
  rintro e w4 ⟨rfl, h4⟩
  have H4 : Hid (One w _ _ w4 _ rm1) := One.post H3.out h4
  clear h4
  go_wp2_with fail
  go_at_call 15
  refine (set_any headB [] bB (One.fin H4.out HE.out g1 (by omega)) g1 (by omega) (by decide) (by decide) (by omega)).mono ?_
  rw [F1.out]
  rintro e w5 ⟨rfl, h5⟩
  have H5 : Hid (One w _ _ w5 _ rm2) := One.post H4.out h5
  clear h5
  go_wp2_with fail
  go_at_call 18
  refine (get_any headB (One.fin H5.out HE.out g2 (by omega)) (by decide)).mono ?_
  rw [show (getM rm2 headB).2.1 = aB from congrArg Prod.fst F2.out, show (getM rm2 headB).2.2 = 0 from congrArg Prod.snd F2.out]
  rintro e w6 ⟨rfl, h6⟩
  have H6 : Hid (One w _ _ w6 _ rm3) := One.post H5.out h6
  clear h6
  go_wp2
  go_ret
  exact ⟨rfl, H6.out.ext⟩

end Go.Proofs.YtfimfbdlegookaaGreatDoor

/-! How the document's file system lies in memory: rows, changes, events, all in slices; what an operation leaves as it was. No conditions of its own. -/
namespace Go.Proofs.YtfimfbdlegookaaGreatDoor
open Go Go.RowKit

/-! ### Rows and changes -/
def IsRowR (R : Nat → Prop) (w : World) (cs : List Value) (e : B8 × Fi) : Prop := e.1.length ≤ 1000000 ∧ ∃ v, cs = [S8 e.1, .int .i64 e.2.mode, v, .int .i64 e.2.time] ∧ IsData R w v e.2.data
theorem IsRowR.mono {R R' : Nat → Prop} {w : World} {cs : List Value} {e : B8 × Fi} (h : IsRowR R w cs e) (hr : ∀ k, R k → R' k) : IsRowR R' w cs e := by
  obtain ⟨h1, v, h2, h3⟩ := h
  exact ⟨h1, v, h2, h3.mono hr⟩
theorem IsRowR.keepR {R : Nat → Prop} {w w' : World} {cs : List Value} {e : B8 × Fi} (h : IsRowR R w cs e) (hk : KeepR R w w') : IsRowR R w' cs e := by
  obtain ⟨h1, v, h2, h3⟩ := h
  exact ⟨h1, v, h2, h3.keepR hk⟩
theorem IsRowR.length {R : Nat → Prop} {w : World} {cs : List Value} {e : B8 × Fi} (h : IsRowR R w cs e) : cs.length = 4 ∧ cs.all (·.oneCell') = true := by
  obtain ⟨_, v, rfl, h3⟩ := h
  obtain ⟨_, _, rfl, _⟩ := h3.bytes
  exact ⟨rfl, by simp [Value.oneCell']⟩
theorem IsRowR.bound {R : Nat → Prop} {w : World} {cs : List Value} {e : B8 × Fi} (h : IsRowR R w cs e) : IsRowR (fun k => R k ∧ k < w.heap.size) w cs e := by
  obtain ⟨h1, v, h2, h3⟩ := h
  exact ⟨h1, v, h2, h3.bound⟩

def IsOp (R : Nat → Prop) (w : World) (cs : List Value) : Ch → Prop
  | .put p f => p.length ≤ 1000000 ∧ ∃ v, cs = [.int .i64 1, S8 [], S8 p, .int .i64 f.mode, v, .int .i64 f.time] ∧ IsData R w v f.data
  | .mv s d => s.length ≤ 1000000 ∧ d.length ≤ 1000000 ∧ cs = [.int .i64 2, S8 s, S8 d, .int .i64 0, .slice none 0 0, .int .i64 0]
  | .del p => p.length ≤ 1000000 ∧ cs = [.int .i64 3, S8 p, S8 [], .int .i64 0, .slice none 0 0, .int .i64 0]
theorem IsOp.mono {R R' : Nat → Prop} {w : World} {cs : List Value} {c : Ch} (h : IsOp R w cs c) (hr : ∀ k, R k → R' k) : IsOp R' w cs c := by
  cases c with
  | put p f =>
    obtain ⟨h1, v, h2, h3⟩ := h
    exact ⟨h1, v, h2, h3.mono hr⟩
  | mv s d => exact h
  | del p => exact h
theorem IsOp.keepR {R : Nat → Prop} {w w' : World} {cs : List Value} {c : Ch} (h : IsOp R w cs c) (hk : KeepR R w w') : IsOp R w' cs c := by
  cases c with
  | put p f =>
    obtain ⟨h1, v, h2, h3⟩ := h
    exact ⟨h1, v, h2, h3.keepR hk⟩
  | mv s d => exact h
  | del p => exact h
theorem IsOp.length {R : Nat → Prop} {w : World} {cs : List Value} {c : Ch} (h : IsOp R w cs c) : cs.length = 6 ∧ cs.all (·.oneCell') = true := by
  cases c with
  | put p f =>
    obtain ⟨_, v, rfl, h3⟩ := h
    obtain ⟨_, _, rfl, _⟩ := h3.bytes
    exact ⟨rfl, by simp [Value.oneCell']⟩
  | mv s d => obtain ⟨_, _, rfl⟩ := h; exact ⟨rfl, by simp [Value.oneCell']⟩
  | del p => obtain ⟨_, rfl⟩ := h; exact ⟨rfl, by simp [Value.oneCell']⟩
theorem IsOp.bound {R : Nat → Prop} {w : World} {cs : List Value} {c : Ch} (h : IsOp R w cs c) : IsOp (fun k => R k ∧ k < w.heap.size) w cs c := by
  cases c with
  | put p f =>
    obtain ⟨h1, v, h2, h3⟩ := h
    exact ⟨h1, v, h2, h3.bound⟩
  | mv s d => exact h
  | del p => exact h

theorem ReadL.lt {α : Type} {w : World} {t : TypeId} {p : List Value → α → Prop} {v : Value} {xs : List α} (h : ReadL w t p v xs) : ∀ k, v.ownBlock = some k → k < w.heap.size := fun k hv => by
  obtain ⟨cs, fr, hb⟩ := h.typed k hv
  exact (Array.getElem?_eq_some_iff.1 hb).1
theorem ReadL.nil {α : Type} (w : World) (t : TypeId) (p : List Value → α → Prop) : ReadL w t p (.slice none 0 0) [] := ⟨[], Row.nil _, Typed.nil _ _ _ _, Each.nil _⟩
theorem OwnL.nil {α : Type} (w : World) (t : TypeId) (size : Nat) (p : List Value → α → Prop) : OwnL w t size p (.slice none 0 0) [] := ⟨[], World.ownsRow_nil _ _ _ _, Each.nil _⟩

abbrev IsRows (R : Nat → Prop) (w : World) (v : Value) (l : Files) : Prop := ReadL w 182 (IsRowR R w) v l
theorem ReadL.rows {R : Nat → Prop} {w w' : World} {v : Value} {l : Files} (h : IsRows R w v l) (hb : ∀ k, v.ownBlock = some k → w'.heap[k]? = w.heap[k]?) (hk : KeepR R w w') : IsRows R w' v l :=
  (ReadL.stay h hb).mono (fun c x hx => hx.keepR hk)
theorem ReadL.rowsExt {R : Nat → Prop} {w w' : World} {v : Value} {l : Files} (h : IsRows R w v l) (hx : Ext w w') : IsRows R w' v l :=
  h.rows (fun k hk => hx.block k (h.lt k hk)) (KeepR.of_keep (KeepB.of_ext hx))
theorem ReadL.rowsMono {R R' : Nat → Prop} {w : World} {v : Value} {l : Files} (h : IsRows R w v l) (hr : ∀ k, R k → R' k) : IsRows R' w v l :=
  h.mono (fun c x hx => hx.mono hr)

/-! ### A base world: what was there when the law's function was called -/
structure BaseW where
  w : World
def baseW [Inhabited BaseW] : World := (default : BaseW).w
variable [Inhabited BaseW]
/-- Bytes that were there. -/
structure OldB (v : Value) (l : B8) : Prop where
  bytes : IsBytes baseW v l
  low : ∀ a n c, v = .slice (some a) n c → n ≠ 0 → a.block < baseW.heap.size
def IsEvD (cs : List Value) (e : Ev) : Prop := ∃ vd, cs = [.int .i64 e.t, .int .i64 e.kind, .int .i64 e.mode, .int .i64 e.keep, .int .i64 e.torn, S8 e.path, vd] ∧ OldB vd e.data ∧ e.path.length ≤ 1000000
/-- .. as it comes in: its path may be of any length. -/
def IsEvI (cs : List Value) (e : Ev) : Prop := ∃ vd, cs = [.int .i64 e.t, .int .i64 e.kind, .int .i64 e.mode, .int .i64 e.keep, .int .i64 e.torn, S8 e.path, vd] ∧ OldB vd e.data
theorem IsEvI.length {cs : List Value} {e : Ev} (h : IsEvI cs e) : cs.length = 7 ∧ cs.all (·.oneCell') = true := by
  obtain ⟨v, rfl, h2⟩ := h
  obtain ⟨_, _, rfl, _⟩ := h2.bytes
  exact ⟨rfl, by simp [Value.oneCell']⟩
theorem IsEvI.up {cs : List Value} {e : Ev} (h : IsEvI cs e) (hp : e.path.length ≤ 400) : IsEvD cs e := by
  obtain ⟨v, h1, h2⟩ := h
  exact ⟨v, h1, h2, by omega⟩
theorem IsEvD.length {cs : List Value} {e : Ev} (h : IsEvD cs e) : cs.length = 7 ∧ cs.all (·.oneCell') = true := by
  obtain ⟨v, rfl, h2, _⟩ := h
  obtain ⟨_, _, rfl, _⟩ := h2.bytes
  exact ⟨rfl, by simp [Value.oneCell']⟩
theorem OldB.at {v : Value} {l : B8} {w : World} (h : OldB v l) (hx : Ext baseW w) : IsBytes w v l := h.bytes.ext hx
theorem OldB.out {v : Value} {l : B8} {w : World} {O : Nat → Prop} (h : OldB v l) (hO : ∀ k, O k → baseW.heap.size ≤ k) : Out O w v := fun a n c he hn => .inl fun ho => by have := h.low a n c he hn; have := hO _ ho; omega
theorem IsEvD.read {cs : List Value} {e : Ev} {w : World} (h : IsEvD cs e) (hx : Ext baseW w) : IsEvB w cs e := by
  obtain ⟨v, h1, h2, h3⟩ := h
  exact ⟨v, h1, h2.at hx, h3⟩

/-! ### The parts of the document's file system, but for its own block -/
structure RParts (O R : Nat → Prop) (w : World) (vn vs vp vl vu : Value) (now sure : Files) (pend : List Ch) (L users : List Ev) : Prop where
  now : IsRows R w vn now
  on : Inn O vn
  sure : IsRows R w vs sure
  os : Inn O vs
  pend : OwnL w 185 6 (IsOp R w) vp pend
  op : Inn O vp
  plan : OwnL w 146 7 IsEvD vl L
  ol : Inn O vl
  users : OwnL w 146 7 (IsEvR R w) vu users
  ou : Inn O vu
  off : ∀ k, vu.ownBlock = some k → vl.ownBlock ≠ some k
abbrev refCells (room : Int) (vn vs vp vl : Value) (calls time : Nat) (down : Bool) (vu : Value) : Array Value := #[.int .i64 room, vn, vs, vp, vl, .int .i64 calls, .int .i64 time, .bool down, vu]
def IsRef (O R : Nat → Prop) (w : World) (p : Value) (m : Fs) : Prop := ∃ (g : Nat) (vn vs vp vl vu : Value), p = .pointer (some ⟨g, 0, none⟩) ∧
    w.heap[g]? = some (.cells (refCells m.room vn vs vp vl m.calls m.time m.down vu) 133 (0, 0)) ∧ O g ∧ RParts O R w vn vs vp vl vu m.now m.sure m.pend m.plan m.users

section
variable {O R : Nat → Prop} {w w' : World} {vn vs vp vl vu : Value} {now sure : Files} {pend : List Ch} {L users : List Ev}
theorem RParts.mono {O' R' : Nat → Prop} (h : RParts O R w vn vs vp vl vu now sure pend L users) (ho : ∀ k, O k → O' k) (hr : ∀ k, R k → R' k) : RParts O' R' w vn vs vp vl vu now sure pend L users :=
  ⟨h.now.rowsMono hr, h.on.mono ho, h.sure.rowsMono hr, h.os.mono ho, h.pend.mono (fun c x hx => hx.mono hr), h.op.mono ho, h.plan, h.ol.mono ho, h.users.mono (fun c x hx => hx.mono hr), h.ou.mono ho, h.off⟩
theorem RParts.stay (h : RParts O R w vn vs vp vl vu now sure pend L users)
    (hn : ∀ k, vn.ownBlock = some k → w'.heap[k]? = w.heap[k]?) (hs : ∀ k, vs.ownBlock = some k → w'.heap[k]? = w.heap[k]?) (hp : ∀ k, vp.ownBlock = some k → w'.heap[k]? = w.heap[k]?) (hl : ∀ k, vl.ownBlock = some k → w'.heap[k]? = w.heap[k]?) (hu : ∀ k, vu.ownBlock = some k → w'.heap[k]? = w.heap[k]?) (hk : KeepR R w w') :
    RParts O R w' vn vs vp vl vu now sure pend L users :=
  ⟨h.now.rows hn hk, h.on, h.sure.rows hs hk, h.os, (h.pend.stay hp).mono (fun c x hx => hx.keepR hk), h.op, h.plan.stay hl, h.ol, (h.users.stay hu).mono (fun c x hx => hx.keepR hk), h.ou, h.off⟩
theorem RParts.stayO (h : RParts O R w vn vs vp vl vu now sure pend L users)
    (ho : ∀ k, O k → k < w.heap.size → w'.heap[k]? = w.heap[k]?) (hk : KeepR R w w') : RParts O R w' vn vs vp vl vu now sure pend L users :=
  h.stay (fun k hv => ho k (h.on k hv) (h.now.lt k hv)) (fun k hv => ho k (h.os k hv) (h.sure.lt k hv)) (fun k hv => ho k (h.op k hv) (h.pend.lt k hv)) (fun k hv => ho k (h.ol k hv) (h.plan.lt k hv)) (fun k hv => ho k (h.ou k hv) (h.users.lt k hv)) hk
theorem RParts.ext (h : RParts O R w vn vs vp vl vu now sure pend L users) (hx : Ext w w') : RParts O R w' vn vs vp vl vu now sure pend L users :=
  h.stayO (fun k _ hlt => hx.block k hlt) (KeepR.of_keep (KeepB.of_ext hx))
/-- .. where only the own block is written. -/
theorem RParts.own (h : RParts O R w vn vs vp vl vu now sure pend L users)
    {g : Nat} {cs : Array Value} {fr : Nat × Nat} (hg : w.heap[g]? = some (.cells cs 133 fr)) (hw : w.grownBy w' (some g)) : RParts O R w' vn vs vp vl vu now sure pend L users := by
  have ne : ∀ k, (∃ x, w.heap[k]? = some x ∧ x ≠ Obj.cells cs 133 fr) → w'.heap[k]? = w.heap[k]? := fun k ⟨x, hx, hn⟩ => hw.block k (Array.getElem?_eq_some_iff.1 hx).1 (by simpa using apart_kind hx hg hn)
  refine h.stay (fun k hv => ?_) (fun k hv => ?_) (fun k hv => ?_) (fun k hv => ?_) (fun k hv => ?_) (grownR hw (by rintro k hk; simp at hk; subst hk; exact cells_u8 hg (by kernel_rfl)))
  · obtain ⟨xs, f, hx⟩ := h.now.typed k hv; exact ne k ⟨_, hx, by simp⟩
  · obtain ⟨xs, f, hx⟩ := h.sure.typed k hv; exact ne k ⟨_, hx, by simp⟩
  · obtain ⟨xs, f, hx⟩ := h.pend.typed k hv; exact ne k ⟨_, hx, by simp⟩
  · obtain ⟨xs, f, hx⟩ := h.plan.typed k hv; exact ne k ⟨_, hx, by simp⟩
  · obtain ⟨xs, f, hx⟩ := h.users.typed k hv; exact ne k ⟨_, hx, by simp⟩
theorem RParts.setNow (h : RParts O R w vn vs vp vl vu now sure pend L users) {vn' : Value} {now' : Files} (hn : IsRows R w vn' now') (hi : Inn O vn') : RParts O R w vn' vs vp vl vu now' sure pend L users :=
  ⟨hn, hi, h.sure, h.os, h.pend, h.op, h.plan, h.ol, h.users, h.ou, h.off⟩
theorem RParts.setSure (h : RParts O R w vn vs vp vl vu now sure pend L users) {vs' : Value} {sure' : Files} (hn : IsRows R w vs' sure') (hi : Inn O vs') : RParts O R w vn vs' vp vl vu now sure' pend L users :=
  ⟨h.now, h.on, hn, hi, h.pend, h.op, h.plan, h.ol, h.users, h.ou, h.off⟩
theorem RParts.noPend (h : RParts O R w vn vs vp vl vu now sure pend L users) : RParts O R w vn vs (.slice none 0 0) vl vu now sure [] L users :=
  ⟨h.now, h.on, h.sure, h.os, OwnL.nil _ _ _ _, Inn.nil _ _ _, h.plan, h.ol, h.users, h.ou, h.off⟩
/-- .. where the changes' slice grows. -/
theorem RParts.appPend (h : RParts O R w vn vs vp vl vu now sure pend L users)
    (hw : w.grownBy w' vp.ownBlock) {vp' : Value} {pend' : List Ch} (hn : OwnL w' 185 6 (IsOp R w') vp' pend') (hi : Inn O vp') : RParts O R w' vn vs vp' vl vu now sure pend' L users := by
  have hk : KeepR R w w' := grownR hw (fun k hk => by obtain ⟨cs, fr, hx⟩ := h.pend.typed k hk; exact cells_u8 hx (by kernel_rfl))
  have ne : ∀ k, (∃ x, w.heap[k]? = some x ∧ ∀ cs fr, x ≠ Obj.cells cs 185 fr) → w'.heap[k]? = w.heap[k]? := fun k ⟨x, hx, hn⟩ => hw.block k (Array.getElem?_eq_some_iff.1 hx).1 (fun heq => by
    obtain ⟨cs, fr, hy⟩ := h.pend.typed k heq.symm
    rw [hx] at hy
    exact hn cs fr (Option.some.inj hy))
  refine ⟨h.now.rows (fun k hv => ?_) hk, h.on, h.sure.rows (fun k hv => ?_) hk, h.os, hn, hi, h.plan.stay (fun k hv => ?_), h.ol, (h.users.stay (fun k hv => ?_)).mono (fun c x hx => hx.keepR hk), h.ou, h.off⟩
  · obtain ⟨xs, f, hx⟩ := h.now.typed k hv; exact ne k ⟨_, hx, by simp⟩
  · obtain ⟨xs, f, hx⟩ := h.sure.typed k hv; exact ne k ⟨_, hx, by simp⟩
  · obtain ⟨xs, f, hx⟩ := h.plan.typed k hv; exact ne k ⟨_, hx, by simp⟩
  · obtain ⟨xs, f, hx⟩ := h.users.typed k hv; exact ne k ⟨_, hx, by simp⟩
theorem RParts.appUsers (h : RParts O R w vn vs vp vl vu now sure pend L users)
    (hw : w.grownBy w' vu.ownBlock) {vu' : Value} {users' : List Ev} (hn : OwnL w' 146 7 (IsEvR R w') vu' users') (hi : Inn O vu') (hoff : ∀ k, vu'.ownBlock = some k → vl.ownBlock ≠ some k) : RParts O R w' vn vs vp vl vu' now sure pend L users' := by
  have hk : KeepR R w w' := grownR hw (fun k hk => by obtain ⟨cs, fr, hx⟩ := h.users.typed k hk; exact cells_u8 hx (by kernel_rfl))
  have ne : ∀ k, (∃ x, w.heap[k]? = some x ∧ ∀ cs fr, x ≠ Obj.cells cs 146 fr) → w'.heap[k]? = w.heap[k]? := fun k ⟨x, hx, hn⟩ => hw.block k (Array.getElem?_eq_some_iff.1 hx).1 (fun heq => by
    obtain ⟨cs, fr, hy⟩ := h.users.typed k heq.symm
    rw [hx] at hy
    exact hn cs fr (Option.some.inj hy))
  refine ⟨h.now.rows (fun k hv => ?_) hk, h.on, h.sure.rows (fun k hv => ?_) hk, h.os, (h.pend.stay (fun k hv => ?_)).mono (fun c x hx => hx.keepR hk), h.op, h.plan.stay (fun k hv => ?_), h.ol, hn, hi, hoff⟩
  · obtain ⟨xs, f, hx⟩ := h.now.typed k hv; exact ne k ⟨_, hx, by simp⟩
  · obtain ⟨xs, f, hx⟩ := h.sure.typed k hv; exact ne k ⟨_, hx, by simp⟩
  · obtain ⟨xs, f, hx⟩ := h.pend.typed k hv; exact ne k ⟨_, hx, by simp⟩
  · obtain ⟨xs, f, hx⟩ := h.plan.typed k hv
    exact hw.block k (Array.getElem?_eq_some_iff.1 hx).1 (fun heq => h.off k heq.symm hv)
theorem RParts.bound (h : RParts O R w vn vs vp vl vu now sure pend L users) :
    RParts (fun k => O k ∧ k < w.heap.size) (fun k => R k ∧ k < w.heap.size) w vn vs vp vl vu now sure pend L users :=
  ⟨h.now.mono (fun c x hx => hx.bound), fun k hk => ⟨h.on k hk, h.now.lt k hk⟩, h.sure.mono (fun c x hx => hx.bound), fun k hk => ⟨h.os k hk, h.sure.lt k hk⟩, h.pend.mono (fun c x hx => hx.bound), fun k hk => ⟨h.op k hk, h.pend.lt k hk⟩, h.plan, fun k hk => ⟨h.ol k hk, h.plan.lt k hk⟩, h.users.mono (fun c x hx => hx.bound), fun k hk => ⟨h.ou k hk, h.users.lt k hk⟩, h.off⟩
end

/-! ### The whole -/
section
variable {O O' R R' : Nat → Prop} {w w' : World} {p : Value} {m : Fs}
theorem IsRef.mono (h : IsRef O R w p m) (ho : ∀ k, O k → O' k) (hr : ∀ k, R k → R' k) : IsRef O' R' w p m := by
  obtain ⟨g, vn, vs, vp, vl, vu, h1, h2, h3, h4⟩ := h
  exact ⟨g, vn, vs, vp, vl, vu, h1, h2, ho _ h3, h4.mono ho hr⟩
theorem IsRef.fit (h : IsRef (On O w.heap.size) (On R w.heap.size) w' p m) : IsRef (Nw O w w') (Nw R w w') w' p m := by
  obtain ⟨g, vn, vs, vp, vl, vu, h1, h2, h3, h4⟩ := h
  have hlt := (Array.getElem?_eq_some_iff.1 h2).1
  have hb : ∀ (S : Nat → Prop) k, On S w.heap.size k ∧ k < w'.heap.size → Nw S w w' k := fun S k hk => hk.1.imp id (fun h => ⟨h, hk.2⟩)
  exact ⟨g, vn, vs, vp, vl, vu, h1, h2, hb O g ⟨h3, hlt⟩, h4.bound.mono (hb O) (hb R)⟩
theorem IsRef.stay (h : IsRef O R w p m) (ho : ∀ k, O k → k < w.heap.size → w'.heap[k]? = w.heap[k]?) (hk : KeepR R w w') : IsRef O R w' p m := by
  obtain ⟨g, vn, vs, vp, vl, vu, h1, h2, h3, h4⟩ := h
  exact ⟨g, vn, vs, vp, vl, vu, h1, (ho g h3 (Array.getElem?_eq_some_iff.1 h2).1).trans h2, h3, h4.stayO ho hk⟩
theorem IsRef.other (h : IsRef O R w p m) (hf : Fr O' w w') (hd : ∀ k, O k → ¬ O' k) : IsRef O R w' p m :=
  h.stay (fun k hk hlt => hf.block k hlt (.inl (hd k hk))) (KeepR.of_keep hf.keep)
theorem IsRef.ext (h : IsRef O R w p m) (hx : Ext w w') : IsRef O R w' p m :=
  h.stay (fun k _ hlt => hx.block k hlt) (KeepR.of_keep (KeepB.of_ext hx))
end

/-- What a call leaves of the document's file system. -/
structure RefPost (O R : Nat → Prop) (w : World) (p : Value) (m : Fs) (w' : World) : Prop where
  fs : IsRef (Nw O w w') (Nw R w w') w' p m
  fr : Fr O w w'
section
variable {O R : Nat → Prop} {w wx w1 w' : World} {p : Value} {m m1 : Fs}
theorem RefPost.of_ext (hx : Ext w wx) (h : RefPost O (Nw R w wx) wx p m w') : RefPost O R w p m w' := by
  refine ⟨h.fs.mono (fun k hk => ?_) (fun k hk => hk.nw hx.size h.fr.size), (Fr.of_ext hx).trans (h.fr.mono fun k hk => .inl hk)⟩
  rcases hk with hk | hk
  · exact .inl hk
  · exact .inr ⟨Nat.le_trans hx.size hk.1, hk.2⟩
theorem RefPost.trans (h1 : RefPost O R w p m1 w1) (h : RefPost (Nw O w w1) (Nw R w w1) w1 p m w') : RefPost O R w p m w' :=
  ⟨h.fs.mono (fun k hk => hk.nw h1.fr.size h.fr.size) (fun k hk => hk.nw h1.fr.size h.fr.size), h1.fr.trans h.fr⟩
theorem RefPost.same (h : IsRef O R w p m) (hx : Ext w w') : RefPost O R w p m w' :=
  ⟨(h.ext hx).mono (fun k hk => .inl hk) (fun k hk => .inl hk), Fr.of_ext hx⟩
theorem RefPost.ext (h : RefPost O R w p m w1) (hx : Ext w1 w') : RefPost O R w p m w' := h.trans (RefPost.same h.fs hx)
theorem RefPost.pre (hx : Ext w wx) (h : RefPost O R wx p m w') : RefPost O R w p m w' := RefPost.of_ext hx ⟨h.fs.mono (fun k hk => hk) (fun k hk => hk.imp .inl id), h.fr⟩
end

end Go.Proofs.YtfimfbdlegookaaGreatDoor

/-! What the document's lists of files are, in plain Lean: places, files put in their places, what may be. No conditions. -/
namespace Go.Proofs.YtfimfbdlegookaaGreatDoor
open Go Go.RowKit

/-- The place of a path. -/
def PlaceOf (l : Files) (p : B8) (i : Int) : Prop := (look l p = none ∧ i = -1) ∨ ∃ (k : Nat) (f : Fi), i = k ∧ l[k]? = some (p, f) ∧ look l p = some f
theorem look_none {l : Files} {p : B8} (h : ∀ e ∈ l, e.1 ≠ p) : look l p = none := by
  unfold look
  rw [Option.map_eq_none_iff, List.find?_eq_none]
  intro e he
  simpa using h e he
theorem look_at : ∀ {l : Files} {p : B8} {k : Nat} {f : Fi}, (∀ e ∈ l.take k, e.1 ≠ p) → l[k]? = some (p, f) → look l p = some f
  | [], p, k, f, _, h => by simp at h
  | e :: l, p, 0, f, _, h => by
    have : e = (p, f) := by simpa using h
    subst this
    simp [look]
  | e :: l, p, k + 1, f, hn, h => by
    have h1 := look_at (l := l) (p := p) (k := k) (f := f) (fun e he => hn e (by simp [he])) (by simpa using h)
    have h2 : (e.1 == p) = false := by simpa using hn e (by simp)
    unfold look at h1 ⊢
    rw [List.find?_cons, h2]
    exact h1
theorem take_ne_snoc {l : Files} {p : B8} {k : Nat} {e : B8 × Fi} (h : ∀ e ∈ l.take k, e.1 ≠ p) (hk : l[k]? = some e) (he : e.1 ≠ p) : ∀ e ∈ l.take (k + 1), e.1 ≠ p := by
  intro x hx
  rw [List.take_add_one, hk, Option.toList_some] at hx
  rcases List.mem_append.1 hx with hx | hx
  · exact h x hx
  · have : x = e := by simpa using hx
    rw [this]; exact he
theorem delF_snoc {l : Files} {p : B8} {k : Nat} {e : B8 × Fi} (hk : l[k]? = some e) : delF (l.take (k + 1)) p = if e.1 = p then delF (l.take k) p else delF (l.take k) p ++ [e] := by
  unfold delF
  rw [List.take_add_one, hk, Option.toList_some, List.filter_append]
  by_cases h : e.1 = p
  · rw [if_pos h, List.filter_cons_of_neg (by simpa using h)]; simp
  · rw [if_neg h, List.filter_cons_of_pos (by simpa using h)]; simp
theorem insF_at (x : B8 × Fi) : ∀ (l : Files) (k : Nat), k ≤ l.length → (∀ j e, j < k → l[j]? = some e → ltB x.1 e.1 = false) → (∀ e, l[k]? = some e → ltB x.1 e.1 = true) → insF x l = l.take k ++ x :: l.drop k
  | [], k, hk, _, _ => by
    have : k = 0 := by simpa using hk
    subst this
    rfl
  | e :: l, 0, _, _, h => by
    have h1 := h e (by simp)
    simp [insF, h1]
  | e :: l, k + 1, hk, h1, h2 => by
    have h3 := h1 0 e (by omega) (by simp)
    have ih := insF_at x l k (by simpa using hk) (fun j e hj he => h1 (j + 1) e (by omega) (by simpa using he)) (fun e he => h2 e (by simpa using he))
    simp [insF, h3, ih]
theorem ltB_asymm {a b : B8} (h : ltB a b = true) : ltB b a = false := by
  cases hb : ltB b a with
  | false => rfl
  | true => exact absurd rfl (ltB_ne (ltB_trans h hb))
theorem putF_at {l : Files} {p : B8} {f : Fi} {k : Nat} (hk : k ≤ (delF l p).length) (h1 : ∀ j e, j < k → (delF l p)[j]? = some e → ltB e.1 p = true) (h2 : ∀ e, (delF l p)[k]? = some e → ltB e.1 p = false) : putF l p f = (delF l p).take k ++ (p, f) :: (delF l p).drop k :=
  insF_at (p, f) _ k hk (fun j e hj he => ltB_asymm (h1 j e hj he)) (fun e he => ltB_total (h2 e he) (delF_ne l p e (List.mem_of_getElem? he)))

def mayR (l : Files) (path : B8) : Bool := !(l.any fun e => isUnder path e.1 || isUnder e.1 path)
theorem mayR_nil {l : Files} {path : B8} (h : ∀ e ∈ l, e.1 ≠ []) : mayF l path [] = mayR l path := by
  unfold mayF mayR
  congr 1
  rw [Bool.eq_iff_iff, List.any_eq_true, List.any_eq_true]
  constructor
  · rintro ⟨e, he, hx⟩
    refine ⟨e, he, ?_⟩
    simp only [Bool.and_eq_true] at hx
    rw [Bool.or_comm]
    exact hx.2
  · rintro ⟨e, he, hx⟩
    refine ⟨e, he, ?_⟩
    have : (e.1 == ([] : B8)) = false := by simpa using h e he
    rw [this, Bool.or_comm]
    simpa using hx
theorem mayR_del {l : Files} {path but : B8} : mayF l path but = mayR (delF l but) path := by
  unfold mayF mayR delF
  congr 1
  rw [Bool.eq_iff_iff, List.any_eq_true, List.any_eq_true]
  constructor
  · rintro ⟨e, he, hx⟩
    simp only [Bool.and_eq_true] at hx
    refine ⟨e, List.mem_filter.2 ⟨he, hx.1⟩, ?_⟩
    rw [Bool.or_comm]
    exact hx.2
  · rintro ⟨e, he, hx⟩
    have h1 := List.mem_filter.1 he
    refine ⟨e, h1.1, ?_⟩
    simp only [Bool.and_eq_true]
    rw [Bool.or_comm]
    exact ⟨h1.2, hx⟩
theorem mayR_take {l : Files} {path : B8} {k : Nat} {e : B8 × Fi} (h : mayR (l.take k) path = true) (hk : l[k]? = some e) : mayR (l.take (k + 1)) path = !(isUnder path e.1 || isUnder e.1 path) := by
  unfold mayR at h ⊢
  rw [Bool.not_eq_true'] at h
  rw [List.take_add_one, hk, Option.toList_some, List.any_append, h]
  simp
theorem mayR_no {l : Files} {path : B8} {e : B8 × Fi} (he : e ∈ l) (h : (isUnder path e.1 || isUnder e.1 path) = true) : mayR l path = false := by
  unfold mayR
  rw [Bool.not_eq_false', List.any_eq_true]
  exact ⟨e, he, h⟩
theorem used_take {l : Files} {k : Nat} {e : B8 × Fi} (hk : l[k]? = some e) : usedF (l.take (k + 1)) = usedF (l.take k) + e.2.data.length := by
  unfold usedF
  rw [List.take_add_one, hk, Option.toList_some]
  simp
theorem used_take_le {l : Files} (k : Nat) : usedF (l.take k) ≤ usedF l := by
  have h := List.take_append_drop k l
  have : usedF l = usedF (l.take k) + usedF (l.drop k) := by
    conv => lhs; rw [← h]
    unfold usedF
    rw [List.map_append, List.sum_append]
  omega

end Go.Proofs.YtfimfbdlegookaaGreatDoor

/-! marref5: find, used: what is read of a list of files. Conditions: at most 10000000 files; short paths. -/
namespace Go.Proofs.YtfimfbdlegookaaGreatDoor
open Go Go.RowKit

theorem readL_get {α : Type} {t : TypeId} {w : World} {p : List Value → α → Prop} {v : Value} {xs : List α} (n : Nat) (hp : ∀ c x, p c x → c.length = n) (hn0 : 0 < n) (h : ReadL w t p v xs) : ∃ a cap, v = .slice a xs.length cap ∧ xs.length ≤ cap ∧ xs.length ≤ 140737488355328 ∧ cap ≤ 9223372036854775807 ∧
    ∀ (k : Nat) x, xs[k]? = some x → ∃ b o cs, a = some ⟨b, o, none⟩ ∧ p cs x ∧ ∀ j u, cs[j]? = some u → w.cell? ⟨b, o + k * n + j, none⟩ = some u := by
  obtain ⟨css, ⟨a, cap, rfl, h1, h2, h3, h4⟩, ht, he⟩ := h
  refine ⟨a, cap, rfl, h1, h3, h2, fun k x hk => ?_⟩
  have h7 : ∀ c ∈ css, c.length = n := fun c hc => by
    obtain ⟨i, hi, rfl⟩ := List.mem_iff_getElem.1 hc
    have hi2 : i < xs.length := by rw [← he.1]; exact hi
    exact hp _ _ (he.2 i css[i] xs[i] (List.getElem?_eq_getElem hi) (List.getElem?_eq_getElem hi2))
  have hkl : k < css.length := by rw [he.1]; exact (List.getElem?_eq_some_iff.1 hk).1
  have hev := he.2 k _ x (List.getElem?_eq_getElem hkl) hk
  have hf := fun j u hu => flat_get n css k j _ u h7 (List.getElem?_eq_getElem hkl) hu
  obtain ⟨b, o, rfl, hc⟩ := h4 (by
    intro hnil
    have h0 : (css[k])[0]? = some ((css[k])[0]'(by rw [hp _ _ hev]; exact hn0)) := List.getElem?_eq_getElem _
    have := hf 0 _ h0
    rw [hnil] at this
    simp at this)
  refine ⟨b, o, css[k], rfl, hev, fun j u hu => ?_⟩
  have := hc _ _ (hf j u hu)
  rwa [Nat.add_assoc, Nat.mul_comm k n]

theorem Row.stayN {w w' : World} {v : Value} {n : Nat} {cs : List Value} (h : Row w v n cs) (hb : cs ≠ [] → ∀ k, v.ownBlock = some k → w'.heap[k]? = w.heap[k]?) : Row w' v n cs := by
  obtain ⟨a, cap, rfl, h1, h2, h3, h4⟩ := h
  refine ⟨a, cap, rfl, h1, h2, h3, fun hn => ?_⟩
  obtain ⟨b, o, rfl, hc⟩ := h4 hn
  refine ⟨b, o, rfl, fun i u hu => ?_⟩
  rw [World.cell?_of_block (w := w) (w' := w') (a := ⟨b, o + i, none⟩) (hb hn b rfl)]
  exact hc i u hu
/-- A slice of another's, that is read alone: its block's type is not told. -/
def ReadO {α : Type} (w : World) (p : List Value → α → Prop) (v : Value) (xs : List α) : Prop := ∃ css : List (List Value), Row w v xs.length css.flatten ∧ (xs ≠ [] → ∀ k, v.ownBlock = some k → k < w.heap.size) ∧ Each p css xs
theorem ReadO.mono {α : Type} {w : World} {p q : List Value → α → Prop} {v : Value} {xs : List α} (h : ReadO w p v xs) (hpq : ∀ c x, p c x → q c x) : ReadO w q v xs := by
  obtain ⟨css, h1, h2, h3⟩ := h
  exact ⟨css, h1, h2, h3.imp hpq⟩
theorem ReadO.lt {α : Type} {w : World} {p : List Value → α → Prop} {v : Value} {xs : List α} (h : ReadO w p v xs) (hn : xs ≠ []) : ∀ k, v.ownBlock = some k → k < w.heap.size := by
  obtain ⟨css, h1, h2, h3⟩ := h
  exact h2 hn
theorem ReadO.stay {α : Type} {w w' : World} {p : List Value → α → Prop} {v : Value} {xs : List α} (h : ReadO w p v xs) (hs : w.heap.size ≤ w'.heap.size) (hb : xs ≠ [] → ∀ k, v.ownBlock = some k → w'.heap[k]? = w.heap[k]?) : ReadO w' p v xs := by
  obtain ⟨css, h1, h2, h3⟩ := h
  refine ⟨css, h1.stayN (fun hn => hb fun hx => hn ?_), fun hn k hk => Nat.lt_of_lt_of_le (h2 hn k hk) hs, h3⟩
  have : css = [] := List.eq_nil_of_length_eq_zero (by rw [h3.1, hx]; rfl)
  rw [this]; rfl
theorem readO_get {α : Type} {w : World} {p : List Value → α → Prop} {v : Value} {xs : List α} (n : Nat) (hp : ∀ c x, p c x → c.length = n) (hn0 : 0 < n) (h : ReadO w p v xs) : ∃ a cap, v = .slice a xs.length cap ∧ xs.length ≤ cap ∧ xs.length ≤ 140737488355328 ∧ cap ≤ 9223372036854775807 ∧
    ∀ (k : Nat) x, xs[k]? = some x → ∃ b o cs, a = some ⟨b, o, none⟩ ∧ p cs x ∧ ∀ j u, cs[j]? = some u → w.cell? ⟨b, o + k * n + j, none⟩ = some u := by
  obtain ⟨css, ⟨a, cap, rfl, h1, h2, h3, h4⟩, ht, he⟩ := h
  refine ⟨a, cap, rfl, h1, h3, h2, fun k x hk => ?_⟩
  have h7 : ∀ c ∈ css, c.length = n := fun c hc => by
    obtain ⟨i, hi, rfl⟩ := List.mem_iff_getElem.1 hc
    have hi2 : i < xs.length := by rw [← he.1]; exact hi
    exact hp _ _ (he.2 i css[i] xs[i] (List.getElem?_eq_getElem hi) (List.getElem?_eq_getElem hi2))
  have hkl : k < css.length := by rw [he.1]; exact (List.getElem?_eq_some_iff.1 hk).1
  have hev := he.2 k _ x (List.getElem?_eq_getElem hkl) hk
  have hf := fun j u hu => flat_get n css k j _ u h7 (List.getElem?_eq_getElem hkl) hu
  obtain ⟨b, o, rfl, hc⟩ := h4 (by
    intro hnil
    have h0 : (css[k])[0]? = some ((css[k])[0]'(by rw [hp _ _ hev]; exact hn0)) := List.getElem?_eq_getElem _
    have := hf 0 _ h0
    rw [hnil] at this
    simp at this)
  refine ⟨b, o, css[k], rfl, hev, fun j u hu => ?_⟩
  have := hc _ _ (hf j u hu)
  rwa [Nat.add_assoc, Nat.mul_comm k n]

/-- A file of a list, in its cells. -/
theorem rows_get {R : Nat → Prop} {w : World} {v : Value} {l : Files} (h : IsRows R w v l) : ∃ a cap, v = .slice a l.length cap ∧ l.length ≤ cap ∧ l.length ≤ 140737488355328 ∧ cap ≤ 9223372036854775807 ∧
    ∀ (k : Nat) q f, l[k]? = some (q, f) → ∃ b o s c, a = some ⟨b, o, none⟩ ∧ q.length ≤ 1000000 ∧ IsData R w (.slice s f.data.length c) f.data ∧ w.cell? ⟨b, o + k * 4, none⟩ = some (S8 q) ∧ w.cell? ⟨b, o + k * 4 + 1, none⟩ = some (.int .i64 f.mode) ∧ w.cell? ⟨b, o + k * 4 + 2, none⟩ = some (.slice s f.data.length c) ∧ w.cell? ⟨b, o + k * 4 + 3, none⟩ = some (.int .i64 f.time) := by
  obtain ⟨a, cap, h1, h2, h3, h4, h5⟩ := readL_get 4 (fun c x hx => hx.length.1) (by omega) h
  refine ⟨a, cap, h1, h2, h3, h4, fun k q f hk => ?_⟩
  obtain ⟨b, o, cs, ha, ⟨hq, vd, rfl, hd⟩, hc⟩ := h5 k (q, f) hk
  obtain ⟨s, c, rfl, -⟩ := id hd.bytes
  exact ⟨b, o, s, c, ha, hq, hd, hc 0 _ rfl, hc 1 _ rfl, hc 2 _ rfl, hc 3 _ rfl⟩

theorem tl (l : B8) : (⟨l.toArray⟩ : ByteArray).toList = l := Lib.toList_data _

set_option maxRecDepth 100000 in
set_option maxHeartbeats 1000000 in
theorem find_any {R : Nat → Prop} {w : World} {v : Value} {l : Files} (p : B8) (hv : IsRows R w v l) :
    Calls Tryz.prog 164 #[v, S8 p] w fun e w' => (∃ i : Int, e = .returned (.int .i64 i) ∧ PlaceOf l p i) ∧ Ext w w' := by
  obtain ⟨a, cap, rfl, h1, h2, h3, h4⟩ := rows_get hv
  have H4 : Hid _ := h4
  have htp := tl p
  clear h4 hv
  go_enter Tryz.func164, Tryz.ntmps164
  go_wp2
  go_loopw [5] (fun i wr => ∃ k : Nat, k ≤ l.length ∧ i = .int .i64 k ∧ (∀ e ∈ l.take k, e.1 ≠ p) ∧ Ext w wr) (fun i _ => l.length - (intOf i).toNat)
  case atStart => exact ⟨0, Nat.zero_le _, rfl, by simp, Ext.refl _⟩
  case round =>
    obtain ⟨k, hk, rfl, hn, hx⟩ := hrel
    have HN : Hid _ := hn
    clear hn
    by_cases hlt : k < l.length
    · obtain ⟨⟨q, f⟩, hke⟩ : ∃ e, l[k]? = some e := ⟨_, List.getElem?_eq_getElem hlt⟩
      obtain ⟨b, o, s, c, rfl, hql, hd, c0, -, -, -⟩ := H4.out k q f hke
      replace c0 := hx.cell c0
      have HK : Hid _ := hke
      have htq := tl q
      clear hd hke
      obtain ⟨bq, hbq⟩ : ∃ bq, (q == p) = bq := ⟨_, rfl⟩
      cases bq with
      | true =>
        go_wp2
        go_ret
        have hqp : q = p := by simpa using hbq
        subst hqp
        exact ⟨⟨_, rfl, .inr ⟨k, f, rfl, HK.out, look_at HN.out HK.out⟩⟩, hx⟩
      | false =>
        have HB : Hid (q ≠ p) := by simpa [Hid] using hbq
        go_wp2
        go_roundw
        case rel => exact ⟨k + 1, by omega, by go_num, take_ne_snoc HN.out HK.out HB.out, hx⟩
        case measure => simp [intOf]; omega
    · have hkk : k = l.length := by omega
      subst hkk
      go_wp2
      go_ret
      have hn := HN.out
      rw [List.take_length] at hn
      exact ⟨⟨_, rfl, .inl ⟨look_none hn, rfl⟩⟩, hx⟩

set_option maxRecDepth 100000 in
set_option maxHeartbeats 1000000 in
theorem usedR_any {R : Nat → Prop} {w : World} {v : Value} {l : Files} (hv : IsRows R w v l) (hu : usedF l ≤ 1000000000000) :
    Calls Tryz.prog 163 #[v] w fun e w' => e = .returned (.int .i64 (usedF l)) ∧ Ext w w' := by
  obtain ⟨a, cap, rfl, h1, h2, h3, h4⟩ := rows_get hv
  have H4 : Hid _ := h4
  obtain ⟨U, hU⟩ : ∃ U, usedF l = U := ⟨_, rfl⟩
  have HU : Hid _ := hU
  rw [hU] at hu
  clear h4 hv hU
  go_enter Tryz.func163, Tryz.ntmps163
  go_wp2
  go_loopw [3, 4] (fun n i wr => ∃ k m : Nat, k ≤ l.length ∧ i = .int .i64 k ∧ n = .int .i64 m ∧ m ≤ U ∧ usedF (l.take k) = m ∧ Ext w wr) (fun _ i _ => l.length - (intOf i).toNat)
  case atStart => exact ⟨0, 0, Nat.zero_le _, rfl, rfl, Nat.zero_le _, rfl, Ext.refl _⟩
  case round =>
    obtain ⟨k, m, hk, rfl, rfl, hmu, hm, hx⟩ := hrel
    have HM : Hid _ := hm
    clear hm
    by_cases hlt : k < l.length
    · obtain ⟨⟨q, f⟩, hke⟩ : ∃ e, l[k]? = some e := ⟨_, List.getElem?_eq_getElem hlt⟩
      obtain ⟨b, o, s, c, rfl, hql, hd, -, -, c2, -⟩ := H4.out k q f hke
      replace c2 := hx.cell c2
      have hst := used_take hke
      have hle := @used_take_le l (k + 1)
      rw [hst, HM.out, HU.out] at hle
      rw [HM.out] at hst
      dsimp only at hst hle
      have HS : Hid _ := hst
      clear hd hke hst
      go_wp2
      go_roundw
      case rel => exact ⟨k + 1, m + f.data.length, by omega, by go_num, by go_num, hle, HS.out, hx⟩
      case measure => simp [intOf]; omega
    · have hkk : k = l.length := by omega
      subst hkk
      go_wp2
      go_ret
      have hn := HM.out
      rw [List.take_length] at hn
      exact ⟨ret_i (by rw [hn]), hx⟩

end Go.Proofs.YtfimfbdlegookaaGreatDoor

/-! marlaw5.FewEvents, Few: are events, operations few and small? Conditions: as each theorem states. -/
namespace Go.Proofs.YtfimfbdlegookaaGreatDoor
open Go Go.RowKit
variable [Inhabited BaseW]

theorem ReadO.dRead {w : World} {v : Value} {L : List Ev} (h : ReadO w IsEvD v L) (hx : Ext baseW w) : ReadB w v L := by
  obtain ⟨css, h1, _, h2⟩ := h
  exact ⟨css, h1, h2.imp (fun c x hc => hc.read hx)⟩
theorem ReadO.dExt {p : List Value → Ev → Prop} {w w' : World} {v : Value} {L : List Ev} (h : ReadO w p v L) (hx : Ext w w') : ReadO w' p v L := h.stay hx.size (fun hn k hk => hx.block k (h.lt hn k hk))
theorem ReadO.dUp {w : World} {v : Value} {L : List Ev} (h : ReadO w IsEvI v L) (hp : ∀ e ∈ L, e.path.length ≤ 400) : ReadO w IsEvD v L := by
  obtain ⟨css, h1, h2, h3, h4⟩ := h
  exact ⟨css, h1, h2, h3, fun i c x hc hx => (h4 i c x hc hx).up (hp x (List.mem_of_getElem? hx))⟩

/-- An operation, in its cells. -/
def IsOpn (w : World) (cs : List Value) (o : Opn) : Prop := ∃ vd vp, cs = [.int .i64 o.kind, .int .i64 o.mode, .int .i64 o.keep, .int .i64 o.torn, S8 o.path, S8 o.dest, vd, vp] ∧ OldB vd o.data ∧ ReadO w IsEvI vp o.plan
/-! ### FewEvents -/
def evW (n : Nat) (e : Ev) : Nat := min (n + min e.data.length 40000 + min e.path.length 1000) 160000
def fewEv (es : List Ev) : Bool := decide (es.length ≤ 60) && (es.all (fun e => decide (e.path.length ≤ 400)) && decide (es.foldl evW 0 ≤ 40000))
theorem evW_snoc {l : List Ev} {k : Nat} {e : Ev} (h : l[k]? = some e) : (l.take (k + 1)).foldl evW 0 = evW ((l.take k).foldl evW 0) e := by
  have hk := (List.getElem?_eq_some_iff.1 h)
  obtain ⟨hlt, rfl⟩ := hk
  rw [List.take_succ_eq_append_getElem hlt, List.foldl_append]
  rfl
theorem few_snoc {l : List Ev} {k : Nat} {e : Ev} (h : l[k]? = some e) (h0 : (l.take k).all (fun e => decide (e.path.length ≤ 400)) = true) (h1 : e.path.length ≤ 400) : (l.take (k + 1)).all (fun e => decide (e.path.length ≤ 400)) = true := by
  obtain ⟨hlt, rfl⟩ := (List.getElem?_eq_some_iff.1 h)
  rw [List.take_succ_eq_append_getElem hlt]
  simp only [List.all_append, h0, List.all_cons, List.all_nil, Bool.and_true, Bool.true_and, decide_eq_true_eq]
  exact h1
theorem few_no {l : List Ev} {k : Nat} {e : Ev} (h : l[k]? = some e) (h1 : ¬ e.path.length ≤ 400) : fewEv l = false := by
  have : l.all (fun e => decide (e.path.length ≤ 400)) = false := by
    rw [List.all_eq_false]
    exact ⟨e, List.mem_of_getElem? h, by simpa using h1⟩
  unfold fewEv
  rw [this]
  simp

set_option maxRecDepth 100000 in
set_option maxHeartbeats 2000000 in
theorem fewEvents_any {w : World} {v : Value} {l : List Ev} (hv : ReadO w IsEvI v l) :
    Calls Tryz.prog 23 #[v] w fun e w' => e = .returned (.bool (fewEv l)) ∧ Ext w w' := by
  obtain ⟨a, cap, rfl, h1, h2, h3, h4⟩ := readO_get 7 (fun c x hx => hx.length.1) (by omega) hv
  have H4 : Hid _ := h4
  clear h4 hv
  go_enter Tryz.func23, Tryz.ntmps23
  go_wp2
  go_loopw [3, 4] (fun n i wr => ∃ k m : Nat, Ext w wr ∧ k ≤ l.length ∧ k ≤ 60 ∧ i = .int .i64 k ∧ n = .int .i64 m ∧ m ≤ 160000 ∧ (l.take k).foldl evW 0 = m ∧ (l.take k).all (fun e => decide (e.path.length ≤ 400)) = true) (fun _ i _ => l.length - (intOf i).toNat)
  case atStart => exact ⟨0, 0, Ext.refl _, Nat.zero_le _, by omega, rfl, rfl, by omega, rfl, rfl⟩
  case round =>
    obtain ⟨k, m, hx, hk, hk6, rfl, rfl, hm, hfd, hal⟩ := hrel
    have HX : Hid _ := hx
    have HF : Hid _ := hfd
    have HA : Hid _ := hal
    clear hfd hal
    by_cases hlt : k < l.length
    · by_cases h60 : k < 60
      · obtain ⟨E, he⟩ : ∃ e, l[k]? = some e := ⟨_, List.getElem?_eq_getElem hlt⟩
        obtain ⟨b, o, cs, rfl, hev, hc⟩ := H4.out k E he
        obtain ⟨vd, rfl, hd⟩ := hev
        obtain ⟨s1, s2, rfl, -⟩ := id hd.bytes
        have c5 := hx.cell (hc 5 _ rfl)
        have c6 := hx.cell (hc 6 _ rfl)
        have HE : Hid _ := he
        have hdl := hd.bytes.len
        obtain ⟨d', hd'⟩ : ∃ d', min E.data.length 40000 = d' := ⟨_, rfl⟩
        obtain ⟨p', hp'⟩ : ∃ p', min E.path.length 1000 = p' := ⟨_, rfl⟩
        obtain ⟨n', hn'⟩ : ∃ n', min (m + d' + p') 160000 = n' := ⟨_, rfl⟩
        have hmd : min (E.data.length : Int) 40000 = (d' : Int) := by omega
        have hmp : min (E.path.length : Int) 1000 = (p' : Int) := by omega
        have hmn : min ((m : Int) + d' + p') 160000 = (n' : Int) := by omega
        have hdl' : d' ≤ 40000 := by omega
        have hpl' : p' ≤ 1000 := by omega
        have hnl : n' ≤ 160000 := by omega
        have hw1 : IntKind.i64.wrap ((m : Int) + (d' : Int)) = (m : Int) + d' := IntWalk.i64_in _ (by omega)
        have hw2 : IntKind.i64.wrap ((m : Int) + (d' : Int) + (p' : Int)) = (m : Int) + d' + p' := IntWalk.i64_in _ (by omega)
        have HN : Hid (evW m E = n') := by unfold Hid evW; rw [hd', hp', hn']
        clear hd he hd' hp' hn' hc
        by_cases h4 : E.path.length ≤ 400
        · have h4i : ¬ (400 : Int) < (E.path.length : Int) := by omega
          have H40 : Hid _ := h4
          clear h4
          go_wp2_with fail
          apply wp_region_mix 18 [_, _, _, _, _, _, _, _, _, _, _, _, _, _, _, _, _, .int .i64 n'] [none, none, none, none, none, none, none, none, none, none, none, none, none, none, none, none, none, none] [[], [], [], [1, 2], [3], [4], [5], [6], [0, 7], [], [], [9, 10], [11], [12], [13], [14], [8, 15], [16]] (by kernel_rfl) (by kernel_rfl) (by simp [mixV])
          · trivial
          · simp (maxSteps := 1000000) only [List.take_succ_cons, List.take_zero, oblFrom, stepObl, fillFrom, Act.put, List.setIfInBounds_toArray, List.set_cons_zero, List.set_cons_succ, knows, getV, mixV, List.getD_cons_zero, List.getD_cons_succ, and_true, true_and, forall_const]
            refine ⟨?_, ?_, ?_, ?_, ?_, ?_, ?_, ?_, ?_, ?_, ?_, ?_, ?_, ?_, ?_, ?_, ?_, ?_⟩
            · intro xs wq hq R hR
              have f5 := hq.cell c5; have f6 := hq.cell c6
              go_simp
              exact hR _ _ (Ext.refl _) rfl
            · intro xs wq hq R hR
              have f5 := hq.cell c5; have f6 := hq.cell c6
              go_simp
              exact hR _ _ (Ext.refl _) rfl
            · intro xs wq hq R hR
              have f5 := hq.cell c5; have f6 := hq.cell c6
              go_simp
              exact hR _ _ (Ext.refl _) rfl
            · intro xs wq hq hk R hR
              obtain ⟨hk0, hk1⟩ := hk
              have f5 := hq.cell c5; have f6 := hq.cell c6
              go_simp
              exact hR _ _ (Ext.refl _) rfl
            · intro xs wq hq hk R hR
              have f5 := hq.cell c5; have f6 := hq.cell c6
              go_simp
              exact hR _ _ (Ext.refl _) rfl
            · intro xs wq hq hk R hR
              have f5 := hq.cell c5; have f6 := hq.cell c6
              go_simp
              exact hR _ _ (Ext.refl _) rfl
            · intro xs wq hq hk R hR
              have f5 := hq.cell c5; have f6 := hq.cell c6
              go_simp
              exact hR _ _ (Ext.refl _) rfl
            · intro xs wq hq hk R hR
              have f5 := hq.cell c5; have f6 := hq.cell c6
              go_simp
              exact hR _ _ (Ext.refl _) rfl
            · intro xs wq hq hk R hR
              obtain ⟨hk0, hk1⟩ := hk
              have f5 := hq.cell c5; have f6 := hq.cell c6
              go_simp
              exact hR _ _ (Ext.refl _) rfl
            · intro xs wq hq R hR
              have f5 := hq.cell c5; have f6 := hq.cell c6
              go_simp
              exact hR _ _ (Ext.refl _) rfl
            · intro xs wq hq R hR
              have f5 := hq.cell c5; have f6 := hq.cell c6
              go_simp
              exact hR _ _ (Ext.refl _) rfl
            · intro xs wq hq hk R hR
              obtain ⟨hk0, hk1⟩ := hk
              have f5 := hq.cell c5; have f6 := hq.cell c6
              go_simp
              exact hR _ _ (Ext.refl _) rfl
            · intro xs wq hq hk R hR
              have f5 := hq.cell c5; have f6 := hq.cell c6
              go_simp
              exact hR _ _ (Ext.refl _) rfl
            · intro xs wq hq hk R hR
              have f5 := hq.cell c5; have f6 := hq.cell c6
              go_simp
              exact hR _ _ (Ext.refl _) rfl
            · intro xs wq hq hk R hR
              have f5 := hq.cell c5; have f6 := hq.cell c6
              go_simp
              exact hR _ _ (Ext.refl _) rfl
            · intro xs wq hq hk R hR
              have f5 := hq.cell c5; have f6 := hq.cell c6
              go_simp
              exact hR _ _ (Ext.refl _) rfl
            · intro xs wq hq hk R hR
              obtain ⟨hk0, hk1⟩ := hk
              have f5 := hq.cell c5; have f6 := hq.cell c6
              go_simp
              exact hR _ _ (Ext.refl _) rfl
            · intro xs wq hq hk R hR
              have f5 := hq.cell c5; have f6 := hq.cell c6
              go_simp
              exact hR _ _ (Ext.refl _) rfl
          intro xs w2 hx2 hk
          simp only [heldV, Nat.zero_add, Nat.reduceAdd, and_true] at hk
          obtain ⟨q0, q1, q2, q3, q4, q5, q6, q7, q8, q9, q10, q11, q12, q13, q14, q15, q16, q17⟩ := hk
          simp (maxSteps := 1000000) only [List.take_succ_cons, List.take_zero, List.drop_succ_cons, List.drop_zero, fillFrom, Act.put, List.setIfInBounds_toArray, List.set_cons_zero, List.set_cons_succ, Nat.zero_add, Nat.reduceAdd, q0, q1, q2, q3, q4, q5, q6, q7, q8, q9, q10, q11, q12, q13, q14, q15, q16, q17]
          clear q0 q1 q2 q3 q4 q5 q6 q7 q8 q9 q10 q11 q12 q13 q14 q15 q16 q17
          have hxr := Ext.trans HX.out hx2
          replace c5 := hx2.cell c5
          replace c6 := hx2.cell c6
          go_wp2
          go_roundw
          case rel => exact ⟨k + 1, n', hxr, by omega, by omega, by go_num, rfl, hnl, by rw [evW_snoc HE.out, HF.out, HN.out], few_snoc HE.out HA.out H40.out⟩
          case measure => simp [intOf]; omega
        · have h4i : (400 : Int) < (E.path.length : Int) := by omega
          have H40 : Hid _ := few_no HE.out h4
          clear h4
          go_wp2_with fail
          apply wp_region_mix 18 [_, _, _, _, _, _, _, _, _, _, _, _, _, _, _, _, _, .int .i64 n'] [none, none, none, none, none, none, none, none, none, none, none, none, none, none, none, none, none, none] [[], [], [], [1, 2], [3], [4], [5], [6], [0, 7], [], [], [9, 10], [11], [12], [13], [14], [8, 15], [16]] (by kernel_rfl) (by kernel_rfl) (by simp [mixV])
          · trivial
          · simp (maxSteps := 1000000) only [List.take_succ_cons, List.take_zero, oblFrom, stepObl, fillFrom, Act.put, List.setIfInBounds_toArray, List.set_cons_zero, List.set_cons_succ, knows, getV, mixV, List.getD_cons_zero, List.getD_cons_succ, and_true, true_and, forall_const]
            refine ⟨?_, ?_, ?_, ?_, ?_, ?_, ?_, ?_, ?_, ?_, ?_, ?_, ?_, ?_, ?_, ?_, ?_, ?_⟩
            · intro xs wq hq R hR
              have f5 := hq.cell c5; have f6 := hq.cell c6
              go_simp
              exact hR _ _ (Ext.refl _) rfl
            · intro xs wq hq R hR
              have f5 := hq.cell c5; have f6 := hq.cell c6
              go_simp
              exact hR _ _ (Ext.refl _) rfl
            · intro xs wq hq R hR
              have f5 := hq.cell c5; have f6 := hq.cell c6
              go_simp
              exact hR _ _ (Ext.refl _) rfl
            · intro xs wq hq hk R hR
              obtain ⟨hk0, hk1⟩ := hk
              have f5 := hq.cell c5; have f6 := hq.cell c6
              go_simp
              exact hR _ _ (Ext.refl _) rfl
            · intro xs wq hq hk R hR
              have f5 := hq.cell c5; have f6 := hq.cell c6
              go_simp
              exact hR _ _ (Ext.refl _) rfl
            · intro xs wq hq hk R hR
              have f5 := hq.cell c5; have f6 := hq.cell c6
              go_simp
              exact hR _ _ (Ext.refl _) rfl
            · intro xs wq hq hk R hR
              have f5 := hq.cell c5; have f6 := hq.cell c6
              go_simp
              exact hR _ _ (Ext.refl _) rfl
            · intro xs wq hq hk R hR
              have f5 := hq.cell c5; have f6 := hq.cell c6
              go_simp
              exact hR _ _ (Ext.refl _) rfl
            · intro xs wq hq hk R hR
              obtain ⟨hk0, hk1⟩ := hk
              have f5 := hq.cell c5; have f6 := hq.cell c6
              go_simp
              exact hR _ _ (Ext.refl _) rfl
            · intro xs wq hq R hR
              have f5 := hq.cell c5; have f6 := hq.cell c6
              go_simp
              exact hR _ _ (Ext.refl _) rfl
            · intro xs wq hq R hR
              have f5 := hq.cell c5; have f6 := hq.cell c6
              go_simp
              exact hR _ _ (Ext.refl _) rfl
            · intro xs wq hq hk R hR
              obtain ⟨hk0, hk1⟩ := hk
              have f5 := hq.cell c5; have f6 := hq.cell c6
              go_simp
              exact hR _ _ (Ext.refl _) rfl
            · intro xs wq hq hk R hR
              have f5 := hq.cell c5; have f6 := hq.cell c6
              go_simp
              exact hR _ _ (Ext.refl _) rfl
            · intro xs wq hq hk R hR
              have f5 := hq.cell c5; have f6 := hq.cell c6
              go_simp
              exact hR _ _ (Ext.refl _) rfl
            · intro xs wq hq hk R hR
              have f5 := hq.cell c5; have f6 := hq.cell c6
              go_simp
              exact hR _ _ (Ext.refl _) rfl
            · intro xs wq hq hk R hR
              have f5 := hq.cell c5; have f6 := hq.cell c6
              go_simp
              exact hR _ _ (Ext.refl _) rfl
            · intro xs wq hq hk R hR
              obtain ⟨hk0, hk1⟩ := hk
              have f5 := hq.cell c5; have f6 := hq.cell c6
              go_simp
              exact hR _ _ (Ext.refl _) rfl
            · intro xs wq hq hk R hR
              have f5 := hq.cell c5; have f6 := hq.cell c6
              go_simp
              exact hR _ _ (Ext.refl _) rfl
          intro xs w2 hx2 hk
          simp only [heldV, Nat.zero_add, Nat.reduceAdd, and_true] at hk
          obtain ⟨q0, q1, q2, q3, q4, q5, q6, q7, q8, q9, q10, q11, q12, q13, q14, q15, q16, q17⟩ := hk
          simp (maxSteps := 1000000) only [List.take_succ_cons, List.take_zero, List.drop_succ_cons, List.drop_zero, fillFrom, Act.put, List.setIfInBounds_toArray, List.set_cons_zero, List.set_cons_succ, Nat.zero_add, Nat.reduceAdd, q0, q1, q2, q3, q4, q5, q6, q7, q8, q9, q10, q11, q12, q13, q14, q15, q16, q17]
          clear q0 q1 q2 q3 q4 q5 q6 q7 q8 q9 q10 q11 q12 q13 q14 q15 q16 q17
          have hxr := Ext.trans HX.out hx2
          replace c5 := hx2.cell c5
          replace c6 := hx2.cell c6
          go_wp2
          go_ret
          exact ⟨by rw [H40.out]; rfl, hxr⟩
      · have hkk : k = 60 := by omega
        subst hkk
        have hl60 : ¬ (l.length : Int) ≤ 60 := by omega
        have HB : Hid (fewEv l = false) := by
          unfold Hid fewEv
          rw [decide_eq_false (by omega)]
          rfl
        go_wp2
        go_ret
        exact ⟨by rw [HB.out]; rfl, HX.out⟩
    · have hkk : k = l.length := by omega
      subst hkk
      have hfd := HF.out
      have hal := HA.out
      rw [List.take_length] at hfd hal
      have hl60 : (l.length : Int) ≤ 60 := by omega
      have HB : Hid (fewEv l = decide ((m : Int) ≤ 40000)) := by
        unfold Hid fewEv
        rw [decide_eq_true hk6, hal, hfd]
        simp only [Bool.true_and, decide_eq_decide]
        omega
      clear hfd hal
      go_wp2
      go_ret
      exact ⟨by rw [HB.out]; rfl, HX.out⟩

/-! ### Few -/
def opW (n : Nat) (o : Opn) : Nat := min (n + min o.data.length 40000) 160000
def okOp (o : Opn) : Bool := fewEv o.plan && (decide (o.path.length ≤ 400) && decide (o.dest.length ≤ 400))
def fewOps (l : List Opn) : Bool := decide (l.length ≤ 100) && (l.all okOp && decide (l.foldl opW 0 ≤ 40000))
theorem opW_snoc {l : List Opn} {k : Nat} {e : Opn} (h : l[k]? = some e) : (l.take (k + 1)).foldl opW 0 = opW ((l.take k).foldl opW 0) e := by
  obtain ⟨hlt, rfl⟩ := (List.getElem?_eq_some_iff.1 h)
  rw [List.take_succ_eq_append_getElem hlt, List.foldl_append]
  rfl
theorem okOp_snoc {l : List Opn} {k : Nat} {e : Opn} (h : l[k]? = some e) (h0 : (l.take k).all okOp = true) (h1 : okOp e = true) : (l.take (k + 1)).all okOp = true := by
  obtain ⟨hlt, rfl⟩ := (List.getElem?_eq_some_iff.1 h)
  rw [List.take_succ_eq_append_getElem hlt]
  simp only [List.all_append, h0, List.all_cons, List.all_nil, Bool.and_true, Bool.true_and, h1]
theorem okOp_no {l : List Opn} {k : Nat} {e : Opn} (h : l[k]? = some e) (h1 : okOp e = false) : fewOps l = false := by
  have : l.all okOp = false := by
    rw [List.all_eq_false]
    exact ⟨e, List.mem_of_getElem? h, by simpa using h1⟩
  unfold fewOps
  rw [this]
  simp
theorem IsOpn.length {w : World} {cs : List Value} {o : Opn} (h : IsOpn w cs o) : cs.length = 8 ∧ cs.all (·.oneCell') = true := by
  obtain ⟨vd, vp, rfl, h1, h3⟩ := h
  obtain ⟨_, _, rfl, _⟩ := h1.bytes
  obtain ⟨_, ⟨_, _, rfl, _⟩, _⟩ := h3
  exact ⟨rfl, by simp [Value.oneCell']⟩
abbrev IsOps (w : World) (v : Value) (l : List Opn) : Prop := ReadO w (IsOpn w) v l
theorem ops_cells {w : World} {v : Value} {l : List Opn} (h : IsOps w v l) : ∃ a cap, v = .slice a l.length cap ∧ l.length ≤ cap ∧ l.length ≤ 140737488355328 ∧ cap ≤ 9223372036854775807 ∧
    ∀ (k : Nat) x, l[k]? = some x → ∃ b o cs, a = some ⟨b, o, none⟩ ∧ IsOpn w cs x ∧ ∀ j u, cs[j]? = some u → w.cell? ⟨b, o + k * 8 + j, none⟩ = some u :=
  readO_get 8 (fun c x hx => hx.length.1) (by omega) h

set_option maxRecDepth 100000 in
set_option maxHeartbeats 2000000 in
theorem fewOps_any {w0 w : World} {v : Value} {l : List Opn} (hx0 : Ext w0 w) (hv : IsOps w0 v l) :
    Calls Tryz.prog 53 #[v] w fun e w' => e = .returned (.bool (fewOps l)) ∧ Ext w w' := by
  obtain ⟨a, cap, rfl, h1, h2, h3, h4⟩ := ops_cells hv
  have H4 : Hid _ := h4
  have HX0 : Hid _ := hx0
  clear h4 hv hx0
  go_enter Tryz.func53, Tryz.ntmps53
  go_wp2
  go_loopw [3, 4] (fun n i wr => ∃ k m : Nat, Ext w wr ∧ k ≤ l.length ∧ k ≤ 100 ∧ i = .int .i64 k ∧ n = .int .i64 m ∧ m ≤ 160000 ∧ (l.take k).foldl opW 0 = m ∧ (l.take k).all okOp = true) (fun _ i _ => l.length - (intOf i).toNat)
  case atStart => exact ⟨0, 0, Ext.refl _, Nat.zero_le _, by omega, rfl, rfl, by omega, rfl, rfl⟩
  case round =>
    obtain ⟨k, m, hx, hk, hk6, rfl, rfl, hm, hfd, hal⟩ := hrel
    have HX : Hid _ := hx
    have HF : Hid _ := hfd
    have HA : Hid _ := hal
    clear hfd hal
    by_cases hlt : k < l.length
    · by_cases h60 : k < 100
      · obtain ⟨E, he⟩ : ∃ e, l[k]? = some e := ⟨_, List.getElem?_eq_getElem hlt⟩
        obtain ⟨b, o, cs, rfl, hop, hc⟩ := H4.out k E he
        obtain ⟨vd, vp, rfl, hd, hpl⟩ := hop
        obtain ⟨s1, s2, rfl, -⟩ := id hd.bytes
        obtain ⟨_, ⟨p1, p2, rfl, -⟩, -⟩ := id hpl
        have hxw := Ext.trans HX0.out hx
        have c4 := hxw.cell (hc 4 _ rfl)
        have c5 := hxw.cell (hc 5 _ rfl)
        have c6 := hxw.cell (hc 6 _ rfl)
        have c7 := hxw.cell (hc 7 _ rfl)
        have HPL : Hid _ := ReadO.dExt hpl hxw
        have HE : Hid _ := he
        have hdl := hd.bytes.len
        obtain ⟨d', hd'⟩ : ∃ d', min E.data.length 40000 = d' := ⟨_, rfl⟩
        obtain ⟨n', hn'⟩ : ∃ n', min (m + d') 160000 = n' := ⟨_, rfl⟩
        have hmd : min (E.data.length : Int) 40000 = (d' : Int) := by omega
        have hmn : min ((m : Int) + d') 160000 = (n' : Int) := by omega
        have hdl' : d' ≤ 40000 := by omega
        have hnl : n' ≤ 160000 := by omega
        have HN : Hid (opW m E = n') := by unfold Hid opW; rw [hd', hn']
        obtain ⟨fe, hfe⟩ : ∃ fe, fewEv E.plan = fe := ⟨_, rfl⟩
        have HFE : Hid _ := hfe
        clear hd he hd' hn' hc hpl hxw hfe
        go_wp2_with fail
        go_at_call 23
        refine (fewEvents_any HPL.out).mono ?_
        rw [HFE.out]
        rintro e w2 ⟨rfl, hx2⟩
        replace c4 := hx2.cell c4
        replace c5 := hx2.cell c5
        replace c6 := hx2.cell c6
        have hxr := hx.trans hx2
        cases fe with
        | false =>
          have HNO : Hid (fewOps l = false) := okOp_no HE.out (by unfold okOp; rw [HFE.out]; rfl)
          go_wp2
          go_ret
          exact ⟨ret_b HNO.out.symm, hxr⟩
        | true =>
          by_cases hp : (400 : Int) < (E.path.length : Int)
          · have HNO : Hid (fewOps l = false) := okOp_no HE.out (by unfold okOp; rw [decide_eq_false (by omega)]; simp)
            go_wp2
            go_ret
            exact ⟨ret_b HNO.out.symm, hxr⟩
          · by_cases hq : (400 : Int) < (E.dest.length : Int)
            · have HNO : Hid (fewOps l = false) := okOp_no HE.out (by unfold okOp; rw [decide_eq_false (p := E.dest.length ≤ 400) (by omega)]; simp)
              go_wp2
              go_ret
              exact ⟨ret_b HNO.out.symm, hxr⟩
            · have HOKE : Hid (okOp E = true) := by unfold Hid okOp; rw [HFE.out, decide_eq_true (by omega), decide_eq_true (by omega)]; rfl
              go_wp2
              go_roundw
              case rel => exact ⟨k + 1, n', hxr, by omega, by omega, by go_num, rfl, hnl, by rw [opW_snoc HE.out, HF.out, HN.out], okOp_snoc HE.out HA.out HOKE.out⟩
              case measure => simp [intOf]; omega
      · have hkk : k = 100 := by omega
        subst hkk
        have hl60 : ¬ (l.length : Int) ≤ 100 := by omega
        have HB : Hid (fewOps l = false) := by
          unfold Hid fewOps
          rw [decide_eq_false (by omega)]
          rfl
        go_wp2
        go_ret
        exact ⟨ret_b HB.out.symm, HX.out⟩
    · have hkk : k = l.length := by omega
      subst hkk
      have hfd := HF.out
      have hal := HA.out
      rw [List.take_length] at hfd hal
      have hl60 : (l.length : Int) ≤ 100 := by omega
      have HB : Hid (fewOps l = decide ((m : Int) ≤ 40000)) := by
        unfold Hid fewOps
        rw [decide_eq_true hk6, hal, hfd]
        simp only [Bool.true_and, decide_eq_decide]
        omega
      clear hfd hal
      go_wp2
      go_ret
      exact ⟨ret_b HB.out.symm, HX.out⟩
theorem few_ops {l : List Opn} (h : fewOps l = true) (hi : ∀ o ∈ l, I64 o.keep ∧ I64 o.torn ∧ ∀ e ∈ o.plan, I64 e.keep ∧ I64 e.torn) : l.length ≤ 100 ∧ ∀ o ∈ l, OpOk o := by
  unfold fewOps at h
  simp only [Bool.and_eq_true, decide_eq_true_eq, List.all_eq_true] at h
  refine ⟨h.1, fun o ho => ?_⟩
  have h2 := h.2.1 o ho
  unfold okOp fewEv at h2
  simp only [Bool.and_eq_true, decide_eq_true_eq, List.all_eq_true] at h2
  have h3 := hi o ho
  exact ⟨h2.2.1, h2.2.2, h2.1.1, fun e he => ⟨(h3.2.2 e he).1, (h3.2.2 e he).2, h2.1.2.1 e he⟩, h3.1, h3.2.1⟩

end Go.Proofs.YtfimfbdlegookaaGreatDoor

/-! marlaw8.few. Conditions: as each theorem states. -/
namespace Go.Proofs.YtfimfbdlegookaaGreatDoor
open Go Go.RowKit
set_option linter.unusedVariables false
set_option linter.unusedSimpArgs false
set_option linter.unusedSectionVars false
variable [Inhabited BaseW]

theorem info_opn : (Tryz.prog.info? 34).map (fun i => (i.zero, i.size, i.bytes)) = some (some (.agg #[.int .i64 0, .int .i64 0, .int .i64 0, .int .i64 0, S8 [], S8 [], .slice none 0 0, .slice none 0 0]), 8, 112) := by kernel_rfl
section
variable {ops : Array Oper} {rest : List Oper} {o : Oper} {a : Act} {Q : Exit → Act → World → Prop} {w : World}
/-- append of an operation that lies in a block known whole. -/
theorem app_opn (hgd : o.guard = none) (s x : Operand) (ho : o.op = .call { callee := .builtin .append, args := #[s, x], argTypes := #[108, 108] })
    (base : Nat) (v : Value) (n : Nat) (xs : List Value) (hs : a.eval s = v) (hown : w.ownsRow base 34 8 v n xs)
    (g c : Nat) (news : List Value) (hx : a.eval x = .slice (some ⟨g, 0, none⟩) 1 c) (hl : news.length = 8) {fr : Nat × Nat} (hg : w.heap[g]? = some (.cells news.toArray 34 fr)) (h1 : news.all (·.oneCell') = true)
    (hb : n ≤ 10000000) (hbase : base ≤ w.heap.size)
    (h : ∀ v' w', w'.ownsRow base 34 8 v' (n + 1) (xs ++ news) → w.grownBy w' v.ownBlock → wpList Tryz.prog ops Q rest (a.put o.dst v') w') : wpList Tryz.prog ops Q (o :: rest) a w := by
  obtain ⟨i0, hi, hz0, hz1, hz2⟩ := info_parts info_opn
  exact wpList_append_own_at w hgd s x _ ho base _ i0 _ 8 112 Tryz.underlying108 hi hz0 hz1 hz2 rfl (by omega) v n xs hs hown ⟨g, 0, none⟩ 1 c news hx (by simpa using hl) (by simpa using news_of_block hg) (fun u hu => List.all_eq_true.1 h1 u hu) (by unfold maxLen; omega) (by omega) hbase
    (fun v' w' h1 h2 _ h4 => h v' w' h1 h2)
end

theorem ops_read {w w0 : World} {b : Nat} {v : Value} {L : List Opn} {css : List (List Value)} (h : w.ownsRow b 34 8 v L.length css.flatten) (he : Each (IsOpn w0) css L) (hn : L.length ≤ 1000000) : ReadO w (IsOpn w0) v L :=
  ⟨css, Row.of_owns h (by omega), fun _ k hk => (h.lt k hk).2, he⟩
theorem IsOpn.ext {w w' : World} {cs : List Value} {o : Opn} (h : IsOpn w cs o) (hx : Ext w w') : IsOpn w' cs o := by
  obtain ⟨vd, vp, rfl, h1, h2⟩ := h
  exact ⟨vd, vp, rfl, h1, h2.dExt hx⟩
theorem IsOps.ext {w w' : World} {v : Value} {l : List Opn} (h : IsOps w v l) (hx : Ext w w') : IsOps w' v l :=
  (h.stay hx.size (fun hn k hk => hx.block k (h.lt hn k hk))).mono (fun c x hc => hc.ext hx)

/-- marlaw8's operations. -/
structure Rop where
  kind : Int
  name : B8
  old : B8
  next : B8
  f : Opn
def IsRop (w : World) (cs : List Value) (o : Rop) : Prop := ∃ fs, cs = .int .i64 o.kind :: S8 o.name :: S8 o.old :: S8 o.next :: fs ∧ IsOpn w fs o.f
theorem IsRop.length {w : World} {cs : List Value} {o : Rop} (h : IsRop w cs o) : cs.length = 12 := by
  obtain ⟨fs, rfl, h⟩ := h
  simp [(h.length).1]
abbrev IsRops (w : World) (v : Value) (l : List Rop) : Prop := ReadO w (IsRop w) v l
theorem rops_cells {w : World} {v : Value} {l : List Rop} (h : IsRops w v l) : ∃ a cap, v = .slice a l.length cap ∧ l.length ≤ cap ∧ l.length ≤ 140737488355328 ∧ cap ≤ 9223372036854775807 ∧
    ∀ (k : Nat) x, l[k]? = some x → ∃ b o cs, a = some ⟨b, o, none⟩ ∧ IsRop w cs x ∧ ∀ j u, cs[j]? = some u → w.cell? ⟨b, o + k * 12 + j, none⟩ = some u :=
  readO_get 12 (fun c x hx => hx.length) (by omega) h
def okN (o : Rop) : Bool := decide (o.name.length ≤ 400) && (decide (o.old.length ≤ 400) && decide (o.next.length ≤ 400))
def fewR (l : List Rop) : Bool := (l.take 60).all okN && (decide (l.length ≤ 60) && fewOps (l.map Rop.f))
theorem take_snocN {α : Type} {l : List α} {k : Nat} {e : α} (h : l[k]? = some e) : l.take (k + 1) = l.take k ++ [e] := by rw [List.take_add_one, h]; rfl

theorem fewR_no {l : List Rop} {k : Nat} {e : Rop} (h : l[k]? = some e) (hk : k < 60) (hn : okN e = false) : fewR l = false := by
  have h1 : e ∈ l.take 60 := List.mem_of_getElem? (i := k) (by rw [List.getElem?_take, if_pos hk]; exact h)
  have h2 : (l.take 60).all okN = false := by
    rw [List.all_eq_false]
    exact ⟨e, h1, by rw [hn]; simp⟩
  unfold fewR
  rw [h2]
  rfl

set_option maxRecDepth 100000 in
set_option maxHeartbeats 2000000 in
theorem fewR_any {w0 w : World} {v : Value} {l : List Rop} (hx0 : Ext w0 w) (hv : IsRops w0 v l) :
    Calls Tryz.prog 12 #[v] w fun e w' => e = .returned (.bool (fewR l)) ∧ Ext w w' := by
  obtain ⟨a, cap, rfl, h1, h2, h3, h4⟩ := rops_cells hv
  have H4 : Hid _ := h4
  have HX0 : Hid (Ext w0 w) := hx0
  clear h4 hv hx0
  go_enter Tryz.func12, Tryz.ntmps12
  go_wp2
  go_loopw [3, 4] (fun v i wr => ∃ (k : Nat) (css : List (List Value)), k ≤ l.length ∧ k ≤ 60 ∧ i = .int .i64 k ∧ (l.take k).all okN = true ∧ wr.ownsRow w.heap.size 34 8 v k css.flatten ∧ Each (IsOpn w0) css ((l.take k).map Rop.f) ∧ Ext w wr) (fun _ i _ => l.length - (intOf i).toNat)
  case atStart => exact ⟨0, [], Nat.zero_le _, by omega, rfl, rfl, World.ownsRow_nil _ _ _ _, Each.nil _, Ext.refl _⟩
  case round =>
    obtain ⟨k, css, hk, hk6, rfl, hal, hown, heach, hx⟩ := hrel
    have HEA : Hid (Each (IsOpn w0) css ((l.take k).map Rop.f)) := heach
    have HA : Hid _ := hal
    clear heach hal
    have HX : Hid (Ext w wr) := hx
    by_cases hlt : k < l.length
    · by_cases h60 : k < 60
      · obtain ⟨e, hke⟩ : ∃ e, l[k]? = some e := ⟨_, List.getElem?_eq_getElem hlt⟩
        obtain ⟨b, o, cs, rfl, ⟨fs, rfl, hop⟩, hc⟩ := H4.out k e hke
        have HOP : Hid (IsOpn w0 fs e.f) := hop
        obtain ⟨vd, vp, rfl, hd, hpl⟩ := id hop
        obtain ⟨d1, d2, rfl, -⟩ := id hd.bytes
        obtain ⟨_, ⟨p1, p2, rfl, -⟩, -⟩ := id hpl
        have HSN : Hid _ := take_snocN hke
        have hxw := Ext.trans HX0.out hx
        have c1 := hxw.cell (hc 1 _ rfl)
        have c2 := hxw.cell (hc 2 _ rfl)
        have c3 := hxw.cell (hc 3 _ rfl)
        have c4 := hxw.cell (hc 4 _ rfl)
        have c5 := hxw.cell (hc 5 _ rfl)
        have c6 := hxw.cell (hc 6 _ rfl)
        have c7 := hxw.cell (hc 7 _ rfl)
        have c8 := hxw.cell (hc 8 _ rfl)
        have c9 := hxw.cell (hc 9 _ rfl)
        have c10 := hxw.cell (hc 10 _ rfl)
        have c11 := hxw.cell (hc 11 _ rfl)
        have hsz := hx.size
        have HKE : Hid _ := hke
        clear hop hd hpl hc hke hxw
        by_cases n1 : e.name.length ≤ 400
        · by_cases n2 : e.old.length ≤ 400
          · by_cases n3 : e.next.length ≤ 400
            · have HC : Hid (okN e = true) := by unfold Hid okN; simp [n1, n2, n3]
              go_wp2_with (at_builtin; go_must (refine app_opn rfl _ _ rfl w.heap.size _ k _ rfl (hown.alloc _) wr.heap.size 1 [.int .i64 e.f.kind, .int .i64 e.f.mode, .int .i64 e.f.keep, .int .i64 e.f.torn, S8 e.f.path, S8 e.f.dest, .slice d1 e.f.data.length d2, .slice p1 e.f.plan.length p2] rfl rfl (alloc_at _ _) (by simp [Value.oneCell']) (by omega) (by simp; omega) ?_; intro v' w3 hown3 hg3))
              go_roundw
              case rel =>
                refine ⟨k + 1, css ++ [[.int .i64 e.f.kind, .int .i64 e.f.mode, .int .i64 e.f.keep, .int .i64 e.f.torn, S8 e.f.path, S8 e.f.dest, .slice d1 e.f.data.length d2, .slice p1 e.f.plan.length p2]], by omega, by omega, by go_num, ?_, ?_, ?_, owns_ext_app (hx.alloc _) (hown.alloc _) hg3⟩
                · rw [HSN.out, List.all_append, HA.out]; simpa using HC.out
                · rw [List.flatten_append]
                  simpa using hown3
                · rw [HSN.out, List.map_append]; exact Each.snoc HEA.out HOP.out
              case measure => simp [intOf]; omega
            · have hno : fewR l = false := fewR_no HKE.out h60 (by unfold okN; simp [n3])
              have HNO : Hid _ := hno
              clear hno
              go_wp2
              go_ret
              exact ⟨by rw [HNO.out]; rfl, hx⟩
          · have hno : fewR l = false := fewR_no HKE.out h60 (by unfold okN; simp [n2])
            have HNO : Hid _ := hno
            clear hno
            go_wp2
            go_ret
            exact ⟨by rw [HNO.out]; rfl, hx⟩
        · have hno : fewR l = false := fewR_no HKE.out h60 (by unfold okN; simp [n1])
          have HNO : Hid _ := hno
          clear hno
          go_wp2
          go_ret
          exact ⟨by rw [HNO.out]; rfl, hx⟩
      · have hk60 : k = 60 := by omega
        subst hk60
        by_cases hl : l.length ≤ 60
        · omega
        · have hno : fewR l = false := by unfold fewR; simp [hl]
          have HNO : Hid _ := hno
          clear hno
          go_wp2
          go_ret
          exact ⟨by rw [HNO.out]; rfl, hx⟩
    · have hkl : k = l.length := by omega
      subst hkl
      have hops : IsOps wr u3 (l.map Rop.f) := by
        have h9 := HEA.out
        rw [List.take_of_length_le (Nat.le_refl _)] at h9
        exact ops_read (by rw [List.length_map]; exact hown) (h9.imp (fun c x hc => hc.ext (HX0.out.trans HX.out))) (by rw [List.length_map]; omega)
      have HOPS : Hid (IsOps wr u3 (l.map Rop.f)) := hops
      have hres : fewR l = fewOps (l.map Rop.f) := by
        have h9 := HA.out
        rw [List.take_of_length_le (Nat.le_refl _)] at h9
        unfold fewR
        rw [List.take_of_length_le hk6, h9, decide_eq_true hk6]
        rfl
      have HRES : Hid _ := hres
      clear hops hres
      go_wp2_with (go_at_call 53; go_must (refine (fewOps_any (Ext.refl wr) HOPS.out).mono ?_; rintro e w5 ⟨rfl, hx5⟩))
      all_goals (go_ret; exact ⟨by rw [HRES.out]; rfl, hx.trans hx5⟩)

end Go.Proofs.YtfimfbdlegookaaGreatDoor

/-! marlaw8.RefsExpect. Conditions: as each theorem states. -/
namespace Go.Proofs.YtfimfbdlegookaaGreatDoor
open Go Go.RowKit
set_option linter.unusedVariables false
set_option linter.unusedSimpArgs false
set_option linter.unusedSectionVars false
variable [Inhabited BaseW]

theorem fewR_yes {l : List Rop} {k : Nat} {e : Rop} (h : fewR l = true) (hk : l[k]? = some e) (hlt : k < 60) : okN e = true := by
  cases hn : okN e with
  | true => rfl
  | false => rw [fewR_no hk hlt hn] at h; cases h
theorem okN_get {e : Rop} (h : okN e = true) : e.name.length ≤ 400 ∧ e.old.length ≤ 400 ∧ e.next.length ≤ 400 := by
  unfold okN at h
  simpa using h

theorem flag_any (x : Bool) (w : World) : Calls Tryz.prog 20 #[.bool x] w fun e w' => e = .returned (.int .i64 (if x then 1 else 0)) ∧ w' = w := by
  cases x
  · go_enter Tryz.func20, Tryz.ntmps20
    go_wp2
    go_ret
    exact ⟨rfl, rfl⟩
  · go_enter Tryz.func20, Tryz.ntmps20
    go_wp2
    go_ret
    exact ⟨rfl, rfl⟩

theorem flag_0 (w : World) : Calls Tryz.prog 20 #[.bool false] w fun e w' => e = .returned (.int .i64 0) ∧ w' = w := flag_any false w
theorem flag_1 (w : World) : Calls Tryz.prog 20 #[.bool true] w fun e w' => e = .returned (.int .i64 1) ∧ w' = w := flag_any true w

set_option maxRecDepth 100000 in
set_option maxHeartbeats 8000000 in
theorem expect_any8 (v : Value) (l : List Rop) (w : World) (hE : Env w) (hS : EnvS w) (hv : IsRops w v l) :
    Calls Tryz.prog 4 #[v] w fun e w' => e = .returned (.bool true) ∧ Ext w w' := by
  obtain ⟨a, cap, rfl, h1, h2, h3, h4⟩ := rops_cells hv
  have H4 : Hid _ := h4
  have HV : Hid (IsRops w (.slice a l.length cap) l) := hv
  have HE : Hid (Env w) := hE
  have HS : Hid (EnvS w) := hS
  clear h4 hv hE hS
  go_enter Tryz.func4, Tryz.ntmps4
  go_wp2_with fail
  go_at_call 10
  refine (first8_any w HE.out HS.out).mono ?_
  rintro e w1 ⟨rfl, hx1⟩
  have HX1 : Hid (Ext w w1) := hx1
  clear hx1
  go_wp2_with fail
  go_at_call 11
  refine (new_yes 1048576 _ (by omega) (by omega)).mono ?_
  rintro e w2 ⟨⟨p, rfl, hf⟩, hx2⟩
  have H2 : Hid (One w1 (fun _ => False) (Nu w1 w2) w2 p (newM 1048576)) := One.new hf hx2
  obtain ⟨g, rfl⟩ : ∃ g, p = .pointer (some ⟨g, 0, none⟩) := by
    obtain ⟨g, gm, gd, vp, vl, vu, L, c0, hpe, -⟩ := hf
    exact ⟨g, hpe⟩
  have HX2 : Hid (Ext w w2) := HX1.out.trans hx2
  clear hf hx2
  by_cases ha : (30 : Int) < (l.length : Int)
  · go_wp2_with fail
    go_at_call 10
    refine (first8_any w2 (HE.out.ext HX2.out) (HS.out.ext HX2.out)).mono ?_
    rintro e w3 ⟨rfl, hx3⟩
    go_wp2
    go_ret
    exact ⟨rfl, HX2.out.trans hx3⟩
  obtain ⟨fw, hfw⟩ : ∃ b, fewR l = b := ⟨_, rfl⟩
  have HFW : Hid _ := hfw
  clear hfw
  go_wp2_with fail
  go_at_call 12
  refine (fewR_any HX2.out HV.out).mono ?_
  rw [HFW.out]
  rintro e w3 ⟨rfl, hx3⟩
  have HX3 : Hid (Ext w w3) := HX2.out.trans hx3
  have H3 : Hid (One w1 (fun _ => False) (Nu w1 w2) w3 (.pointer (some ⟨g, 0, none⟩)) (newM 1048576)) := One.more H2.out hx3
  clear hx3
  cases fw with
  | false =>
    go_wp2_with fail
    go_at_call 10
    refine (first8_any w3 (HE.out.ext HX3.out) (HS.out.ext HX3.out)).mono ?_
    rintro e w4 ⟨rfl, hx4⟩
    go_wp2
    go_ret
    exact ⟨rfl, HX3.out.trans hx4⟩
  | true =>
    have hl30 : l.length ≤ 30 := by omega
    have hgn : Good 0 (newM 1048576) := good_new (by omega) (by omega)
    have hen : Ex (newM 1048576) [] := ⟨rfl, rfl, by decide, .inl ⟨rfl, rfl⟩⟩
    go_wp2_with fail
    go_loopw [5, 6] (fun nv i wr => ∃ (k : Nat) (m : Fs) (cur : B8) (O : Nat → Prop), k ≤ l.length ∧ i = .int .i64 k ∧ nv = S8 cur ∧ One w1 (fun _ => False) O wr (.pointer (some ⟨g, 0, none⟩)) m ∧ Ex m cur ∧ Good (20 * k) m) (fun _ i _ => l.length - (intOf i).toNat)
    case atStart => exact ⟨0, newM 1048576, [], _, Nat.zero_le _, rfl, rfl, H3.out, hen, hgn⟩
    case round =>
      obtain ⟨k, m, cur, O, hk, rfl, rfl, hOne, hEx, hGood⟩ := hrel
      have HO : Hid (One w1 (fun _ => False) O wr (.pointer (some ⟨g, 0, none⟩)) m) := hOne
      have HEX : Hid (Ex m cur) := hEx
      have HGD : Hid (Good (20 * k) m) := hGood
      have HXR : Hid (Ext w wr) := HX1.out.trans hOne.ext
      clear hOne hEx hGood
      by_cases hlt : k < l.length
      · obtain ⟨e, hke⟩ : ∃ e, l[k]? = some e := ⟨_, List.getElem?_eq_getElem hlt⟩
        obtain ⟨b, o, cs, rfl, ⟨fs, rfl, hop⟩, hc⟩ := H4.out k e hke
        obtain ⟨vd, vp, rfl, hd, hpl⟩ := hop
        obtain ⟨d1, d2, rfl, -⟩ := id hd.bytes
        obtain ⟨_, ⟨p1, p2, rfl, -⟩, -⟩ := id hpl
        have c0 := HXR.out.cell (hc 0 _ rfl)
        have c1 := HXR.out.cell (hc 1 _ rfl)
        have c2 := HXR.out.cell (hc 2 _ rfl)
        have c3 := HXR.out.cell (hc 3 _ rfl)
        have c4 := HXR.out.cell (hc 4 _ rfl)
        have c5 := HXR.out.cell (hc 5 _ rfl)
        have c6 := HXR.out.cell (hc 6 _ rfl)
        have c7 := HXR.out.cell (hc 7 _ rfl)
        have c8 := HXR.out.cell (hc 8 _ rfl)
        have c9 := HXR.out.cell (hc 9 _ rfl)
        have c10 := HXR.out.cell (hc 10 _ rfl)
        have c11 := HXR.out.cell (hc 11 _ rfl)
        simp only [Nat.add_zero] at c0
        have HKE : Hid _ := hke
        clear hd hpl hc hke
        go_upto_region 11 with fail
        obtain ⟨wa, hwa⟩ : ∃ wa, wa = wr.alloc (.cells #[.int .i64 e.kind, S8 e.name, S8 e.old, S8 e.next, .int .i64 e.f.kind, .int .i64 e.f.mode, .int .i64 e.f.keep, .int .i64 e.f.torn, S8 e.f.path, S8 e.f.dest, .slice d1 e.f.data.length d2, .slice p1 e.f.plan.length p2] 36) := ⟨_, rfl⟩
        have hxa : Ext wr wa := by rw [hwa]; exact (Ext.refl _).alloc _
        have hga : wa.heap[wr.heap.size]? = some (.cells #[.int .i64 e.kind, S8 e.name, S8 e.old, S8 e.next, .int .i64 e.f.kind, .int .i64 e.f.mode, .int .i64 e.f.keep, .int .i64 e.f.torn, S8 e.f.path, S8 e.f.dest, .slice d1 e.f.data.length d2, .slice p1 e.f.plan.length p2] 36 (0, 0)) := by rw [hwa]; exact alloc_at _ _
        have HWA : Hid _ := hwa
        have HA : Hid (One w1 (fun _ => False) O wa (.pointer (some ⟨g, 0, none⟩)) m) := One.more HO.out hxa
        have HNO : Hid (¬ O wr.heap.size) := fun ho => by have := HO.out.lo _ ho; omega
        have q0 : wa.cell? ⟨wr.heap.size, 0, none⟩ = some (.int .i64 e.kind) := (cell_of_row _ _ 0 _ _ _ hga).trans rfl
        have q2 : wa.cell? ⟨wr.heap.size, 2, none⟩ = some (S8 e.old) := (cell_of_row _ _ 2 _ _ _ hga).trans rfl
        have q3 : wa.cell? ⟨wr.heap.size, 3, none⟩ = some (S8 e.next) := (cell_of_row _ _ 3 _ _ _ hga).trans rfl
        have HGA : Hid _ := hga
        clear hwa hxa hga c0 c1 c2 c3 c4 c5 c6 c7 c8 c9 c10 c11
        rw [show wr.alloc (.cells #[.int .i64 e.kind, S8 e.name, S8 e.old, S8 e.next, .int .i64 e.f.kind, .int .i64 e.f.mode, .int .i64 e.f.keep, .int .i64 e.f.torn, S8 e.f.path, S8 e.f.dest, .slice d1 e.f.data.length d2, .slice p1 e.f.plan.length p2] 36) = wa from HWA.out.symm]
        have hokn : okN e = true := fewR_yes HFW.out HKE.out (by omega)
        obtain ⟨-, hol, hnl⟩ := okN_get hokn
        have HE1 : Hid (Env w1) := HE.out.ext HX1.out
        clear hokn
        by_cases k1 : e.kind = 1
        · have hk1 : (e.kind == 1) = true := by simpa using k1
          clear k1
          obtain ⟨vb, hvb⟩ : ∃ vb, validB e.next = vb := ⟨_, rfl⟩
          have HVB : Hid _ := hvb
          clear hvb
          go_wp2_with fail
          go_at_call 14
          refine (valid_any e.next wa (by omega)).mono ?_
          rw [HVB.out]
          rintro e9 wb ⟨rfl, hxb⟩
          have q2b := hxb.cell q2
          have q3b := hxb.cell q3
          have HOB : Hid (One w1 (fun _ => False) O wb (.pointer (some ⟨g, 0, none⟩)) m) := One.more HA.out hxb
          have HGB : Hid _ := Ext.row hxb HGA.out
          obtain ⟨bo, hbo⟩ : ∃ bo, (e.old == cur) = bo := ⟨_, rfl⟩
          obtain ⟨hs1, hs2⟩ := ex_set HEX.out e.old e.next
          obtain ⟨rs, hrs⟩ : ∃ rs, (setM m headB e.old e.next).2 = rs := ⟨_, rfl⟩
          have HRS : Hid _ := hrs
          rw [hrs, HVB.out] at hs1
          rw [HVB.out] at hs2
          clear hxb hrs
          have HG2 : Hid (Good (20 * k + 6) (setM m headB e.old e.next).1) := good_set HGD.out headB e.old e.next
          cases vb with
          | false =>
            have hr0 : (rs == 0) = false := by exact beq_eq_false_iff_ne.2 (fun h => by have h9 := hs1.1 h; simp at h9)
            have HEX2 : Hid (Ex (setM m headB e.old e.next).1 cur) := by unfold Hid; simpa using hs2
            clear hs1 hs2
            go_wp2_with fail
            go_at_call 15
            refine (set_any headB e.old e.next (One.fin HOB.out HE1.out HGD.out (by omega)) HGD.out (by omega) (by decide) (by omega) (by omega)).mono ?_
            rw [HRS.out]
            rintro e9 wc ⟨rfl, hpc⟩
            have HOP2 : Hid (One w1 (fun _ => False) _ wc (.pointer (some ⟨g, 0, none⟩)) (setM m headB e.old e.next).1) := One.post HOB.out hpc
            have hgc := hpc.row HGB.out HNO.out
            have q2c : wc.cell? ⟨wr.heap.size, 2, none⟩ = some (S8 e.old) := (cell_of_row _ _ 2 _ _ _ hgc).trans rfl
            have q3c : wc.cell? ⟨wr.heap.size, 3, none⟩ = some (S8 e.next) := (cell_of_row _ _ 3 _ _ _ hgc).trans rfl
            clear hpc hgc
            obtain ⟨mc, hmc⟩ : ∃ mc, (setM m headB e.old e.next).1 = mc := ⟨_, rfl⟩
            obtain ⟨cc, hcc0⟩ : ∃ cc, cur = cc := ⟨_, rfl⟩
            have HOC : Hid (One w1 (fun _ => False) (Nw O wb wc) wc (.pointer (some ⟨g, 0, none⟩)) mc) := by rw [← hmc]; exact HOP2.out
            have HEXC : Hid (Ex mc cc) := by rw [← hmc, ← hcc0]; exact HEX2.out
            have HGC : Hid (Good (20 * k + 6) mc) := by rw [← hmc]; exact HG2.out
            rw [hcc0]
            clear hmc hcc0
            go_wp2_with fail
            go_at_call 18
            obtain ⟨hge1, hge2, hge3⟩ := ex_get HEXC.out
            refine (get_any headB (One.fin HOC.out HE1.out HGC.out (by omega)) (by decide)).mono ?_
            rw [hge2]
            obtain ⟨er, her⟩ : ∃ er, (getM mc headB).2.2 = er := ⟨_, rfl⟩
            rw [her] at hge3 ⊢
            have HGG : Hid (Good (20 * k + 7) (getM mc headB).1) := good_get HGC.out headB
            have HEXG : Hid (Ex (getM mc headB).1 cc) := hge1
            generalize (getM mc headB).1 = mg at *
            rintro e9 wg ⟨rfl, hpg⟩
            have HOG : Hid (One w1 (fun _ => False) _ wg (.pointer (some ⟨g, 0, none⟩)) mg) := One.post HOC.out hpg
            clear hpg hge1 hge2 her
            go_wp2_with fail
            go_at_call 22
            obtain ⟨hli1, hli2, hli3⟩ := ex_list HEXG.out
            refine (refs_any (One.fin HOG.out HE1.out HGG.out (by omega))).mono ?_
            rw [hli2]
            have HGL : Hid (Good (20 * k + 8) (refsM mg).1) := good_list HGG.out placeD
            have HEXL : Hid (Ex (refsM mg).1 cc) := hli1
            generalize (refsM mg).1 = ml at *
            rintro e9 wl ⟨⟨vl, rfl, hvl⟩, hpl⟩
            have HOL : Hid (One w1 (fun _ => False) _ wl (.pointer (some ⟨g, 0, none⟩)) ml) := One.post HOG.out hpl
            obtain ⟨la, lc, rfl, -⟩ := hvl.get
            generalize (refsM mg).2.1.length = ln at *
            clear hpl hvl hli1 hli2
            by_cases hcc : cc = []
            · have f2 : (er == 0) = false := by simp [hge3, hcc]
              rw [if_neg (by simpa using hcc)] at hli3
              subst hli3
              subst hcc
              clear hge3
              go_wp2_with (go_at_call 20; go_must (refine (flag_0 _).mono ?_; rintro e9 w9 ⟨rfl, rfl⟩))
              go_roundw
              case rel => exact ⟨k + 1, ml, [], _, by omega, by go_num, rfl, HOL.out, HEXL.out, HGL.out.mono (by omega)⟩
              case measure => simp [intOf]; omega
            · have f1 : cc.isEmpty = false := by cases cc with
                | nil => exact absurd rfl hcc
                | cons x y => rfl
              have f2 : (er == 0) = true := by simp [hge3, hcc]
              rw [if_pos hcc] at hli3
              subst hli3
              clear hge3 hcc
              go_wp2_with (go_at_call 20; go_must (refine (flag_1 _).mono ?_; rintro e9 w9 ⟨rfl, rfl⟩))
              go_roundw
              case rel => exact ⟨k + 1, ml, cc, _, by omega, by go_num, rfl, HOL.out, HEXL.out, HGL.out.mono (by omega)⟩
              case measure => simp [intOf]; omega
          | true =>
            cases bo with
            | false =>
              have hr0 : (rs == 0) = false := by exact beq_eq_false_iff_ne.2 (fun h => by have h9 := (hs1.1 h).2; simp [h9] at hbo)
              have HEX2 : Hid (Ex (setM m headB e.old e.next).1 cur) := by rw [if_neg (fun h => by simp [h.2] at hbo)] at hs2; exact hs2
              clear hs1 hs2
              go_wp2_with fail
              go_at_call 15
              refine (set_any headB e.old e.next (One.fin HOB.out HE1.out HGD.out (by omega)) HGD.out (by omega) (by decide) (by omega) (by omega)).mono ?_
              rw [HRS.out]
              rintro e9 wc ⟨rfl, hpc⟩
              have HOP2 : Hid (One w1 (fun _ => False) _ wc (.pointer (some ⟨g, 0, none⟩)) (setM m headB e.old e.next).1) := One.post HOB.out hpc
              have hgc := hpc.row HGB.out HNO.out
              have q2c : wc.cell? ⟨wr.heap.size, 2, none⟩ = some (S8 e.old) := (cell_of_row _ _ 2 _ _ _ hgc).trans rfl
              have q3c : wc.cell? ⟨wr.heap.size, 3, none⟩ = some (S8 e.next) := (cell_of_row _ _ 3 _ _ _ hgc).trans rfl
              clear hpc hgc
              obtain ⟨mc, hmc⟩ : ∃ mc, (setM m headB e.old e.next).1 = mc := ⟨_, rfl⟩
              obtain ⟨cc, hcc0⟩ : ∃ cc, cur = cc := ⟨_, rfl⟩
              have HOC : Hid (One w1 (fun _ => False) (Nw O wb wc) wc (.pointer (some ⟨g, 0, none⟩)) mc) := by rw [← hmc]; exact HOP2.out
              have HEXC : Hid (Ex mc cc) := by rw [← hmc, ← hcc0]; exact HEX2.out
              have HGC : Hid (Good (20 * k + 6) mc) := by rw [← hmc]; exact HG2.out
              rw [hcc0]
              clear hmc hcc0
              go_wp2_with fail
              go_at_call 18
              obtain ⟨hge1, hge2, hge3⟩ := ex_get HEXC.out
              refine (get_any headB (One.fin HOC.out HE1.out HGC.out (by omega)) (by decide)).mono ?_
              rw [hge2]
              obtain ⟨er, her⟩ : ∃ er, (getM mc headB).2.2 = er := ⟨_, rfl⟩
              rw [her] at hge3 ⊢
              have HGG : Hid (Good (20 * k + 7) (getM mc headB).1) := good_get HGC.out headB
              have HEXG : Hid (Ex (getM mc headB).1 cc) := hge1
              generalize (getM mc headB).1 = mg at *
              rintro e9 wg ⟨rfl, hpg⟩
              have HOG : Hid (One w1 (fun _ => False) _ wg (.pointer (some ⟨g, 0, none⟩)) mg) := One.post HOC.out hpg
              clear hpg hge1 hge2 her
              go_wp2_with fail
              go_at_call 22
              obtain ⟨hli1, hli2, hli3⟩ := ex_list HEXG.out
              refine (refs_any (One.fin HOG.out HE1.out HGG.out (by omega))).mono ?_
              rw [hli2]
              have HGL : Hid (Good (20 * k + 8) (refsM mg).1) := good_list HGG.out placeD
              have HEXL : Hid (Ex (refsM mg).1 cc) := hli1
              generalize (refsM mg).1 = ml at *
              rintro e9 wl ⟨⟨vl, rfl, hvl⟩, hpl⟩
              have HOL : Hid (One w1 (fun _ => False) _ wl (.pointer (some ⟨g, 0, none⟩)) ml) := One.post HOG.out hpl
              obtain ⟨la, lc, rfl, -⟩ := hvl.get
              generalize (refsM mg).2.1.length = ln at *
              clear hpl hvl hli1 hli2
              by_cases hcc : cc = []
              · have f2 : (er == 0) = false := by simp [hge3, hcc]
                rw [if_neg (by simpa using hcc)] at hli3
                subst hli3
                subst hcc
                clear hge3
                go_wp2_with (go_at_call 20; go_must (refine (flag_0 _).mono ?_; rintro e9 w9 ⟨rfl, rfl⟩))
                go_roundw
                case rel => exact ⟨k + 1, ml, [], _, by omega, by go_num, rfl, HOL.out, HEXL.out, HGL.out.mono (by omega)⟩
                case measure => simp [intOf]; omega
              · have f1 : cc.isEmpty = false := by cases cc with
                  | nil => exact absurd rfl hcc
                  | cons x y => rfl
                have f2 : (er == 0) = true := by simp [hge3, hcc]
                rw [if_pos hcc] at hli3
                subst hli3
                clear hge3 hcc
                go_wp2_with (go_at_call 20; go_must (refine (flag_1 _).mono ?_; rintro e9 w9 ⟨rfl, rfl⟩))
                go_roundw
                case rel => exact ⟨k + 1, ml, cc, _, by omega, by go_num, rfl, HOL.out, HEXL.out, HGL.out.mono (by omega)⟩
                case measure => simp [intOf]; omega
            | true =>
              have hr0 : (rs == 0) = true := by simpa using hs1.2 ⟨rfl, by simpa using hbo⟩
              have HEX2 : Hid (Ex (setM m headB e.old e.next).1 e.next) := by rw [if_pos ⟨rfl, by simpa using hbo⟩] at hs2; exact hs2
              clear hs1 hs2
              go_wp2_with fail
              go_at_call 15
              refine (set_any headB e.old e.next (One.fin HOB.out HE1.out HGD.out (by omega)) HGD.out (by omega) (by decide) (by omega) (by omega)).mono ?_
              rw [HRS.out]
              rintro e9 wc ⟨rfl, hpc⟩
              have HOP2 : Hid (One w1 (fun _ => False) _ wc (.pointer (some ⟨g, 0, none⟩)) (setM m headB e.old e.next).1) := One.post HOB.out hpc
              have hgc := hpc.row HGB.out HNO.out
              have q2c : wc.cell? ⟨wr.heap.size, 2, none⟩ = some (S8 e.old) := (cell_of_row _ _ 2 _ _ _ hgc).trans rfl
              have q3c : wc.cell? ⟨wr.heap.size, 3, none⟩ = some (S8 e.next) := (cell_of_row _ _ 3 _ _ _ hgc).trans rfl
              clear hpc hgc
              obtain ⟨mc, hmc⟩ : ∃ mc, (setM m headB e.old e.next).1 = mc := ⟨_, rfl⟩
              obtain ⟨cc, hcc0⟩ : ∃ cc, e.next = cc := ⟨_, rfl⟩
              have HOC : Hid (One w1 (fun _ => False) (Nw O wb wc) wc (.pointer (some ⟨g, 0, none⟩)) mc) := by rw [← hmc]; exact HOP2.out
              have HEXC : Hid (Ex mc cc) := by rw [← hmc, ← hcc0]; exact HEX2.out
              have HGC : Hid (Good (20 * k + 6) mc) := by rw [← hmc]; exact HG2.out
              rw [hcc0] at q3c ⊢
              clear hmc hcc0
              go_wp2_with fail
              go_at_call 18
              obtain ⟨hge1, hge2, hge3⟩ := ex_get HEXC.out
              refine (get_any headB (One.fin HOC.out HE1.out HGC.out (by omega)) (by decide)).mono ?_
              rw [hge2]
              obtain ⟨er, her⟩ : ∃ er, (getM mc headB).2.2 = er := ⟨_, rfl⟩
              rw [her] at hge3 ⊢
              have HGG : Hid (Good (20 * k + 7) (getM mc headB).1) := good_get HGC.out headB
              have HEXG : Hid (Ex (getM mc headB).1 cc) := hge1
              generalize (getM mc headB).1 = mg at *
              rintro e9 wg ⟨rfl, hpg⟩
              have HOG : Hid (One w1 (fun _ => False) _ wg (.pointer (some ⟨g, 0, none⟩)) mg) := One.post HOC.out hpg
              clear hpg hge1 hge2 her
              go_wp2_with fail
              go_at_call 22
              obtain ⟨hli1, hli2, hli3⟩ := ex_list HEXG.out
              refine (refs_any (One.fin HOG.out HE1.out HGG.out (by omega))).mono ?_
              rw [hli2]
              have HGL : Hid (Good (20 * k + 8) (refsM mg).1) := good_list HGG.out placeD
              have HEXL : Hid (Ex (refsM mg).1 cc) := hli1
              generalize (refsM mg).1 = ml at *
              rintro e9 wl ⟨⟨vl, rfl, hvl⟩, hpl⟩
              have HOL : Hid (One w1 (fun _ => False) _ wl (.pointer (some ⟨g, 0, none⟩)) ml) := One.post HOG.out hpl
              obtain ⟨la, lc, rfl, -⟩ := hvl.get
              generalize (refsM mg).2.1.length = ln at *
              clear hpl hvl hli1 hli2
              by_cases hcc : cc = []
              · have f2 : (er == 0) = false := by simp [hge3, hcc]
                rw [if_neg (by simpa using hcc)] at hli3
                subst hli3
                subst hcc
                clear hge3
                go_wp2_with (go_at_call 20; go_must (refine (flag_0 _).mono ?_; rintro e9 w9 ⟨rfl, rfl⟩))
                go_roundw
                case rel => exact ⟨k + 1, ml, [], _, by omega, by go_num, rfl, HOL.out, HEXL.out, HGL.out.mono (by omega)⟩
                case measure => simp [intOf]; omega
              · have f1 : cc.isEmpty = false := by cases cc with
                  | nil => exact absurd rfl hcc
                  | cons x y => rfl
                have f2 : (er == 0) = true := by simp [hge3, hcc]
                rw [if_pos hcc] at hli3
                subst hli3
                clear hge3 hcc
                go_wp2_with (go_at_call 20; go_must (refine (flag_1 _).mono ?_; rintro e9 w9 ⟨rfl, rfl⟩))
                go_roundw
                case rel => exact ⟨k + 1, ml, cc, _, by omega, by go_num, rfl, HOL.out, HEXL.out, HGL.out.mono (by omega)⟩
                case measure => simp [intOf]; omega
        · by_cases k2 : e.kind = 2
          · have hk1 : (e.kind == 1) = false := by simpa using k1
            have hk2 : (e.kind == 2) = true := by simpa using k2
            clear k1 k2
            obtain ⟨hs1, hs2⟩ := ex_delete HEX.out e.old
            obtain ⟨rs, hrs⟩ : ∃ rs, (deleteM m headB e.old).2 = rs := ⟨_, rfl⟩
            have HRS : Hid _ := hrs
            rw [hrs] at hs1
            clear hrs
            have HG2 : Hid (Good (20 * k + 6) (deleteM m headB e.old).1) := (good_delete HGD.out headB e.old).mono (by omega)
            by_cases hcn : cur = []
            · subst hcn
              have hr0 : (rs == 0) = false := by exact beq_eq_false_iff_ne.2 (fun h => (hs1.1 h).1 rfl)
              have HEX2 : Hid (Ex (deleteM m headB e.old).1 []) := by rw [if_neg (fun h => h.1 rfl)] at hs2; exact hs2
              clear hs1 hs2
              go_wp2_with fail
              go_at_call 21
              refine (delete_any headB e.old (One.fin HA.out HE1.out HGD.out (by omega)) HGD.out (by omega) (by decide) (by omega)).mono ?_
              rw [HRS.out]
              rintro e9 wc ⟨rfl, hpc⟩
              have HOP2 : Hid (One w1 (fun _ => False) _ wc (.pointer (some ⟨g, 0, none⟩)) (deleteM m headB e.old).1) := One.post HA.out hpc
              clear hpc
              obtain ⟨mc, hmc⟩ : ∃ mc, (deleteM m headB e.old).1 = mc := ⟨_, rfl⟩
              have HOC : Hid (One w1 (fun _ => False) (Nw O wa wc) wc (.pointer (some ⟨g, 0, none⟩)) mc) := by rw [← hmc]; exact HOP2.out
              have HEXC : Hid (Ex mc []) := by rw [← hmc]; exact HEX2.out
              have HGC : Hid (Good (20 * k + 6) mc) := by rw [← hmc]; exact HG2.out
              clear hmc
              go_wp2_with fail
              go_at_call 18
              obtain ⟨hge1, hge2, hge3⟩ := ex_get HEXC.out
              refine (get_any headB (One.fin HOC.out HE1.out HGC.out (by omega)) (by decide)).mono ?_
              rw [hge2]
              obtain ⟨er, her⟩ : ∃ er, (getM mc headB).2.2 = er := ⟨_, rfl⟩
              rw [her] at hge3 ⊢
              have HGG : Hid (Good (20 * k + 7) (getM mc headB).1) := good_get HGC.out headB
              have HEXG : Hid (Ex (getM mc headB).1 []) := hge1
              generalize (getM mc headB).1 = mg at *
              rintro e9 wg ⟨rfl, hpg⟩
              have HOG : Hid (One w1 (fun _ => False) _ wg (.pointer (some ⟨g, 0, none⟩)) mg) := One.post HOC.out hpg
              clear hpg hge1 hge2 her
              go_wp2_with fail
              go_at_call 22
              obtain ⟨hli1, hli2, hli3⟩ := ex_list HEXG.out
              refine (refs_any (One.fin HOG.out HE1.out HGG.out (by omega))).mono ?_
              rw [hli2]
              have HGL : Hid (Good (20 * k + 8) (refsM mg).1) := good_list HGG.out placeD
              have HEXL : Hid (Ex (refsM mg).1 []) := hli1
              generalize (refsM mg).1 = ml at *
              rintro e9 wl ⟨⟨vl, rfl, hvl⟩, hpl⟩
              have HOL : Hid (One w1 (fun _ => False) _ wl (.pointer (some ⟨g, 0, none⟩)) ml) := One.post HOG.out hpl
              obtain ⟨la, lc, rfl, -⟩ := hvl.get
              generalize (refsM mg).2.1.length = ln at *
              clear hpl hvl hli1 hli2
              · have f2 : (er == 0) = false := by simp [hge3]
                rw [if_neg (by simp)] at hli3
                subst hli3
                clear hge3
                go_wp2_with (go_at_call 20; go_must (refine (flag_0 _).mono ?_; rintro e9 w9 ⟨rfl, rfl⟩))
                go_roundw
                case rel => exact ⟨k + 1, ml, [], _, by omega, by go_num, rfl, HOL.out, HEXL.out, HGL.out.mono (by omega)⟩
                case measure => simp [intOf]; omega
            · have hce : cur.isEmpty = false := by cases cur with
                | nil => exact absurd rfl hcn
                | cons x y => rfl
              obtain ⟨bo, hbo⟩ : ∃ bo, (e.old == cur) = bo := ⟨_, rfl⟩
              cases bo with
              | false =>
                have hr0 : (rs == 0) = false := by exact beq_eq_false_iff_ne.2 (fun h => by have h9 := (hs1.1 h).2; simp [h9] at hbo)
                have HEX2 : Hid (Ex (deleteM m headB e.old).1 cur) := by rw [if_neg (fun h => by simp [h.2] at hbo)] at hs2; exact hs2
                clear hs1 hs2
                go_wp2_with fail
                go_at_call 21
                refine (delete_any headB e.old (One.fin HA.out HE1.out HGD.out (by omega)) HGD.out (by omega) (by decide) (by omega)).mono ?_
                rw [HRS.out]
                rintro e9 wc ⟨rfl, hpc⟩
                have HOP2 : Hid (One w1 (fun _ => False) _ wc (.pointer (some ⟨g, 0, none⟩)) (deleteM m headB e.old).1) := One.post HA.out hpc
                clear hpc
                obtain ⟨mc, hmc⟩ : ∃ mc, (deleteM m headB e.old).1 = mc := ⟨_, rfl⟩
                obtain ⟨cc, hcc0⟩ : ∃ cc, cur = cc := ⟨_, rfl⟩
                have HOC : Hid (One w1 (fun _ => False) (Nw O wa wc) wc (.pointer (some ⟨g, 0, none⟩)) mc) := by rw [← hmc]; exact HOP2.out
                have HEXC : Hid (Ex mc cc) := by rw [← hmc, ← hcc0]; exact HEX2.out
                have HGC : Hid (Good (20 * k + 6) mc) := by rw [← hmc]; exact HG2.out
                rw [hcc0]
                clear hmc hcc0 hcn hce
                go_wp2_with fail
                go_at_call 18
                obtain ⟨hge1, hge2, hge3⟩ := ex_get HEXC.out
                refine (get_any headB (One.fin HOC.out HE1.out HGC.out (by omega)) (by decide)).mono ?_
                rw [hge2]
                obtain ⟨er, her⟩ : ∃ er, (getM mc headB).2.2 = er := ⟨_, rfl⟩
                rw [her] at hge3 ⊢
                have HGG : Hid (Good (20 * k + 7) (getM mc headB).1) := good_get HGC.out headB
                have HEXG : Hid (Ex (getM mc headB).1 cc) := hge1
                generalize (getM mc headB).1 = mg at *
                rintro e9 wg ⟨rfl, hpg⟩
                have HOG : Hid (One w1 (fun _ => False) _ wg (.pointer (some ⟨g, 0, none⟩)) mg) := One.post HOC.out hpg
                clear hpg hge1 hge2 her
                go_wp2_with fail
                go_at_call 22
                obtain ⟨hli1, hli2, hli3⟩ := ex_list HEXG.out
                refine (refs_any (One.fin HOG.out HE1.out HGG.out (by omega))).mono ?_
                rw [hli2]
                have HGL : Hid (Good (20 * k + 8) (refsM mg).1) := good_list HGG.out placeD
                have HEXL : Hid (Ex (refsM mg).1 cc) := hli1
                generalize (refsM mg).1 = ml at *
                rintro e9 wl ⟨⟨vl, rfl, hvl⟩, hpl⟩
                have HOL : Hid (One w1 (fun _ => False) _ wl (.pointer (some ⟨g, 0, none⟩)) ml) := One.post HOG.out hpl
                obtain ⟨la, lc, rfl, -⟩ := hvl.get
                generalize (refsM mg).2.1.length = ln at *
                clear hpl hvl hli1 hli2
                by_cases hcc : cc = []
                · have f2 : (er == 0) = false := by simp [hge3, hcc]
                  rw [if_neg (by simpa using hcc)] at hli3
                  subst hli3
                  subst hcc
                  clear hge3
                  go_wp2_with (go_at_call 20; go_must (refine (flag_0 _).mono ?_; rintro e9 w9 ⟨rfl, rfl⟩))
                  go_roundw
                  case rel => exact ⟨k + 1, ml, [], _, by omega, by go_num, rfl, HOL.out, HEXL.out, HGL.out.mono (by omega)⟩
                  case measure => simp [intOf]; omega
                · have f1 : cc.isEmpty = false := by cases cc with
                    | nil => exact absurd rfl hcc
                    | cons x y => rfl
                  have f2 : (er == 0) = true := by simp [hge3, hcc]
                  rw [if_pos hcc] at hli3
                  subst hli3
                  clear hge3 hcc
                  go_wp2_with (go_at_call 20; go_must (refine (flag_1 _).mono ?_; rintro e9 w9 ⟨rfl, rfl⟩))
                  go_roundw
                  case rel => exact ⟨k + 1, ml, cc, _, by omega, by go_num, rfl, HOL.out, HEXL.out, HGL.out.mono (by omega)⟩
                  case measure => simp [intOf]; omega
              | true =>
                have hr0 : (rs == 0) = true := by simpa using hs1.2 ⟨hcn, by simpa using hbo⟩
                have HEX2 : Hid (Ex (deleteM m headB e.old).1 []) := by rw [if_pos ⟨hcn, by simpa using hbo⟩] at hs2; exact hs2
                clear hs1 hs2
                go_wp2_with fail
                go_at_call 21
                refine (delete_any headB e.old (One.fin HA.out HE1.out HGD.out (by omega)) HGD.out (by omega) (by decide) (by omega)).mono ?_
                rw [HRS.out]
                rintro e9 wc ⟨rfl, hpc⟩
                have HOP2 : Hid (One w1 (fun _ => False) _ wc (.pointer (some ⟨g, 0, none⟩)) (deleteM m headB e.old).1) := One.post HA.out hpc
                clear hpc
                obtain ⟨mc, hmc⟩ : ∃ mc, (deleteM m headB e.old).1 = mc := ⟨_, rfl⟩
                have HOC : Hid (One w1 (fun _ => False) (Nw O wa wc) wc (.pointer (some ⟨g, 0, none⟩)) mc) := by rw [← hmc]; exact HOP2.out
                have HEXC : Hid (Ex mc []) := by rw [← hmc]; exact HEX2.out
                have HGC : Hid (Good (20 * k + 6) mc) := by rw [← hmc]; exact HG2.out
                clear hmc
                go_wp2_with fail
                go_at_call 18
                obtain ⟨hge1, hge2, hge3⟩ := ex_get HEXC.out
                refine (get_any headB (One.fin HOC.out HE1.out HGC.out (by omega)) (by decide)).mono ?_
                rw [hge2]
                obtain ⟨er, her⟩ : ∃ er, (getM mc headB).2.2 = er := ⟨_, rfl⟩
                rw [her] at hge3 ⊢
                have HGG : Hid (Good (20 * k + 7) (getM mc headB).1) := good_get HGC.out headB
                have HEXG : Hid (Ex (getM mc headB).1 []) := hge1
                generalize (getM mc headB).1 = mg at *
                rintro e9 wg ⟨rfl, hpg⟩
                have HOG : Hid (One w1 (fun _ => False) _ wg (.pointer (some ⟨g, 0, none⟩)) mg) := One.post HOC.out hpg
                clear hpg hge1 hge2 her
                go_wp2_with fail
                go_at_call 22
                obtain ⟨hli1, hli2, hli3⟩ := ex_list HEXG.out
                refine (refs_any (One.fin HOG.out HE1.out HGG.out (by omega))).mono ?_
                rw [hli2]
                have HGL : Hid (Good (20 * k + 8) (refsM mg).1) := good_list HGG.out placeD
                have HEXL : Hid (Ex (refsM mg).1 []) := hli1
                generalize (refsM mg).1 = ml at *
                rintro e9 wl ⟨⟨vl, rfl, hvl⟩, hpl⟩
                have HOL : Hid (One w1 (fun _ => False) _ wl (.pointer (some ⟨g, 0, none⟩)) ml) := One.post HOG.out hpl
                obtain ⟨la, lc, rfl, -⟩ := hvl.get
                generalize (refsM mg).2.1.length = ln at *
                clear hpl hvl hli1 hli2
                · have f2 : (er == 0) = false := by simp [hge3]
                  rw [if_neg (by simp)] at hli3
                  subst hli3
                  clear hge3
                  go_wp2_with (go_at_call 20; go_must (refine (flag_0 _).mono ?_; rintro e9 w9 ⟨rfl, rfl⟩))
                  go_roundw
                  case rel => exact ⟨k + 1, ml, [], _, by omega, by go_num, rfl, HOL.out, HEXL.out, HGL.out.mono (by omega)⟩
                  case measure => simp [intOf]; omega
          · have hk1 : (e.kind == 1) = false := by simpa using k1
            have hk2 : (e.kind == 2) = false := by simpa using k2
            go_wp2_with fail
            go_at_call 18
            obtain ⟨mc, hmc⟩ : ∃ mc, m = mc := ⟨_, rfl⟩
            obtain ⟨cc, hcc0⟩ : ∃ cc, cur = cc := ⟨_, rfl⟩
            have HOC : Hid (One w1 (fun _ => False) O wa (.pointer (some ⟨g, 0, none⟩)) mc) := by rw [← hmc]; exact HA.out
            have HEXC : Hid (Ex mc cc) := by rw [← hmc, ← hcc0]; exact HEX.out
            have HGC : Hid (Good (20 * k + 6) mc) := by rw [← hmc]; exact HGD.out.mono (by omega)
            have HE1 : Hid (Env w1) := HE.out.ext HX1.out
            rw [hcc0]
            clear hmc hcc0
            obtain ⟨hge1, hge2, hge3⟩ := ex_get HEXC.out
            refine (get_any headB (One.fin HOC.out HE1.out HGC.out (by omega)) (by decide)).mono ?_
            rw [hge2]
            obtain ⟨er, her⟩ : ∃ er, (getM mc headB).2.2 = er := ⟨_, rfl⟩
            rw [her] at hge3 ⊢
            have HGG : Hid (Good (20 * k + 7) (getM mc headB).1) := good_get HGC.out headB
            have HEXG : Hid (Ex (getM mc headB).1 cc) := hge1
            generalize (getM mc headB).1 = mg at *
            rintro e9 wg ⟨rfl, hpg⟩
            have HOG : Hid (One w1 (fun _ => False) _ wg (.pointer (some ⟨g, 0, none⟩)) mg) := One.post HOC.out hpg
            clear hpg hge1 hge2 her
            go_wp2_with fail
            go_at_call 22
            obtain ⟨hli1, hli2, hli3⟩ := ex_list HEXG.out
            refine (refs_any (One.fin HOG.out HE1.out HGG.out (by omega))).mono ?_
            rw [hli2]
            have HGL : Hid (Good (20 * k + 8) (refsM mg).1) := good_list HGG.out placeD
            have HEXL : Hid (Ex (refsM mg).1 cc) := hli1
            generalize (refsM mg).1 = ml at *
            rintro e9 wl ⟨⟨vl, rfl, hvl⟩, hpl⟩
            have HOL : Hid (One w1 (fun _ => False) _ wl (.pointer (some ⟨g, 0, none⟩)) ml) := One.post HOG.out hpl
            obtain ⟨la, lc, rfl, -⟩ := hvl.get
            generalize (refsM mg).2.1.length = ln at *
            clear hpl hvl hli1 hli2
            by_cases hcc : cc = []
            · have f2 : (er == 0) = false := by simp [hge3, hcc]
              rw [if_neg (by simpa using hcc)] at hli3
              subst hli3
              subst hcc
              clear hge3
              go_wp2_with (go_at_call 20; go_must (refine (flag_0 _).mono ?_; rintro e9 w9 ⟨rfl, rfl⟩))
              go_roundw
              case rel => exact ⟨k + 1, ml, [], _, by omega, by go_num, rfl, HOL.out, HEXL.out, HGL.out.mono (by omega)⟩
              case measure => simp [intOf]; omega
            · have f1 : cc.isEmpty = false := by cases cc with
                | nil => exact absurd rfl hcc
                | cons x y => rfl
              have f2 : (er == 0) = true := by simp [hge3, hcc]
              rw [if_pos hcc] at hli3
              subst hli3
              clear hge3 hcc
              go_wp2_with (go_at_call 20; go_must (refine (flag_1 _).mono ?_; rintro e9 w9 ⟨rfl, rfl⟩))
              go_roundw
              case rel => exact ⟨k + 1, ml, cc, _, by omega, by go_num, rfl, HOL.out, HEXL.out, HGL.out.mono (by omega)⟩
              case measure => simp [intOf]; omega
      · go_wp2_with fail
        go_at_call 10
        refine (first8_any wr (HE.out.ext HXR.out) (HS.out.ext HXR.out)).mono ?_
        rintro e w4 ⟨rfl, hx4⟩
        go_wp2
        go_ret
        exact ⟨rfl, HXR.out.trans hx4⟩

end Go.Proofs.YtfimfbdlegookaaGreatDoor
