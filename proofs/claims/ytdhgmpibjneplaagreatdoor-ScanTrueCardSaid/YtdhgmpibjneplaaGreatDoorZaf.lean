/- sha.schedule: a block's words, spread over the rounds. Conditions: a block of 64 bytes. -/
import Derived.Test.YtdhgmpibjneplaaGreatDoorZab
import Derived.Test.YtdhgmpibjneplaaGreatDoorZae
import Derived.Test.YtdhgmpibjneplaaGreatDoorZaa
import Derived.Deep.QuietTactic
import Derived.Lib.QuietBelow
import Derived.Test.YtdhgmpibjneplaaGreatDoorZad
import Derived.BigQuiet

set_option linter.unusedVariables false
set_option linter.unusedSimpArgs false

/-! A scan of what stands in the working directory, in plain Lean: what it tells where nothing fails. Conditions: as each theorem states. -/
namespace Go.Proofs.YtdhgmpibjneplaaGreatDoor
open Go Go.RowKit

def lookD (l : Files) (p : B8) : B8 := match look l p with
  | some f => f.data
  | none => []
/-- A row of a table. -/
structure Rw where
  path : B8
  mode : Int
  id : B8
def blobO (d : B8) : Ob := ⟨1, d, [], [], [], 0, 0, []⟩
def trustX (ix : Files) (wr : Int) (p : B8) (t : Int) : Bool := match look ix p with
  | some k => decide (k.time = t) && decide (k.time < wr)
  | none => false
def hashX1 (m : Fs) (d : B8) : Fs × Nat × B8 × Int := if 4096 < d.length then (m, 0, [], 3) else ((putObjM m (blobO d)).1, 1, (putObjM m (blobO d)).2.1, (putObjM m (blobO d)).2.2)
/-- A file's hash: the file system, how many were worked out, the hash, what is wrong. -/
def hashX (m : Fs) (ix : Files) (wr : Int) (p : B8) (f : Fi) : Fs × Nat × B8 × Int :=
  if trustX ix wr p f.time = true then
    if hasO m (lookD ix p) = true then ((getO m (lookD ix p)).1, 0, lookD ix p, 0) else hashX1 (getO m (lookD ix p)).1 f.data
  else hashX1 m f.data
structure Sc where
  m : Fs
  rows : List Rw
  ix : Files
  n : Nat
def dirW : B8 := [119, 47]
def wP : B8 := [119]
def cutW (p : B8) : B8 := Lib.trimPrefix p dirW
def hashStep (ix : Files) (wr : Int) (x : Sc) (p : B8) (r : Fs × Fi) : Sc × Int :=
  if (hashX r.1 ix wr (cutW p) r.2).2.2.2 ≠ 0 then ({ x with m := (hashX r.1 ix wr (cutW p) r.2).1 }, (hashX r.1 ix wr (cutW p) r.2).2.2.2)
  else (⟨(hashX r.1 ix wr (cutW p) r.2).1, x.rows ++ [⟨cutW p, r.2.mode, (hashX r.1 ix wr (cutW p) r.2).2.2.1⟩], putF x.ix (cutW p) ⟨0, (hashX r.1 ix wr (cutW p) r.2).2.2.1, r.2.time⟩, x.n + (hashX r.1 ix wr (cutW p) r.2).2.1⟩, 0)
def scanStep (ix : Files) (wr : Int) (pats : List B8) (x : Sc) (p : B8) : Sc × Int :=
  if ignB pats (cutW p) = true then (x, 0)
  else if 256 ≤ x.rows.length then (x, 14)
  else if (readM x.m p).2.2 = 7 then ({ x with m := (readM x.m p).1 }, 0)
  else if (readM x.m p).2.2 ≠ 0 then ({ x with m := (readM x.m p).1 }, (readM x.m p).2.2)
  else hashStep ix wr x p ((readM x.m p).1, (readM x.m p).2.1)
def scanL (ix : Files) (wr : Int) (pats : List B8) : List B8 → Sc → Sc × Int
  | [], x => (x, 0)
  | p :: l, x => if (scanStep ix wr pats x p).2 ≠ 0 then scanStep ix wr pats x p else scanL ix wr pats l (scanStep ix wr pats x p).1
def scanGo (m : Fs) (ix : Files) (wr : Int) (pats : List B8) : Sc × Int :=
  if (listM m wP).2.2 ≠ 0 then (⟨(listM m wP).1, [], [], 0⟩, (listM m wP).2.2) else scanL ix wr pats (listM m wP).2.1 ⟨(listM m wP).1, [], [], 0⟩

/-! ### Nothing planned, nothing down -/
/-- Each file is a user's, or what was begun, or lies where its hash says. -/
def XW (F : Files) : Prop := ∀ e ∈ F, isUnder wP e.1 = true ∨ e.1 = tempP ∨ e.1 = placeO (shaM e.2.data)
structure Ca (m : Fs) : Prop where
  plan : m.plan = []
  down : m.down = false
  ok : OkM m
  xw : XW m.now
def SameW (F G : Files) : Prop := (∀ p, isUnder wP p = true → look G p = look F p) ∧ (pathsL G).filter (isUnder wP) = (pathsL F).filter (isUnder wP)
def HasF (F : Files) (id : B8) : Prop := ∃ f, look F (placeO id) = some f ∧ shaM f.data = id
theorem SameW.refl (F : Files) : SameW F F := ⟨fun _ _ => rfl, rfl⟩
theorem SameW.trans {F G H : Files} (h : SameW F G) (k : SameW G H) : SameW F H := ⟨fun p hp => (k.1 p hp).trans (h.1 p hp), k.2.trans h.2⟩
theorem temp_w : isUnder wP tempP = false := by decide
theorem place_w (id : B8) : isUnder wP (placeO id) = false := rfl
theorem same_put {F : Files} {p : B8} (h : isUnder wP p = false) (f : Fi) : SameW F (putF F p f) :=
  ⟨fun q hq => look_putF_ne (fun e => by rw [e, hq] at h; cases h), paths_put _ p f h F⟩
theorem same_del {F : Files} {p : B8} (h : isUnder wP p = false) : SameW F (delF F p) :=
  ⟨fun q hq => look_delF_ne (fun e => by rw [e, hq] at h; cases h), paths_del _ p h F⟩
/-- What a call of the store leaves. -/
structure Goes (m m' : Fs) : Prop where
  ca : Ca m'
  same : SameW m.now m'.now
  time : m.time ≤ m'.time
  has : ∀ id, HasF m.now id → HasF m'.now id
theorem Goes.trans {a b c : Fs} (h : Goes a b) (k : Goes b c) : Goes a c := ⟨k.ca, h.same.trans k.same, Nat.le_trans h.time k.time, fun id hi => k.has id (h.has id hi)⟩
theorem ok_calls {m : Fs} (h : OkM m) (c : Nat) : OkM { m with calls := c } := h.same rfl rfl rfl h.lusers (Nat.le_refl _)
theorem Ca.calls {m : Fs} (h : Ca m) (c : Nat) : Ca { m with calls := c } := ⟨h.plan, h.down, ok_calls h.ok c, h.xw⟩
theorem goes_calls {m : Fs} (h : Ca m) (c : Nat) : Goes m { m with calls := c } := ⟨h.calls c, SameW.refl _, Nat.le_refl _, fun _ h => h⟩
theorem Ca.call {m : Fs} (h : Ca m) : callM m = ({ m with calls := m.calls + 1 }, false, 0) := call_calm h.plan h.down
theorem read_calm {m : Fs} (h : Ca m) (p : B8) : (readM m p).1 = { m with calls := m.calls + 1 } := by rw [read_fst, h.call]
theorem read_there {m : Fs} (h : Ca m) {p : B8} {f : Fi} (hl : look m.now p = some f) : readM m p = ({ m with calls := m.calls + 1 }, f, 0) := by
  have hp : pathB p = true := (h.ok.dnow _ (look_mem hl)).1
  unfold readM
  rw [h.call]
  simp only [ne_eq, not_true_eq_false, if_false, hp, Bool.true_eq_false, hl]
theorem read_data {m : Fs} (h : Ca m) {p : B8} (he : (readM m p).2.2 = 0) : look m.now p = some (readM m p).2.1 := by
  unfold readM at he ⊢
  rw [h.call] at he ⊢
  simp only [ne_eq, not_true_eq_false, if_false] at he ⊢
  split at he
  · cases he
  · rename_i hp
    rw [if_neg hp]
    split at he
    · rename_i f hl
      exact hl
    · cases he
theorem xw_temp {F : Files} (h : XW F) (f : Fi) : XW (putF F tempP f) := fun e he => by
  rcases mem_put.1 he with rfl | ⟨he, -⟩
  · exact .inr (.inl rfl)
  · exact h e he
theorem xw_place {F : Files} (h : XW F) {f : Fi} : XW (putF (delF F tempP) (placeO (shaM f.data)) f) := fun e he => by
  rcases mem_put.1 he with rfl | ⟨he, -⟩
  · exact .inr (.inr rfl)
  · exact h e (mem_del.1 he).1
theorem has_temp {F : Files} {f : Fi} {id : B8} (h : HasF F id) : HasF (putF F tempP f) id := by
  obtain ⟨g, h1, h2⟩ := h
  exact ⟨g, by rw [look_putF_ne temp_place]; exact h1, h2⟩
theorem has_place {F : Files} {f : Fi} {id : B8} (h : HasF F id) : HasF (putF (delF F tempP) (placeO (shaM f.data)) f) id := by
  obtain ⟨g, h1, h2⟩ := h
  by_cases he : placeO (shaM f.data) = placeO id
  · exact ⟨f, by rw [← he, look_putF_same], placeO_inj he⟩
  · exact ⟨g, by rw [look_putF_ne he, look_delF_ne temp_place]; exact h1, h2⟩
/-- Put, where nothing is planned. -/
theorem put_goes {m : Fs} (h : Ca m) (b : B8) : Goes m (putO m b).1 ∧ ((putO m b).2.2 = 0 → (putO m b).2.1 = shaM b ∧ HasF (putO m b).1.now (shaM b)) := by
  unfold putO
  by_cases hl : 20000 < b.length
  · rw [if_pos hl]
    exact ⟨⟨h, SameW.refl _, Nat.le_refl _, fun _ h => h⟩, fun e => by cases e⟩
  rw [if_neg hl]
  have hr1 : (readM m (placeO (shaM b))).1 = { m with calls := m.calls + 1 } := read_calm h _
  by_cases h1 : (readM m (placeO (shaM b))).2.2 = 0 ∧ (readM m (placeO (shaM b))).2.1.data = b
  · rw [if_pos h1]
    have hq := read_data h h1.1
    rw [hr1]
    exact ⟨goes_calls h _, fun _ => ⟨rfl, _, hq, by rw [h1.2]⟩⟩
  rw [if_neg h1]
  by_cases h2 : (readM m (placeO (shaM b))).2.2 = 0 ∧ shaM (readM m (placeO (shaM b))).2.1.data = shaM b
  · rw [if_pos h2, hr1]
    exact ⟨goes_calls h _, fun e => by cases e⟩
  rw [if_neg h2]
  by_cases h3 : (readM m (placeO (shaM b))).2.2 ≠ 0 ∧ (readM m (placeO (shaM b))).2.2 ≠ 7
  · rw [if_pos h3, hr1]
    exact ⟨goes_calls h _, fun e => (h3.1 e).elim⟩
  rw [if_neg h3, hr1]
  obtain ⟨m1, hm1⟩ : ∃ m1, ({ m with calls := m.calls + 1 } : Fs) = m1 := ⟨_, rfl⟩
  have g1 : Goes m m1 := by rw [← hm1]; exact goes_calls h _
  rw [hm1]
  clear hm1 h1 h2 h3 hr1
  have c1 := g1.ca
  unfold putEnd
  by_cases h4 : (writeM m1 tempP 1 b).2 = 0
  case neg =>
    rw [if_pos h4]
    have hn : (writeM m1 tempP 1 b).1 = (callM m1).1 := put_no h4
    rw [c1.call] at hn
    exact ⟨by show Goes m (writeM m1 tempP 1 b).1; rw [hn]; exact g1.trans (goes_calls c1 _), fun e => (h4 e).elim⟩
  rw [if_neg (by simpa using h4)]
  obtain ⟨e1, e2⟩ : (callM m1).2.2 = 0 ∧ (writeM m1 tempP 1 b).1 = does (callM m1).1 (.put tempP ⟨1, b, 0⟩) := put_ok h4
  rw [c1.call] at e2
  obtain ⟨m2, hm2⟩ : ∃ m2, (writeM m1 tempP 1 b).1 = m2 := ⟨_, rfl⟩
  have g2 : Goes m1 m2 ∧ ∃ t, look m2.now tempP = some ⟨1, b, t⟩ := by
    rw [← hm2, e2]
    have cc := c1.calls (m1.calls + 1)
    refine ⟨⟨⟨c1.plan, c1.down, ok_does cc.ok (show pathB tempP = true ∧ b.length ≤ 20000 from ⟨by decide, by omega⟩) (fun s d e => by cases e), xw_temp c1.xw _⟩, same_put temp_w _, Nat.le_succ _, fun id hi => has_temp hi⟩, ?_⟩
    exact ⟨_, look_putF_same _ _ _⟩
  rw [hm2]
  clear hm2 e1 e2 h4
  obtain ⟨g2, t, ht⟩ := g2
  have g12 := g1.trans g2
  have c2 := g2.ca
  by_cases h5 : (moveM m2 tempP (placeO (shaM b)) false).2 = 0
  case neg =>
    rw [if_pos h5]
    have hn : (moveM m2 tempP (placeO (shaM b)) false).1 = (callM m2).1 := mv_no h5
    rw [c2.call] at hn
    exact ⟨by show Goes m (moveM m2 tempP (placeO (shaM b)) false).1; rw [hn]; exact g12.trans (goes_calls c2 _), fun e => (h5 e).elim⟩
  rw [if_neg (by simpa using h5)]
  obtain ⟨e1, e2⟩ : (callM m2).2.2 = 0 ∧ (moveM m2 tempP (placeO (shaM b)) false).1 = does (callM m2).1 (.mv tempP (placeO (shaM b))) := mv_ok temp_place h5
  have hlf := left_moveN (s := tempP) (d := placeO (shaM b)) (fresh := false) c2.ok (N := 0) (by rw [c2.plan]; exact Nat.le_refl _)
  rw [c2.call] at e2
  have hap : (moveM m2 tempP (placeO (shaM b)) false).1.now = putF (delF m2.now tempP) (placeO (shaM b)) ⟨1, b, t⟩ := by
    rw [e2]
    show (match look m2.now tempP with | some x => putF (delF m2.now tempP) (placeO (shaM b)) x | none => m2.now) = _
    rw [ht]
  have hpl : (moveM m2 tempP (placeO (shaM b)) false).1.plan = [] ∧ (moveM m2 tempP (placeO (shaM b)) false).1.down = false := by
    rw [e2]; exact ⟨c2.plan, c2.down⟩
  refine ⟨g12.trans ⟨⟨hpl.1, hpl.2, hlf.ok, ?_⟩, ?_, hlf.time0, ?_⟩, fun _ => ⟨rfl, ?_⟩⟩
  · rw [hap]; exact xw_place c2.xw (f := ⟨1, b, t⟩)
  · rw [hap]; exact (same_del temp_w).trans (same_put (place_w _) _)
  · intro id hi; rw [hap]; exact has_place (f := ⟨1, b, t⟩) hi
  · show HasF (moveM m2 tempP (placeO (shaM b)) false).1.now _
    rw [hap]
    exact ⟨⟨1, b, t⟩, look_putF_same _ _ _, rfl⟩
theorem get_goes {m : Fs} (h : Ca m) (id : B8) : ∃ c, (getO m id).1 = { m with calls := c } := by
  unfold getO
  split
  · exact ⟨m.calls, rfl⟩
  · split
    · exact ⟨_, read_calm h _⟩
    · split
      · exact ⟨_, read_calm h _⟩
      · exact ⟨_, read_calm h _⟩
theorem has_iff {m : Fs} (h : Ca m) (id : B8) : hasO m id = true ↔ validB id = true ∧ HasF m.now id := by
  unfold hasO getO
  by_cases hv : validB id = false
  · rw [if_pos hv]
    simp [hv]
  rw [if_neg hv]
  have hv1 : validB id = true := by simpa using hv
  by_cases he : (readM m (placeO id)).2.2 = 0
  · have hq := read_data h he
    rw [if_neg (by simpa using he)]
    by_cases hs : shaM (readM m (placeO id)).2.1.data = id
    · rw [if_neg (by simpa using hs)]
      simp only [decide_true, true_iff]
      exact ⟨hv1, _, hq, hs⟩
    · rw [if_pos hs]
      simp only [show ¬ (5 : Int) = 0 by decide, decide_false, Bool.false_eq_true, false_iff]
      rintro ⟨-, f, h1, h2⟩
      rw [hq] at h1
      cases h1
      exact hs h2
  · rw [if_pos he]
    simp only [decide_eq_true_eq]
    refine ⟨fun e => (he e).elim, ?_⟩
    rintro ⟨-, f, h1, h2⟩
    rw [read_there h h1] at he
    exact (he rfl).elim

/-! ### A scan where nothing is planned -/
def hashB (d : B8) : B8 := shaM (1 :: d)
theorem blob_enc {d : B8} (h : d.length ≤ 20000) : encodeM (blobO d) = (1 :: d, 0) := by
  unfold encodeM
  have : mayO (blobO d) = true := by unfold mayO blobO noCom; simp [h]
  rw [if_pos this]
  rfl
theorem putObj_goes {m : Fs} (h : Ca m) {d : B8} (hd : d.length ≤ 20000) : Goes m (putObjM m (blobO d)).1 ∧ ((putObjM m (blobO d)).2.2 = 0 → (putObjM m (blobO d)).2.1 = hashB d ∧ HasF (putObjM m (blobO d)).1.now (hashB d)) := by
  unfold putObjM
  rw [blob_enc hd, if_neg (by simp)]
  exact put_goes h _
/-- An index tells the hashes of what stands there. -/
def IxOk (F : Files) (ix : Files) : Prop := ∀ p k, look ix p = some k → ∀ f, look F (dirW ++ p) = some f → f.time = k.time → k.data = hashB f.data
theorem hash_goes {m : Fs} {ix : Files} {wr : Int} {p : B8} {f : Fi} (h : Ca m) (hd : f.data.length ≤ 20000) (hix : IxOk m.now ix) (hf : look m.now (dirW ++ p) = some f) :
    Goes m (hashX m ix wr p f).1 ∧ ((hashX m ix wr p f).2.2.2 = 0 → (hashX m ix wr p f).2.2.1 = hashB f.data ∧ HasF (hashX m ix wr p f).1.now (hashB f.data)) := by
  have h1 : ∀ m1, Goes m m1 → Goes m (hashX1 m1 f.data).1 ∧ ((hashX1 m1 f.data).2.2.2 = 0 → (hashX1 m1 f.data).2.2.1 = hashB f.data ∧ HasF (hashX1 m1 f.data).1.now (hashB f.data)) := by
    intro m1 hg
    unfold hashX1
    split
    · exact ⟨hg, fun e => by cases e⟩
    · obtain ⟨g1, g2⟩ := putObj_goes hg.ca hd
      exact ⟨hg.trans g1, g2⟩
  unfold hashX
  split
  · rename_i ht
    obtain ⟨c, hc⟩ := get_goes h (lookD ix p)
    split
    · rename_i hh
      obtain ⟨-, hh⟩ := (has_iff h _).1 hh
      unfold trustX at ht
      cases hl : look ix p with
      | none => rw [hl] at ht; cases ht
      | some k =>
        rw [hl] at ht
        simp only [Bool.and_eq_true, decide_eq_true_eq] at ht
        have hk := hix p k hl f hf ht.1.symm
        have hd2 : lookD ix p = hashB f.data := by unfold lookD; rw [hl]; exact hk
        rw [hd2] at hh hc ⊢
        rw [hc]
        exact ⟨goes_calls h c, fun _ => ⟨rfl, hh⟩⟩
    · rw [hc]
      exact h1 _ (goes_calls h c)
  · exact h1 m ⟨h, SameW.refl _, Nat.le_refl _, fun _ h => h⟩
def rowOf (F : Files) (p : B8) : Rw := match look F p with
  | some f => ⟨cutW p, f.mode, hashB f.data⟩
  | none => ⟨cutW p, 0, []⟩
def takenL (pats : List B8) (l : List B8) : List B8 := l.filter fun p => !ignB pats (cutW p)
/-- What holds within a scan, F being what stood there at its start. -/
structure ScOk (m0 : Fs) (F : Files) (x : Sc) : Prop where
  goes : Goes m0 x.m
  same : SameW F x.m.now
  rows : ∀ r ∈ x.rows, HasF x.m.now r.id ∧ ∃ d, r.id = hashB d
  ix : ∀ p k, look x.ix p = some k → ∃ f, look F (dirW ++ p) = some f ∧ k.time = f.time ∧ k.data = hashB f.data
theorem cut_w {p : B8} (h : isUnder wP p = true) : dirW ++ cutW p = p ∧ cutW p = p.drop 2 := by
  obtain ⟨r, rfl⟩ := (under_iff wP p).1 h
  unfold cutW Lib.trimPrefix Lib.hasPrefix dirW wP
  simp [List.isPrefixOf]
theorem step_ok {m0 : Fs} {F ix : Files} {wr : Int} {pats : List B8} {x : Sc} {p : B8} (h : ScOk m0 F x) (hix : IxOk F ix) (hw : isUnder wP p = true) (hp : (look F p).isSome = true) :
    ScOk m0 F (scanStep ix wr pats x p).1 ∧ ((scanStep ix wr pats x p).2 = 0 → (scanStep ix wr pats x p).1.rows = x.rows ++ (takenL pats [p]).map (rowOf F)) := by
  obtain ⟨f, hf⟩ := Option.isSome_iff_exists.1 hp
  obtain ⟨cw, -⟩ := cut_w hw
  have ca := h.goes.ca
  have hl : look x.m.now p = some f := (h.same.1 p hw).trans hf
  have hrd := read_there ca hl
  have hd : f.data.length ≤ 20000 := (ca.ok.dnow _ (look_mem hl)).2
  unfold scanStep
  by_cases hi : ignB pats (cutW p) = true
  · rw [if_pos hi]
    refine ⟨h, fun _ => ?_⟩
    unfold takenL
    simp [hi]
  rw [if_neg hi]
  by_cases h2 : 256 ≤ x.rows.length
  · rw [if_pos h2]
    exact ⟨h, fun e => by cases e⟩
  rw [if_neg h2, hrd, if_neg (show ¬ (0 : Int) = 7 by decide), if_neg (by simp)]
  obtain ⟨m1, hm1⟩ : ∃ m1, ({ x.m with calls := x.m.calls + 1 } : Fs) = m1 := ⟨_, rfl⟩
  have g1 : Goes x.m m1 := by rw [← hm1]; exact goes_calls ca _
  have hs1 : m1.now = x.m.now := by rw [← hm1]
  rw [hm1]
  clear hm1 hrd
  have hix1 : IxOk m1.now ix := by
    intro q k hk f' hf' ht
    rw [hs1] at hf'
    exact hix q k hk f' ((h.same.1 _ (by unfold isUnder wP dirW; simp [List.isPrefixOf])).symm.trans hf') ht
  obtain ⟨g2, g3⟩ := hash_goes (wr := wr) g1.ca hd hix1 (p := cutW p) (f := f) (by rw [cw, hs1]; exact hl)
  have g12 := g1.trans g2
  unfold hashStep
  by_cases he : (hashX m1 ix wr (cutW p) f).2.2.2 = 0
  case neg =>
    rw [if_pos he]
    exact ⟨⟨h.goes.trans g12, h.same.trans g12.same, fun r hr => ⟨g12.has _ (h.rows r hr).1, (h.rows r hr).2⟩, h.ix⟩, fun e => (he e).elim⟩
  rw [if_neg (by simpa using he)]
  obtain ⟨e1, e2⟩ := g3 he
  refine ⟨⟨h.goes.trans g12, h.same.trans g12.same, fun r hr => ?_, fun q k hk => ?_⟩, fun _ => ?_⟩
  · rcases List.mem_append.1 hr with hr | hr
    · exact ⟨g12.has _ (h.rows r hr).1, (h.rows r hr).2⟩
    · rw [List.mem_singleton.1 hr]
      exact ⟨by show HasF (hashX m1 ix wr (cutW p) f).1.now (hashX m1 ix wr (cutW p) f).2.2.1; rw [e1]; exact e2, f.data, e1⟩
  · by_cases hq : cutW p = q
    · subst hq
      rw [look_putF_same] at hk
      cases hk
      exact ⟨f, by rw [cw]; exact hf, rfl, e1⟩
    · rw [look_putF_ne hq] at hk
      exact h.ix q k hk
  · show x.rows ++ [_] = _
    unfold takenL rowOf
    simp only [List.filter_cons, List.filter_nil, Bool.eq_false_iff.2 hi, Bool.not_false, if_true, List.map_cons, List.map_nil, hf, e1]
theorem scanL_ok {m0 : Fs} {F ix : Files} {wr : Int} {pats : List B8} (hix : IxOk F ix) : ∀ (l : List B8) (x : Sc), ScOk m0 F x → (∀ p ∈ l, isUnder wP p = true ∧ (look F p).isSome = true) →
    ScOk m0 F (scanL ix wr pats l x).1 ∧ ((scanL ix wr pats l x).2 = 0 → (scanL ix wr pats l x).1.rows = x.rows ++ (takenL pats l).map (rowOf F))
  | [], x, h, _ => ⟨h, fun _ => by simp [scanL, takenL]⟩
  | p :: l, x, h, hl => by
    obtain ⟨s1, s2⟩ := step_ok (wr := wr) (pats := pats) h hix (hl p (by simp)).1 (hl p (by simp)).2
    unfold scanL
    by_cases he : (scanStep ix wr pats x p).2 = 0
    · rw [if_neg (by simpa using he)]
      obtain ⟨t1, t2⟩ := scanL_ok hix l _ s1 (fun q hq => hl q (by simp [hq]))
      refine ⟨t1, fun h0 => ?_⟩
      rw [t2 h0, s2 he]
      unfold takenL
      rw [List.append_assoc, ← List.map_append, ← List.filter_append]
      rfl
    · rw [if_pos he]
      exact ⟨s1, fun h0 => (he h0).elim⟩
theorem look_path {F : Files} {p : B8} : (look F p).isSome = true ↔ p ∈ pathsL F := by
  rw [look_some]
  unfold pathsL
  simp
/-- A scan that goes well tells just what stands there. -/
theorem scan_ok {m : Fs} {ix : Files} {wr : Int} {pats : List B8} (h : Ca m) (hix : IxOk m.now ix) :
    ScOk m m.now (scanGo m ix wr pats).1 ∧ ((scanGo m ix wr pats).2 = 0 → (scanGo m ix wr pats).1.rows = (takenL pats ((pathsL m.now).filter (isUnder wP))).map (rowOf m.now)) := by
  have hl : listM m wP = ({ m with calls := m.calls + 1 }, (pathsL m.now).filter (isUnder wP), 0) := by
    unfold listM
    rw [h.call]
    simp only [ne_eq, not_true_eq_false, if_false, show wP ≠ [] by decide, show pathB wP = true by decide, Bool.true_eq_false]
  unfold scanGo
  rw [hl, if_neg (by simp)]
  have h0 : ScOk m m.now ⟨{ m with calls := m.calls + 1 }, [], [], 0⟩ := ⟨goes_calls h _, SameW.refl _, (fun r hr => by cases hr), (fun p k hk => by cases hk)⟩
  obtain ⟨s1, s2⟩ := scanL_ok (wr := wr) (pats := pats) hix ((pathsL m.now).filter (isUnder wP)) _ h0 (fun p hp => by
    obtain ⟨h1, h2⟩ := List.mem_filter.1 hp
    exact ⟨h2, look_path.2 h1⟩)
  exact ⟨s1, fun e => by rw [s2 e]; simp⟩

end Go.Proofs.YtdhgmpibjneplaaGreatDoor

/-! What marlaw13.ScanTrue says, in plain Lean: users write and remove, a scan tells just what stands there. Conditions: as each theorem states. -/
namespace Go.Proofs.YtdhgmpibjneplaaGreatDoor
open Go Go.RowKit

/-- What holds between the deeds: a file system, an index. -/
structure Tru (m : Fs) (ix : Files) : Prop where
  ca : Ca m
  ix : ∀ p k, look ix p = some k → k.time ≤ m.time ∧ ∀ f, look m.now (dirW ++ p) = some f → f.time = k.time → k.data = hashB f.data
  tw : ∀ p f, look m.now (dirW ++ p) = some f → f.time ≤ m.time
/-- Rows tell what stands there. -/
structure Told (m : Fs) (pats : List B8) (rows : List Rw) : Prop where
  eq : rows = (takenL pats ((pathsL m.now).filter (isUnder wP))).map (rowOf m.now)
  has : ∀ r ∈ rows, HasF m.now r.id ∧ ∃ d, r.id = hashB d
theorem dirW_under (p : B8) : isUnder wP (dirW ++ p) = true := by unfold isUnder wP dirW; simp [List.isPrefixOf]
theorem Tru.new {m : Fs} {ix : Files} (h : Tru m ix) : Tru m [] := ⟨h.ca, (fun p k hk => by cases hk), h.tw⟩
theorem tru_goes {m m' : Fs} {ix : Files} (h : Tru m ix) (hg : Goes m m') : Tru m' ix := by
  have ht := hg.time
  refine ⟨hg.ca, fun p k hk => ?_, fun p f hf => ?_⟩
  · obtain ⟨h1, h2⟩ := h.ix p k hk
    exact ⟨by omega, fun f hf => h2 f (by rw [← hg.same.1 _ (dirW_under p)]; exact hf)⟩
  · rw [hg.same.1 _ (dirW_under p)] at hf
    have := h.tw p f hf
    omega
theorem tru_calls {m : Fs} {ix : Files} (h : Tru m ix) (c : Nat) : Tru { m with calls := c } ix := tru_goes h (goes_calls h.ca c)
theorem rowOf_same {F G : Files} (h : SameW F G) {p : B8} (hp : isUnder wP p = true) : rowOf G p = rowOf F p := by unfold rowOf; rw [h.1 p hp]
theorem tru_scan {m : Fs} {ix : Files} {wr : Int} {pats : List B8} (h : Tru m ix) :
    Tru (scanGo m ix wr pats).1.m ix ∧ ((scanGo m ix wr pats).2 = 0 → Tru (scanGo m ix wr pats).1.m (scanGo m ix wr pats).1.ix ∧ Told (scanGo m ix wr pats).1.m pats (scanGo m ix wr pats).1.rows) := by
  obtain ⟨s1, s2⟩ := scan_ok (wr := wr) (pats := pats) h.ca (fun p k hk => (h.ix p k hk).2)
  have h1 := tru_goes h s1.goes
  have ht := s1.goes.time
  refine ⟨h1, fun e => ⟨⟨h1.ca, fun p k hk => ?_, h1.tw⟩, ⟨?_, s1.rows⟩⟩⟩
  · obtain ⟨f, f1, f2, f3⟩ := s1.ix p k hk
    have := h.tw p f f1
    refine ⟨by omega, fun g hg _ => ?_⟩
    rw [s1.same.1 _ (dirW_under p), f1] at hg
    cases hg
    exact f3
  · rw [s2 e, s1.same.2]
    refine List.map_congr_left (fun p hp => ?_)
    have hp2 := (List.mem_filter.1 (List.mem_filter.1 hp).1).2
    exact (rowOf_same s1.same hp2).symm
theorem xw_user {F : Files} (h : XW F) (p : B8) (f : Fi) : XW (putF F (dirW ++ p) f) := fun e he => by
  rcases mem_put.1 he with rfl | ⟨he, -⟩
  · exact .inl (dirW_under p)
  · exact h e he
theorem xw_del {F : Files} (h : XW F) (p : B8) : XW (delF F p) := fun e he => h e (mem_del.1 he).1
theorem tru_write {m : Fs} {ix : Files} (h : Tru m ix) (path : B8) (mode : Int) (data : B8) : Tru (userWrite m (dirW ++ path) mode data).1 ix := by
  have hok := (left_hap h.ca.ok ⟨0, 4, mode, 0, 0, dirW ++ path, data⟩).1.ok
  have hhp : hapM m ⟨0, 4, mode, 0, 0, dirW ++ path, data⟩ = (userWrite m (dirW ++ path) mode data).1 := rfl
  rw [hhp] at hok
  unfold userWrite at hok ⊢
  have hd := h.ca.down
  rw [hd] at hok ⊢
  simp only [Bool.false_eq_true, if_false] at hok ⊢
  by_cases h1 : wrongE (dirW ++ path) mode data ≠ 0
  · rw [if_pos h1]; exact h
  rw [if_neg h1] at hok ⊢
  by_cases h2 : (putsM m (dirW ++ path) mode data true).2 ≠ 0
  · rw [if_pos h2]
    rw [puts_no h2]
    exact h
  rw [if_neg h2] at hok ⊢
  have h3 : (putsM m (dirW ++ path) mode data true).1 = does m (.put (dirW ++ path) ⟨mode, data, 0⟩) := by rw [puts_zero (by simpa using h2)]
  rw [h3] at hok ⊢
  refine ⟨⟨h.ca.plan, hd, hok, xw_user h.ca.xw _ _⟩, fun p k hk => ?_, fun p f hf => ?_⟩
  · obtain ⟨k1, k2⟩ := h.ix p k hk
    refine ⟨by show k.time ≤ ((m.time + 1 : Nat) : Int); omega, fun f hf hft => ?_⟩
    have hf : look (putF m.now (dirW ++ path) ⟨mode, data, (m.time + 1 : Nat)⟩) (dirW ++ p) = some f := hf
    by_cases hp : dirW ++ path = dirW ++ p
    · rw [hp, look_putF_same] at hf
      cases hf
      have hft : ((m.time + 1 : Nat) : Int) = k.time := hft
      omega
    · rw [look_putF_ne hp] at hf
      exact k2 f hf hft
  · have hf : look (putF m.now (dirW ++ path) ⟨mode, data, (m.time + 1 : Nat)⟩) (dirW ++ p) = some f := hf
    show f.time ≤ ((m.time + 1 : Nat) : Int)
    by_cases hp : dirW ++ path = dirW ++ p
    · rw [hp, look_putF_same] at hf
      cases hf
      exact Int.le_refl _
    · rw [look_putF_ne hp] at hf
      have := h.tw p f hf
      omega
theorem tru_remove {m : Fs} {ix : Files} (h : Tru m ix) (path : B8) : Tru (userRemove m (dirW ++ path)).1 ix := by
  have hok := (left_hap h.ca.ok ⟨0, 5, 0, 0, 0, dirW ++ path, []⟩).1.ok
  have hhp : hapM m ⟨0, 5, 0, 0, 0, dirW ++ path, []⟩ = (userRemove m (dirW ++ path)).1 := rfl
  rw [hhp] at hok
  unfold userRemove at hok ⊢
  have hd := h.ca.down
  rw [hd] at hok ⊢
  simp only [Bool.false_eq_true, if_false] at hok ⊢
  by_cases h2 : (removesM m (dirW ++ path)).2 ≠ 0
  · rw [if_pos h2]
    have : (removesM m (dirW ++ path)).1 = m := by
      unfold removesM at h2 ⊢
      split
      · rfl
      · split
        · rfl
        · rename_i a b
          rw [if_neg a, if_neg b] at h2
          exact (h2 rfl).elim
    rw [this]
    exact h
  rw [if_neg h2] at hok ⊢
  have h3 : (removesM m (dirW ++ path)).1 = does m (.del (dirW ++ path)) := by rw [removes_zero (by simpa using h2)]
  rw [h3] at hok ⊢
  have key : ∀ p f, look (delF m.now (dirW ++ path)) (dirW ++ p) = some f → look m.now (dirW ++ p) = some f := by
    intro p f hf
    by_cases hp : dirW ++ path = dirW ++ p
    · rw [hp, look_delF_same] at hf
      cases hf
    · rw [look_delF_ne hp] at hf
      exact hf
  refine ⟨⟨h.ca.plan, hd, hok, xw_del h.ca.xw _⟩, fun p k hk => ?_, fun p f hf => ?_⟩
  · obtain ⟨k1, k2⟩ := h.ix p k hk
    exact ⟨by show k.time ≤ ((m.time + 1 : Nat) : Int); omega, fun f hf hft => k2 f (key p f hf) hft⟩
  · show f.time ≤ ((m.time + 1 : Nat) : Int)
    have := h.tw p f (key p f hf)
    omega

end Go.Proofs.YtdhgmpibjneplaaGreatDoor

/-! Words of 32 bits: what the machine's operations make of them. Conditions: as each theorem states. -/
namespace Go.Proofs.YtdhgmpibjneplaaGreatDoor
open Go Go.RowKit

abbrev U32 (x : UInt32) : Value := .int .u32 (x.toNat : Int)
theorem bv_u32 (x : UInt32) : BitVec.ofInt 32 (x.toNat : Int) = x.toBitVec := by
  apply BitVec.eq_of_toNat_eq
  have := x.toNat_lt
  rw [BitVec.toNat_ofInt]
  show ((x.toNat : Int) % 4294967296).toNat = x.toNat
  omega
theorem wrap_u32 (n : Nat) (h : n < 4294967296) : IntKind.wrap .u32 (n : Int) = (n : Int) := by
  unfold IntKind.wrap IntKind.bits IntKind.signed
  simp
  omega
theorem bits_and32 (x y : UInt32) : bits .and .u32 (x.toNat : Int) (y.toNat : Int) = ((x &&& y).toNat : Int) := by
  have h := (x &&& y).toNat_lt
  unfold bits
  show IntKind.wrap .u32 ((BitVec.ofInt 32 (x.toNat : Int) &&& BitVec.ofInt 32 (y.toNat : Int)).toNat : Int) = _
  rw [bv_u32, bv_u32]
  exact wrap_u32 _ h
theorem bits_or32 (x y : UInt32) : bits .or .u32 (x.toNat : Int) (y.toNat : Int) = ((x ||| y).toNat : Int) := by
  have h := (x ||| y).toNat_lt
  unfold bits
  show IntKind.wrap .u32 ((BitVec.ofInt 32 (x.toNat : Int) ||| BitVec.ofInt 32 (y.toNat : Int)).toNat : Int) = _
  rw [bv_u32, bv_u32]
  exact wrap_u32 _ h
theorem bits_xor32 (x y : UInt32) : bits .xor .u32 (x.toNat : Int) (y.toNat : Int) = ((x ^^^ y).toNat : Int) := by
  have h := (x ^^^ y).toNat_lt
  unfold bits
  show IntKind.wrap .u32 ((BitVec.ofInt 32 (x.toNat : Int) ^^^ BitVec.ofInt 32 (y.toNat : Int)).toNat : Int) = _
  rw [bv_u32, bv_u32]
  exact wrap_u32 _ h
theorem bits_not32 (x : UInt32) : bits .xor .u32 4294967295 (x.toNat : Int) = ((~~~x).toNat : Int) := by
  have h := (~~~x).toNat_lt
  unfold bits
  show IntKind.wrap .u32 ((BitVec.ofInt 32 4294967295 ^^^ BitVec.ofInt 32 (x.toNat : Int)).toNat : Int) = _
  rw [bv_u32]
  have he : (BitVec.ofInt 32 4294967295 ^^^ x.toBitVec) = ~~~ x.toBitVec := by
    rw [show BitVec.ofInt 32 4294967295 = BitVec.allOnes 32 from rfl, BitVec.allOnes_xor]
  rw [he]
  exact wrap_u32 _ h
theorem add32 (x y : UInt32) : ((x.toNat : Int) + (y.toNat : Int)) % 4294967296 = ((x + y).toNat : Int) := by
  rw [UInt32.toNat_add]
  omega
theorem shr32 (x : UInt32) (k : Nat) (hk : k < 32) : (x.toNat : Int) / (2 ^ k : Int) = ((x >>> UInt32.ofNat k).toNat : Int) := by
  have hn : (UInt32.ofNat k).toNat = k := by simp; omega
  rw [UInt32.toNat_shiftRight, hn, Nat.mod_eq_of_lt hk, Nat.shiftRight_eq_div_pow]
  simp
theorem shl32 (x : UInt32) (k : Nat) (hk : k < 32) : ((x.toNat : Int) * (2 ^ k : Int)) % 4294967296 = ((x <<< UInt32.ofNat k).toNat : Int) := by
  have hn : (UInt32.ofNat k).toNat = k := by simp; omega
  rw [UInt32.toNat_shiftLeft, hn, Nat.mod_eq_of_lt hk, Nat.shiftLeft_eq]
  simp
end Go.Proofs.YtdhgmpibjneplaaGreatDoor

/-! sha.Hex, Unhex, Valid: bytes as hexadecimal digits, and back. Conditions: at most 30000000 of them. -/
namespace Go.Proofs.YtdhgmpibjneplaaGreatDoor
open Go Go.RowKit

theorem and15 : ∀ n : Nat, n < 256 → bits BinOp.and IntKind.u8 (n : Int) 15 = ((n % 16 : Nat) : Int) := by decide +kernel
theorem hex_hi (y : UInt8) (h : (y.toNat : Int) / 16 < 16) : Value.int .u8 ((digitsB.toArray[((y.toNat : Int) / 16).toNat]'(by simp [digitsB]; omega)).toNat : Int) = .int .u8 (digitsB.getD (y.toNat / 16) 0).toNat := by
  have e : ((y.toNat : Int) / 16).toNat = y.toNat / 16 := by omega
  have h16 : y.toNat / 16 < digitsB.length := by have := y.toNat_lt; simp [digitsB]; omega
  simp only [e, List.getElem_toArray, List.getD_eq_getElem?_getD, h16, List.getElem?_eq_getElem, Option.getD_some]
theorem hex_lo (y : UInt8) (h : ((y.toNat % 16 : Nat) : Int) < 16) : Value.int .u8 ((digitsB.toArray[(((y.toNat % 16 : Nat) : Int)).toNat]'(by simp [digitsB]; omega)).toNat : Int) = .int .u8 (digitsB.getD (y.toNat % 16) 0).toNat := by
  have e : (((y.toNat % 16 : Nat) : Int)).toNat = y.toNat % 16 := by omega
  have h16 : y.toNat % 16 < digitsB.length := by simp [digitsB]; omega
  simp only [e, List.getElem_toArray, List.getD_eq_getElem?_getD, h16, List.getElem?_eq_getElem, Option.getD_some]
theorem hex_snoc {l : B8} {k : Nat} (h : k < l.length) {y : UInt8} (hy : l.getD k 0 = y) : hexM (l.take (k + 1)) = hexM (l.take k) ++ [digitsB.getD (y.toNat / 16) 0, digitsB.getD (y.toNat % 16) 0] := by
  rw [List.take_succ_eq_append_getElem h]
  have : l[k] = y := by rw [← hy]; simp [h]
  simp [hexM, this]

set_option maxRecDepth 100000 in
set_option maxHeartbeats 400000 in
theorem hex_any (v : Value) (l : B8) (w : World) (hv : IsBytes w v l) (hl : l.length ≤ 30000000) :
    Calls Tryz.prog 96 #[v] w fun e w' => e = .returned (S8 (hexM l)) ∧ Ext w w' := by
  obtain ⟨a, cap, rfl, h1, h2, h3, h4⟩ := hv.get
  have H4 : Hid _ := h4
  clear h4 hv
  go_enter Tryz.func96, Tryz.ntmps96
  go_wp2
  go_loopw [3, 8] (fun v i wr => ∃ k : Nat, k ≤ l.length ∧ i = .int .i64 k ∧ wr.ownsRow w.heap.size 5 1 v (2 * k) ((hexM (l.take k)).map fun x => .int .u8 x.toNat) ∧ Ext w wr) (fun _ i _ => l.length - (intOf i).toNat)
  case atStart => exact ⟨0, Nat.zero_le _, rfl, World.ownsRow_nil _ _ _ _, Ext.refl _⟩
  case round =>
    obtain ⟨k, hk, rfl, hown, hx⟩ := hrel
    by_cases hlt : k < l.length
    · obtain ⟨b, o, rfl, hc⟩ := H4.out k hlt
      have hck := hx.cell (hc k hlt)
      clear hc
      generalize hy : l.getD k 0 = y at hck
      have HY : Hid _ := hy
      clear hy
      have hy256 : y.toNat < 256 := y.toNat_lt
      have ha : bits BinOp.and IntKind.u8 (y.toNat : Int) 15 = ((y.toNat % 16 : Nat) : Int) := and15 _ hy256
      have HA : Hid _ := ha
      clear ha
      go_wp2
      apply wp_region_mix 8 [_, _, _, .int .u8 (digitsB.getD (y.toNat / 16) 0).toNat, _, _, .int .u8 (digitsB.getD (y.toNat % 16) 0).toNat, undef] [none, none, none, none, none, none, none, some (fun u w' => ∃ g, u = .slice (some ⟨g, 0, none⟩) 2 2 ∧ wr.heap.size ≤ g ∧ w'.heap[g]? = some (.cells #[.int .u8 (digitsB.getD (y.toNat / 16) 0).toNat, .int .u8 (digitsB.getD (y.toNat % 16) 0).toNat] 5 (0, 0)))] [[], [], [1], [2], [], [4], [5], [3, 6]] (by kernel_rfl) (by kernel_rfl) (by simp [mixV])
      · refine ⟨?_, trivial⟩
        · exact fun u w w' he ⟨g, h1, h2, h3⟩ => ⟨g, h1, h2, (he.block g (Array.getElem?_eq_some_iff.1 h3).1).trans h3⟩
      · simp (maxSteps := 1000000) only [List.take_succ_cons, List.take_zero, oblFrom, stepObl, fillFrom, Act.put, List.setIfInBounds_toArray, List.set_cons_zero, List.set_cons_succ, knows, getV, mixV, List.getD_cons_zero, List.getD_cons_succ, and_true, true_and, forall_const]
        refine ⟨?_, ?_, ?_, ?_, ?_, ?_, ?_, ?_⟩
        · intro xs wq hq R hR
          go_simp
          exact hR _ _ (Ext.refl _) rfl
        · intro xs wq hq R hR
          go_simp
          exact hR _ _ (Ext.refl _) rfl
        · intro xs wq hq hk R hR
          go_simp
          exact hR _ _ (Ext.refl _) rfl
        · intro xs wq hq hk R hR
          go_simp
          rw [dif_pos ⟨by omega, by omega⟩]
          exact hR _ _ (Ext.refl _) (hex_hi y (by omega))
        · intro xs wq hq R hR
          go_simp
          exact hR _ _ (Ext.refl _) rfl
        · intro xs wq hq hk R hR
          go_simp
          exact hR _ _ (Ext.refl _) rfl
        · intro xs wq hq hk R hR
          go_simp
          rw [HA.out, dif_pos ⟨by omega, by omega⟩]
          exact hR _ _ (Ext.refl _) (hex_lo y (by omega))
        · intro xs wq hq hk R hR
          obtain ⟨hk0, hk1⟩ := hk
          go_simp
          exact hR _ _ ((Ext.refl _).alloc _) ⟨_, rfl, hq.size, alloc_at _ _⟩
      intro xs w2 hx2 hk
      simp only [heldV, Nat.zero_add, Nat.reduceAdd, and_true] at hk
      obtain ⟨q0, q1, q2, q3, q4, q5, q6, q7⟩ := hk
      simp (maxSteps := 1000000) only [List.take_succ_cons, List.take_zero, List.drop_succ_cons, List.drop_zero, fillFrom, Act.put, List.setIfInBounds_toArray, List.set_cons_zero, List.set_cons_succ, Nat.zero_add, Nat.reduceAdd, q0, q1, q2, q3, q4, q5, q6]
      clear q0 q1 q2 q3 q4 q5 q6
      generalize xs 7 = x7 at *
      obtain ⟨g, rfl, hg1, hg2⟩ := q7
      have hown2 := owns_ext hown hx2
      have hlen := hex_len (l.take k)
      go_wp2_with (at_builtin; refine app_u8 rfl _ _ rfl w.heap.size _ (2 * k) _ rfl hown2 g 2 2 [digitsB.getD (y.toNat / 16) 0, digitsB.getD (y.toNat % 16) 0] rfl rfl hg2 (by omega) (by have := (hx.trans hx2).size; exact this) ?_; intro v' w3 hown3 hg3)
      go_roundw
      case rel => exact ⟨k + 1, by omega, by go_num, by rw [hex_snoc hlt HY.out]; exact hown3, owns_ext_app (hx.trans hx2) hown2 hg3⟩
      case measure => simp [intOf]; omega
    · have hkk : k = l.length := by omega
      subst hkk
      rw [List.take_length] at hown
      have hlen := hex_len l
      have hcv := conv_bytes (l := hexM l) (by unfold IsBytes; rw [hlen]; exact Row.of_owns hown (by omega))
      clear hlen
      go_wp2
      go_ret
      exact ⟨rfl, hx⟩

/-! ### Unhex -/
theorem index_dig : ∀ n : Fin 256, Lib.indexByte digitsB (UInt8.ofNat n) = if digM (UInt8.ofNat n) < 16 then (digM (UInt8.ofNat n) : Int) else -1 := by decide +kernel
theorem index_digM (c : UInt8) : Lib.indexByte digitsB c = if digM c < 16 then (digM c : Int) else -1 := by
  have := index_dig ⟨c.toNat, c.toNat_lt⟩
  simpa using this
theorem or16 : ∀ a b : Fin 16, bits BinOp.or IntKind.i64 ((a.val : Int) * 16) (b.val : Int) = (a.val : Int) * 16 + b.val := by decide +kernel
theorem idx_val {l : B8} {i : Int} {n : Nat} {x : UInt8} (hi : i = n) (hx : l.getD n 0 = x) (h : i.toNat < (⟨l.toArray⟩ : ByteArray).size) : Value.int .u8 (((⟨l.toArray⟩ : ByteArray)[i.toNat]).toNat : Int) = .int .u8 x.toNat := by
  subst hi
  have h' : n < l.length := h
  have : (⟨l.toArray⟩ : ByteArray)[(n : Int).toNat] = l[n] := rfl
  rw [this, ← hx]
  simp [h']
theorem ix_val (l : B8) (x : UInt8) {r : Int} (hr : Lib.indexByte l x = r) : Value.int .i64 (Lib.indexByte l ((x.toNat : Int).toNat.toUInt8)) = .int .i64 r := by
  rw [← hr]; simp
theorem unhex_two (x y : UInt8) (l : B8) : unhexM (x :: y :: l) = if digM x < 16 ∧ digM y < 16 then (unhexM l).map (UInt8.ofNat (16 * digM x + digM y) :: ·) else none := rfl
theorem unhex_append : ∀ (a b : B8), a.length % 2 = 0 → unhexM (a ++ b) = (unhexM a).bind fun x => (unhexM b).map (x ++ ·)
  | [], b, _ => by simp [unhexM]
  | [x], b, h => by simp at h
  | x :: y :: a, b, h => by
    have ih := unhex_append a b (by simp only [List.length_cons] at h; omega)
    rw [List.cons_append, List.cons_append, unhex_two, unhex_two, ih]
    by_cases hd : digM x < 16 ∧ digM y < 16
    · rw [if_pos hd, if_pos hd]
      cases unhexM a with
      | none => rfl
      | some r => cases unhexM b <;> rfl
    · rw [if_neg hd, if_neg hd]
      rfl
theorem unhex_odd {l : B8} (h : l.length % 2 = 1) : unhexM l = none := by
  cases hu : unhexM l with
  | none => rfl
  | some b => have := (unhex_len l hu).1; omega
theorem unhex_snoc {l bs : B8} {k : Nat} {x y : UInt8} (h : 2 * k + 1 < l.length) (hx : l.getD (2 * k) 0 = x) (hy : l.getD (2 * k + 1) 0 = y) (hu : unhexM (l.take (2 * k)) = some bs) :
    l.take (2 * (k + 1)) = l.take (2 * k) ++ [x, y] ∧ unhexM (l.take (2 * (k + 1))) = (if digM x < 16 ∧ digM y < 16 then some (bs ++ [UInt8.ofNat (16 * digM x + digM y)]) else none) := by
  have he : l.take (2 * (k + 1)) = l.take (2 * k) ++ [x, y] := by
    have h1 : l[2 * k]? = some x := by rw [← hx]; simp [List.getD_eq_getElem?_getD, show 2 * k < l.length by omega]
    have h2 : l[2 * k + 1]? = some y := by rw [← hy]; simp [List.getD_eq_getElem?_getD, h]
    rw [show 2 * (k + 1) = 2 * k + 1 + 1 by omega, List.take_add_one, List.take_add_one, h1, h2, List.append_assoc]
    rfl
  refine ⟨he, ?_⟩
  rw [he, unhex_append _ _ (by rw [List.length_take]; omega), hu]
  by_cases hd : digM x < 16 ∧ digM y < 16
  · rw [if_pos hd]
    simp [unhexM, hd.1, hd.2]
  · rw [if_neg hd]
    simp only [unhexM, if_neg hd]
    rfl
theorem unhex_none {l bs : B8} {k : Nat} {x y : UInt8} (h : 2 * k + 1 < l.length) (hx : l.getD (2 * k) 0 = x) (hy : l.getD (2 * k + 1) 0 = y) (hu : unhexM (l.take (2 * k)) = some bs) (hd : ¬ (digM x < 16 ∧ digM y < 16)) : unhexM l = none := by
  obtain ⟨h1, h2⟩ := unhex_snoc h hx hy hu
  rw [if_neg hd] at h2
  have := unhex_append (l.take (2 * (k + 1))) (l.drop (2 * (k + 1))) (by rw [List.length_take]; omega)
  rw [List.take_append_drop, h2] at this
  exact this
def UnhexPost (l : B8) (w : World) (e : Ending) (w' : World) : Prop :=
  (match unhexM l with
    | some b => ∃ v, e = .returned (.tuple #[v, .bool true]) ∧ IsBytes w' v b
    | none => e = .returned (.tuple #[.slice none 0 0, .bool false])) ∧ Ext w w'

set_option maxRecDepth 100000 in
set_option maxHeartbeats 800000 in
theorem unhex_any (l : B8) (w : World) (hl : l.length ≤ 30000000) :
    Calls Tryz.prog 105 #[S8 l] w (UnhexPost l w) := by
  have hd : (⟨l.toArray⟩ : ByteArray).toList = l := Lib.toList_data _
  by_cases hodd : l.length % 2 = 0
  · obtain ⟨m, hm⟩ : ∃ m, l.length = 2 * m := ⟨l.length / 2, by omega⟩
    have hmod : (l.length : Int).tmod 2 = 0 := by
      rw [hm]
      exact Int.tmod_eq_zero_of_dvd ⟨(m : Int), by push_cast; rfl⟩
    have HM : Hid _ := hm
    clear hodd
    go_enter Tryz.func105, Tryz.ntmps105
    go_wp2
    clear hmod
    go_loopw [4, 5] (fun v i wr => ∃ (k : Nat) (bs : B8), 2 * k ≤ l.length ∧ i = .int .i64 (2 * k) ∧ bs.length = k ∧ Hid (unhexM (l.take (2 * k)) = some bs) ∧ wr.ownsRow w.heap.size 5 1 v k (bs.map fun x => .int .u8 x.toNat) ∧ Ext w wr) (fun _ i _ => l.length - (intOf i).toNat)
    case atStart => exact ⟨0, [], Nat.zero_le _, rfl, rfl, rfl, World.ownsRow_nil _ _ _ _, Ext.refl _⟩
    case round =>
      obtain ⟨k, bs, hk, rfl, hbl, HU, hown, hx⟩ := hrel
      have hm := HM.out
      by_cases hlt : 2 * k < l.length
      · have hlt1 : 2 * k + 1 < l.length := by omega
        have hl1 : 2 * (k : Int) < (l.length : Int) := by omega
        have hl2 : (2 * (k : Int) + 1) < (l.length : Int) := by omega
        have hwr : IntKind.i64.wrap (2 * (k : Int) + 1) = 2 * (k : Int) + 1 := IntWalk.i64_in _ (by omega)
        have HW : Hid _ := hwr
        obtain ⟨x, hxe⟩ : ∃ x, l.getD (2 * k) 0 = x := ⟨_, rfl⟩
        obtain ⟨y, hye⟩ : ∃ y, l.getD (2 * k + 1) 0 = y := ⟨_, rfl⟩
        have HX : Hid _ := hxe
        have HY : Hid _ := hye
        obtain ⟨r, hr⟩ : ∃ r, Lib.indexByte digitsB x = r := ⟨_, rfl⟩
        obtain ⟨s, hs⟩ : ∃ s, Lib.indexByte digitsB y = s := ⟨_, rfl⟩
        have HRX : Hid _ := hr
        have HSY : Hid _ := hs
        have hrv := index_digM x
        have hsv := index_digM y
        rw [hr] at hrv
        rw [hs] at hsv
        have HRV : Hid _ := hrv
        have HSV : Hid _ := hsv
        clear hwr hm hxe hye hr hs hrv hsv
        go_wp2
        apply wp_region_mix 9 [_, _, .int .u8 x.toNat, .int .i64 r, _, _, _, .int .u8 y.toNat, .int .i64 s] [none, none, none, none, none, none, none, none, none] [[], [], [0, 1], [2], [], [], [5], [4, 6], [7]] (by kernel_rfl) (by kernel_rfl) (by simp [mixV])
        · trivial
        · simp (maxSteps := 1000000) only [List.take_succ_cons, List.take_zero, oblFrom, stepObl, fillFrom, Act.put, List.setIfInBounds_toArray, List.set_cons_zero, List.set_cons_succ, knows, getV, mixV, List.getD_cons_zero, List.getD_cons_succ, and_true, true_and, forall_const]
          refine ⟨?_, ?_, ?_, ?_, ?_, ?_, ?_, ?_, ?_⟩
          · intro xs wq hq R hR
            go_simp
            exact hR _ _ (Ext.refl _) rfl
          · intro xs wq hq R hR
            go_simp
            exact hR _ _ (Ext.refl _) rfl
          · intro xs wq hq hk R hR
            obtain ⟨hk0, hk1⟩ := hk
            go_simp
            rw [dif_pos (by omega)]
            exact hR _ _ (Ext.refl _) (idx_val (by omega) HX.out (by show (2 * (k : Int)).toNat < l.length; omega))
          · intro xs wq hq hk R hR
            go_simp
            refine (Tryz.strings_IndexByte ⟨digitsB.toArray⟩ x.toNat _).mono ?_
            rintro e w2 ⟨rfl, rfl⟩
            exact ⟨_, rfl, hR _ _ (Ext.refl _) (ix_val _ x HRX.out)⟩
          · intro xs wq hq R hR
            go_simp
            exact hR _ _ (Ext.refl _) rfl
          · intro xs wq hq R hR
            go_simp
            exact hR _ _ (Ext.refl _) rfl
          · intro xs wq hq hk R hR
            go_simp
            exact hR _ _ (Ext.refl _) rfl
          · intro xs wq hq hk R hR
            obtain ⟨hk0, hk1⟩ := hk
            go_simp
            simp only [HW.out]
            rw [dif_pos ⟨by omega, by omega⟩]
            exact hR _ _ (Ext.refl _) (idx_val (by omega) HY.out (by show (2 * (k : Int) + 1).toNat < l.length; omega))
          · intro xs wq hq hk R hR
            go_simp
            refine (Tryz.strings_IndexByte ⟨digitsB.toArray⟩ y.toNat _).mono ?_
            rintro e w2 ⟨rfl, rfl⟩
            exact ⟨_, rfl, hR _ _ (Ext.refl _) (ix_val _ y HSY.out)⟩
        intro xs w2 hx2 hk
        simp only [heldV, Nat.zero_add, Nat.reduceAdd, and_true] at hk
        obtain ⟨q0, q1, q2, q3, q4, q5, q6, q7, q8⟩ := hk
        simp (maxSteps := 1000000) only [List.take_succ_cons, List.take_zero, List.drop_succ_cons, List.drop_zero, fillFrom, Act.put, List.setIfInBounds_toArray, List.set_cons_zero, List.set_cons_succ, Nat.zero_add, Nat.reduceAdd, q0, q1, q2, q3, q4, q5, q6, q7, q8]
        clear q0 q1 q2 q3 q4 q5 q6 q7 q8
        have hrv := HRV.out
        have hsv := HSV.out
        have hx2' := Ext.trans hx hx2
        by_cases hxd : digM x < 16
        · rw [if_pos hxd] at hrv
          by_cases hyd : digM y < 16
          · rw [if_pos hyd] at hsv
            obtain ⟨z, hz⟩ : ∃ z, UInt8.ofNat (16 * digM x + digM y) = z := ⟨_, rfl⟩
            have hbv : bits BinOp.or IntKind.i64 (r * 16) s % 256 = (z.toNat : Int) := by
              have := or16 ⟨digM x, hxd⟩ ⟨digM y, hyd⟩
              simp only at this
              rw [hrv, hsv, this, ← hz]
              simp only [UInt8.toNat_ofNat']
              omega
            have HZ : Hid _ := hz
            have hr0 : ¬ r < 0 := by omega
            have hs0 : ¬ s < 0 := by omega
            have hr16 : r < 16 := by omega
            have hs16 : s < 16 := by omega
            have HXD : Hid _ := hxd
            have HYD : Hid _ := hyd
            have hown2 := owns_ext hown hx2
            have hsz := hx2'.size
            clear hrv hsv hz hxd hyd hown
            go_wp2_with (at_builtin; go_must (refine app_u8 rfl _ _ rfl w.heap.size _ k _ rfl (hown2.alloc _) w2.heap.size 1 1 [z] rfl rfl (alloc_at _ _) (by omega) (by simp; omega) ?_; intro v' w3 hown3 hg3))
            go_roundw
            case rel => exact ⟨k + 1, bs ++ [z], by omega, by go_num, by simp [hbl], by unfold Hid; rw [(unhex_snoc hlt1 HX.out HY.out HU.out).2, if_pos ⟨HXD.out, HYD.out⟩, HZ.out], by simpa using hown3, owns_ext_app (hx2'.alloc _) (hown2.alloc _) hg3⟩
            case measure => simp [intOf]; omega
          · rw [if_neg hyd] at hsv
            have HN : Hid _ := unhex_none hlt1 HX.out HY.out HU.out (fun h => hyd h.2)
            have hr0 : ¬ r < 0 := by omega
            have hs0 : s < 0 := by omega
            clear hrv hsv hxd hyd
            go_wp2
            go_ret2
            unfold UnhexPost
            rw [HN.out]
            exact ⟨rfl, hx2'⟩
        · rw [if_neg hxd] at hrv
          have HN : Hid _ := unhex_none hlt1 HX.out HY.out HU.out (fun h => hxd h.1)
          have hr0 : r < 0 := by omega
          clear hrv hsv hxd
          go_wp2
          go_ret2
          unfold UnhexPost
          rw [HN.out]
          exact ⟨rfl, hx2'⟩
      · have hg : ¬ (2 * (k : Int)) < (l.length : Int) := by omega
        have hlk : 2 * k = l.length := by omega
        have hu := HU.out
        rw [hlk, List.take_length] at hu
        have HUL : Hid _ := hu
        have hb : IsBytes wr u4 bs := by
          unfold IsBytes
          rw [hbl]
          exact Row.of_owns hown (by omega)
        have HBS : Hid _ := hb
        clear hb hown hu hlk hm
        go_wp2
        go_ret2
        unfold UnhexPost
        rw [HUL.out]
        exact ⟨⟨_, rfl, HBS.out⟩, hx⟩
  · have ho : l.length % 2 = 1 := by omega
    have hmod : (l.length : Int).tmod 2 = 1 := by rw [Int.tmod_eq_emod_of_nonneg (by omega)]; omega
    have HN : Hid _ := unhex_odd ho
    clear hodd ho
    go_enter Tryz.func105, Tryz.ntmps105
    go_wp2
    go_ret2
    unfold UnhexPost
    rw [HN.out]
    exact ⟨rfl, Ext.refl _⟩

set_option maxRecDepth 100000 in
theorem valid_any (l : B8) (w : World) (hl : l.length ≤ 30000000) :
    Calls Tryz.prog 65 #[S8 l] w fun e w' => e = .returned (.bool (validB l)) ∧ Ext w w' := by
  go_enter Tryz.func65, Tryz.ntmps65
  go_wp2_with fail
  go_at_call 105
  refine (unhex_any l w hl).mono ?_
  rintro e w1 ⟨h, hx⟩
  have HV : Hid (validB l = match unhexM l with | some b => b.length == 32 | none => false) := rfl
  cases hu : unhexM l with
  | none =>
    rw [hu] at h
    have HV2 : Hid (validB l = false) := by unfold Hid; rw [HV.out, hu]
    subst h
    clear hu HV
    go_wp2
    go_ret
    exact ⟨by rw [HV2.out]; rfl, hx⟩
  | some b =>
    rw [hu] at h
    obtain ⟨v, rfl, hb⟩ := h
    obtain ⟨s1, s2, rfl, -⟩ := id hb
    have hv : validB l = (b.length == 32) := by rw [HV.out, hu]
    have hlen := (unhex_len l hu).1
    have hbe : (((b.length : Nat) : Int) == 32) = validB l := by
      rw [hv]
      by_cases h32 : b.length = 32
      · rw [h32]; rfl
      · have h1 : (b.length == 32) = false := by simpa using h32
        rw [h1]
        simp only [beq_eq_false_iff_ne, ne_eq]
        omega
    have HBE : Hid _ := hbe
    clear hu HV hv hb hbe hlen
    go_wp2
    go_ret
    exact ⟨by rw [← HBE.out]; rfl, hx⟩

end Go.Proofs.YtdhgmpibjneplaaGreatDoor

/-! A region that draws its order and only reads, walked once: each step's rest behind a structure, so that nothing of it is unfolded ahead of its turn. Conditions: as each theorem states. -/
namespace Go.Proofs.YtdhgmpibjneplaaGreatDoor
open Go Go.RowKit Go.Sort

structure QW (p : Prop) : Prop where
  out : p
section
variable {P : Program} {ops : Array Oper} {C : World → Prop}
theorem qw_nil {Q : Act → Prop} {a : Act} (h : Q a) : QW (wpQuiet P ops C Q [] a) := ⟨wpQuiet_nil h⟩
theorem qw_step {Q : Act → Prop} {a : Act} {o : Oper} {rest : List Oper}
    (h : ∀ K : Act → Prop, (∀ a, QW (wpQuiet P ops C Q rest a) → K a) → if Region.wanted o (yielded ops a.tmps) then o.quiet P a C K else K (a.put o.dst undef)) : QW (wpQuiet P ops C Q (o :: rest) a) :=
  ⟨wpQuiet_step fun K hK => h K (fun a ha => hK a ha.out)⟩
/-- .. where calls may lay blocks. -/
theorem qw_below {id : Nat} {Q : Exit → Act → World → Prop} {a : Act} {w : World} {l : List Oper} (hm : P.follows .mixedOrders = true) (hB : Region.lexB .any l.toArray = true)
    (h : QW (wpQuiet P l.toArray (fun w' => ∃ p : Regrown, w' = grow (redrawn w p.d) p.os) (fun a' => ∀ w', (∃ p : Regrown, w' = grow (redrawn w p.d) p.os) → Q .normal a' w') l a)) : (Code.region id l.toArray true).wp P Q a w :=
  wp_region_quiet_below hm hB h.out
end
theorem Ext.drawn (w : World) (n : Nat) : Ext w (w.drewN n) := ⟨rfl, rfl, rfl, Nat.le_refl _, fun _ _ => rfl⟩
theorem Ext.regrown (w : World) (d : Nat) (os : Array Obj) : Ext w (grow (redrawn w d) os) := below_regrown w d os

end Go.Proofs.YtdhgmpibjneplaaGreatDoor

/-! A region that draws its order and whose calls make blocks of their own: that the blocks of two of them differ is known behind it. Conditions: each operation of the head leaves what was there as it was. -/
namespace Go.Proofs.YtdhgmpibjneplaaGreatDoor
open Go Go.RowKit

/-- The block that a map or a slice lies in. -/
def blkOf : Value → Option Nat
  | .map (some g) => some g
  | .slice (some a) _ _ => some a.block
  | .pointer (some a) => some a.block
  | _ => none
/-- What an operation hands back lies in a block that it made. -/
def FreshIn (u : Value) (w w' : World) : Prop := ∀ b, blkOf u = some b → w.heap.size ≤ b ∧ b < w'.heap.size
def Dis (F : List Nat) (xs : Nat → Value) (i j : Nat) : Prop := i ∈ F → j ∈ F → i ≠ j → ∀ b, blkOf (xs i) = some b → blkOf (xs j) = some b → False

section
variable {P : Program} {C : World → Prop} {le : World → World → Prop}
def stepDis (P : Program) (C : World → Prop) (le : World → World → Prop) (F : List Nat) (ops : Array Oper) (V : List (Value → World → Prop)) (head : List Oper) (a0 : Act) (k : Nat) (d : List Nat) (o : Oper) : Prop :=
  ∀ (xs : Nat → Value) (w : World), C w → knows V xs w d → ∀ R : Value → World → Prop, (∀ u w', le w w' → getV V k u w' → (k ∈ F → FreshIn u w w') → R u w') →
    if Region.wanted o (yielded ops (fillFrom xs head 0 a0).tmps) then relUpon P R ((execOp (fillFrom xs head 0 a0).eval o).run P w) else R undef w
def oblDis (P : Program) (C : World → Prop) (le : World → World → Prop) (F : List Nat) (ops : Array Oper) (V : List (Value → World → Prop)) (D : List (List Nat)) (head : List Oper) (a0 : Act) : List Oper → Nat → Prop
  | [], _ => True
  | o :: l, k => stepDis P C le F ops V head a0 k (D.getD k []) o ∧ oblDis P C le F ops V D head a0 l (k + 1)
structure RDis (C : World → Prop) (F : List Nat) (ops : Array Oper) (n : Nat) (V : List (Value → World → Prop)) (a0 : Act) (listed : Array Bool) (a : Act) (w : World) : Prop where
  head : HeadInv .any ops n listed
  ext : C w
  fill : ∃ xs : Nat → Value, a = fillFrom xs (ops.toList.take n) 0 a0 ∧ (∀ j, j < n → listed.getD j false = true → getV V j (xs j) w) ∧ (∀ i j, i < n → j < n → listed.getD i false = true → listed.getD j false = true → Dis F xs i j) ∧ (∀ j, j < n → listed.getD j false = true → j ∈ F → ∀ b, blkOf (xs j) = some b → b < w.heap.size)

end

end Go.Proofs.YtdhgmpibjneplaaGreatDoor

/-! fsim.FS: Copy. Conditions: what holds of a file system at all times. -/
namespace Go.Proofs.YtdhgmpibjneplaaGreatDoor
open Go Go.RowKit

theorem owns_low {w : World} {base base' : Nat} {e : TypeId} {size : Nat} {v : Value} {n : Nat} {xs : List Value} (h : w.ownsRow base e size v n xs) (hb : base' ≤ base) : w.ownsRow base' e size v n xs := by
  refine ⟨h.1, h.2.imp id ?_⟩
  rintro ⟨g, cap, cur, h1, h2, h3⟩
  exact ⟨g, cap, cur, h1, Nat.le_trans hb h2, h3⟩
theorem OwnE.ext {base : Nat} {w w' : World} {v : Value} {L : List Ev} (h : OwnE base w v L) (hx : Ext w w') : OwnE base w' v L := by
  obtain ⟨css, h1, h2⟩ := h
  exact ⟨css, owns_ext h1 hx, h2.imp (fun c x hc => (hc.keepR (KeepR.of_keep (KeepB.of_ext hx))).mono (fun k hk => ⟨hk.1, Nat.lt_of_lt_of_le hk.2 hx.size⟩))⟩
theorem OwnE.low {base base' : Nat} {w : World} {v : Value} {L : List Ev} (h : OwnE base w v L) (hb : base' ≤ base) : OwnE base' w v L := by
  obtain ⟨css, h1, h2⟩ := h
  exact ⟨css, owns_low h1 hb, h2.imp (fun c x hc => hc.mono (fun k hk => ⟨Nat.le_trans hb hk.1, hk.2⟩))⟩

end Go.Proofs.YtdhgmpibjneplaaGreatDoor

/-! sha: words turned; the schedule of a block. Conditions: as each theorem states. -/
namespace Go.Proofs.YtdhgmpibjneplaaGreatDoor
open Go Go.RowKit

theorem sub_of (s : Nat) (hs : s < 32) : (32 : UInt32) - UInt32.ofNat s = UInt32.ofNat (32 - s) := by
  apply UInt32.toNat_inj.1
  have h1 : (UInt32.ofNat s).toNat = s := by simp; omega
  have h2 : (UInt32.ofNat (32 - s)).toNat = 32 - s := by simp; omega
  rw [UInt32.toNat_sub_of_le _ _ (by rw [UInt32.le_iff_toNat_le, h1]; show s ≤ 32; omega), h1, h2]
  rfl
set_option maxRecDepth 100000 in
theorem rotl_any (x : UInt32) (k s : Nat) (w : World) (hs0 : 0 < s) (hs : s < 32) (hb : bits BinOp.and IntKind.u64 (IntKind.u64.wrap (-(k : Int))) 31 = (s : Int)) :
    Calls Tryz.prog 215 #[U32 x, .int .i64 (-(k : Int))] w fun e w' => e = .returned (U32 (rotl x (UInt32.ofNat s))) ∧ w' = w := by
  have h1 : (0 : Int) ≤ (s : Int) := by omega
  have h2 : (s : Int) ≤ 32 := by omega
  have h3 : IntKind.u64.wrap (32 - (s : Int)) = ((32 - s : Nat) : Int) := by rw [IntWalk.u64_in _ (by omega)]; omega
  have h4 : (0 : Int) ≤ ((32 - s : Nat) : Int) := by omega
  have h5 : ((32 - s : Nat) : Int) ≤ 32 := by omega
  have HV : Hid (Value.int IntKind.u32 (bits BinOp.or IntKind.u32 (↑x.toNat * 2 ^ s % 4294967296) (↑x.toNat / 2 ^ (32 - s))) = U32 (rotl x (UInt32.ofNat s))) := by
    unfold Hid rotl
    rw [shl32 x s hs, shr32 x (32 - s) (by omega), bits_or32, sub_of s hs]
  go_enter Tryz.func215, Tryz.ntmps215
  go_wp2
  go_ret
  exact ⟨congrArg Ending.returned HV.out, rfl⟩
theorem rot6 (x : UInt32) (w : World) : Calls Tryz.prog 215 #[U32 x, .int .i64 (-6)] w fun e w' => e = .returned (U32 (rotl x 26)) ∧ w' = w := rotl_any x 6 26 w (by decide) (by decide) (by decide +kernel)
theorem rot11 (x : UInt32) (w : World) : Calls Tryz.prog 215 #[U32 x, .int .i64 (-11)] w fun e w' => e = .returned (U32 (rotl x 21)) ∧ w' = w := rotl_any x 11 21 w (by decide) (by decide) (by decide +kernel)
theorem rot25 (x : UInt32) (w : World) : Calls Tryz.prog 215 #[U32 x, .int .i64 (-25)] w fun e w' => e = .returned (U32 (rotl x 7)) ∧ w' = w := rotl_any x 25 7 w (by decide) (by decide) (by decide +kernel)
theorem rot2 (x : UInt32) (w : World) : Calls Tryz.prog 215 #[U32 x, .int .i64 (-2)] w fun e w' => e = .returned (U32 (rotl x 30)) ∧ w' = w := rotl_any x 2 30 w (by decide) (by decide) (by decide +kernel)
theorem rot13 (x : UInt32) (w : World) : Calls Tryz.prog 215 #[U32 x, .int .i64 (-13)] w fun e w' => e = .returned (U32 (rotl x 19)) ∧ w' = w := rotl_any x 13 19 w (by decide) (by decide) (by decide +kernel)
theorem rot22 (x : UInt32) (w : World) : Calls Tryz.prog 215 #[U32 x, .int .i64 (-22)] w fun e w' => e = .returned (U32 (rotl x 10)) ∧ w' = w := rotl_any x 22 10 w (by decide) (by decide) (by decide +kernel)
theorem rot7 (x : UInt32) (w : World) : Calls Tryz.prog 215 #[U32 x, .int .i64 (-7)] w fun e w' => e = .returned (U32 (rotl x 25)) ∧ w' = w := rotl_any x 7 25 w (by decide) (by decide) (by decide +kernel)
theorem rot18 (x : UInt32) (w : World) : Calls Tryz.prog 215 #[U32 x, .int .i64 (-18)] w fun e w' => e = .returned (U32 (rotl x 14)) ∧ w' = w := rotl_any x 18 14 w (by decide) (by decide) (by decide +kernel)
theorem rot17 (x : UInt32) (w : World) : Calls Tryz.prog 215 #[U32 x, .int .i64 (-17)] w fun e w' => e = .returned (U32 (rotl x 15)) ∧ w' = w := rotl_any x 17 15 w (by decide) (by decide) (by decide +kernel)
theorem rot19 (x : UInt32) (w : World) : Calls Tryz.prog 215 #[U32 x, .int .i64 (-19)] w fun e w' => e = .returned (U32 (rotl x 13)) ∧ w' = w := rotl_any x 19 13 w (by decide) (by decide) (by decide +kernel)

end Go.Proofs.YtdhgmpibjneplaaGreatDoor

/-! sha.schedule: a block's words, spread over the rounds. Conditions: a block of 64 bytes. -/
namespace Go.Proofs.YtdhgmpibjneplaaGreatDoor
open Go Go.RowKit

/-- A block of n cells that hold words. -/
def wordsC (l : List UInt32) (n : Nat) : Array Value := ((l ++ List.replicate (n - l.length) 0).map U32).toArray
theorem wordsC_size {l : List UInt32} {n : Nat} (h : l.length ≤ n) : (wordsC l n).size = n := by
  unfold wordsC
  simp
  omega
theorem wordsC_get {l : List UInt32} {n i : Nat} (h : i < l.length) : (wordsC l n)[i]? = some (U32 (l.getD i 0)) := by
  unfold wordsC
  simp [List.getElem?_append, h, List.getD_eq_getElem?_getD]
theorem wordsC_put {l : List UInt32} {n : Nat} (x : UInt32) (h : l.length < n) : wordsC (l ++ [x]) n = ((wordsC l n).toList.take l.length ++ [U32 x] ++ (wordsC l n).toList.drop (l.length + 1)).toArray := by
  unfold wordsC
  apply Array.ext'
  simp only [List.toList_toArray, List.map_append, List.map_cons, List.map_nil]
  rw [List.take_left' (by simp), show n - l.length = (n - (l ++ [x]).length) + 1 by simp; omega, List.replicate_succ, List.map_cons, List.append_assoc, List.append_assoc]
  congr 1
  rw [List.drop_append, List.length_map, show l.length + 1 - l.length = 1 by omega, List.drop_eq_nil_of_le (by simp)]
  simp
theorem wordsC_full {l : List UInt32} {n : Nat} (h : l.length = n) : wordsC l n = (l.map U32).toArray := by
  unfold wordsC
  rw [show n - l.length = 0 by omega]
  simp
theorem words_cell {w : World} {g : Nat} {l : List UInt32} {n i : Nat} {t : TypeId} {fr : Nat × Nat} (hg : w.heap[g]? = some (.cells (wordsC l n) t fr)) (h : i < l.length) : w.cell? ⟨g, i, none⟩ = some (U32 (l.getD i 0)) :=
  (cell_of_row w g i _ _ _ hg).trans (wordsC_get h)
theorem info_u32 : (Tryz.prog.info? 205).map (·.size) = some 1 := by kernel_rfl
theorem conv_u32 (y : UInt8) : Value.int .u32 (IntKind.u32.wrap (y.toNat : Int)) = U32 y.toUInt32 := by
  have := y.toNat_lt
  rw [wrap_u32 _ (by omega)]
  simp [U32]
theorem shl24 (x : UInt32) : Value.int .u32 (IntKind.u32.wrap ((x.toNat : Int) * 16777216)) = U32 (x <<< 24) := by
  have h := shl32 x 24 (by decide)
  have e : IntKind.u32.wrap ((x.toNat : Int) * 16777216) = ((x.toNat : Int) * 16777216) % 4294967296 := by rw [IntKind.wrap_u32]
  rw [e]
  exact congrArg _ h
theorem shl16 (x : UInt32) : Value.int .u32 (IntKind.u32.wrap ((x.toNat : Int) * 65536)) = U32 (x <<< 16) := by
  have h := shl32 x 16 (by decide)
  have e : IntKind.u32.wrap ((x.toNat : Int) * 65536) = ((x.toNat : Int) * 65536) % 4294967296 := by rw [IntKind.wrap_u32]
  rw [e]
  exact congrArg _ h
theorem shl8 (x : UInt32) : Value.int .u32 (IntKind.u32.wrap ((x.toNat : Int) * 256)) = U32 (x <<< 8) := by
  have h := shl32 x 8 (by decide)
  have e : IntKind.u32.wrap ((x.toNat : Int) * 256) = ((x.toNat : Int) * 256) % 4294967296 := by rw [IntKind.wrap_u32]
  rw [e]
  exact congrArg _ h
theorem or_u32 (x y : UInt32) : Value.int .u32 (bits .or .u32 (x.toNat : Int) (y.toNat : Int)) = U32 (x ||| y) := congrArg _ (bits_or32 x y)
theorem add_u32 (x y : UInt32) : Value.int .u32 (((x.toNat : Int) + (y.toNat : Int)) % 4294967296) = U32 (x + y) := congrArg _ (add32 x y)
theorem sched_snoc (b : B8) (k : Nat) : wSched b (k + 1) = wSched b k ++ [if k < 16 then be4 b k else wNext (wSched b k) k] := rfl

section
variable {ops : Array Oper} {rest : List Oper} {o : Oper} {a : Act} {Q : Exit → Act → World → Prop} {w : World}
/-- A store of all cells of a block known whole. -/
theorem store_all (hgd : o.guard = none) (ty : TypeId) (x y : Operand) (ho : o.op = .store ty x y) (g j : Nat) (hx : a.eval x = .pointer (some ⟨g, j, none⟩)) (vs : Array Value) (hy : a.eval y = .agg vs) (h1 : ∀ v ∈ vs.toList, v.oneCell' = true)
    (t : TypeId) (cur : Array Value) (hg : w.heap[g]? = some (.cells cur t (0, 0))) (hj : j + vs.size ≤ cur.size) (hi : (Tryz.prog.info? ty).map (·.size) = some vs.size) (new : Array Value) (hnew : new = (cur.toList.take j ++ vs.toList ++ cur.toList.drop (j + vs.size)).toArray)
    (h : ∀ w', w'.heap[g]? = some (.cells new t (0, 0)) → w.grownBy w' (some g) → wpList Tryz.prog ops Q rest (a.put o.dst undef) w') : wpList Tryz.prog ops Q (o :: rest) a w :=
  wpList_plain hgd fun _ hK => by
    have hs := run_storeCells_at (P := Tryz.prog) g j t vs.toList 0 cur w hg (by simpa using hj) h1
    have hr : (storeVar ty ⟨g, j, none⟩ (.agg vs)).run Tryz.prog w = .ok () (w.setRow g new) := by
      cases hq : Tryz.prog.info? ty with
      | none => simp [hq] at hi
      | some i =>
        have hs1 : i.size = vs.size := by simpa [hq] using hi
        simp only [Nat.add_zero, Array.length_toList] at hs
        rw [hnew]
        simp [storeVar, sizeOf, typeInfo, hq, Value.cells, hs1, hs]
    unfold Oper.wp execOp
    simp only [ho, hx, hy, Instr.storeAt, Instr.sureAddr, Sem.run_bind, Sem.run_pure, Result.andThen_ok, hr]
    exact hK _ _ (h _ (setRow_heap _ _ _ _ _ _ hg) (setRow_grown _ _ _))
end
theorem size_a64 : (Tryz.prog.info? 234).map (·.size) = some 64 := by kernel_rfl
theorem size_a8 : (Tryz.prog.info? 233).map (·.size) = some 8 := by kernel_rfl
theorem u32s_one (l : List UInt32) : ∀ v ∈ (l.map U32).toArray.toList, v.oneCell' = true := by
  intro v hv
  obtain ⟨x, -, rfl⟩ := List.mem_map.1 (by simpa using hv)
  rfl
theorem addw_u32 (x y : UInt32) : Value.int .u32 (IntKind.u32.wrap ((x.toNat : Int) + (y.toNat : Int))) = U32 (x + y) := by
  rw [IntKind.wrap_u32]
  exact add_u32 x y
/-- What the loop holds. -/
structure Sch (w wr : World) (b : B8) (k : Nat) : Prop where
  ext : Ext w wr
  now : wr.heap[w.heap.size + 1]? = some (.cells (wordsC (wSched b k) 64) 234 (0, 0))
  res : wr.heap[w.heap.size]? = some (.cells (wordsC [] 64) 234 (0, 0))
theorem Sch.more {w wr w2 : World} {b : B8} {k : Nat} (h : Sch w wr b k) (hx : Ext wr w2) : Sch w w2 b k := ⟨h.ext.trans hx, Ext.row hx h.now, Ext.row hx h.res⟩
theorem Sch.put {w wr w2 : World} {b : B8} {k : Nat} (h : Sch w wr b k) (hg : w2.heap[w.heap.size + 1]? = some (.cells (wordsC (wSched b (k + 1)) 64) 234 (0, 0))) (hgr : wr.grownBy w2 (some (w.heap.size + 1))) : Sch w w2 b (k + 1) :=
  ⟨Below.grown h.ext hgr h.ext.size (fun j hj => by cases hj; omega), hg, (hgr.block _ (Array.getElem?_eq_some_iff.1 h.res).1 (by simp)).trans h.res⟩

set_option maxRecDepth 100000 in
set_option maxHeartbeats 4000000 in
theorem schedule_any (v : Value) (b : B8) (w : World) (hv : IsBytes w v b) (hb : b.length = 64) :
    Calls Tryz.prog 214 #[v] w fun e w' => e = .returned (.agg ((wSched b 64).map U32).toArray) ∧ Ext w w' := by
  obtain ⟨a, cap, rfl, h1, h2, h3, h4⟩ := hv.get
  have H4 : Hid _ := h4
  have H64 : Hid _ := hb
  clear h4 hv hb
  go_enter Tryz.func214, Tryz.ntmps214
  go_wp2_with fail
  go_loopw [9] (fun i wr => ∃ k : Nat, k ≤ 64 ∧ i = .int .i64 k ∧ Sch w wr b k) (fun i _ => 64 - (intOf i).toNat)
  case atStart => exact ⟨0, by omega, rfl, ((Ext.refl _).alloc _).alloc _, by have h9 := alloc_at1 w (.cells (wordsC [] 64) 234) (.cells (wordsC [] 64) 234); exact h9, by have h9 := Ext.row ((Ext.refl _).alloc (.cells (wordsC [] 64) 234)) (alloc_at w (.cells (wordsC [] 64) 234)); exact h9⟩
  case round =>
    obtain ⟨k, hk, rfl, hS⟩ := hrel
    have HS : Hid _ := hS
    have hsl := sched_len b k
    clear hS
    by_cases hlt : k < 16
    · obtain ⟨bb, oo, rfl, hc⟩ := H4.out (4 * k) (by have := H64.out; omega)
      have hx := HS.out.ext
      have d0 := hx.cell (hc (4 * k) (by have := H64.out; omega))
      have d1 := hx.cell (hc (4 * k + 1) (by have := H64.out; omega))
      have d2 := hx.cell (hc (4 * k + 2) (by have := H64.out; omega))
      have d3 := hx.cell (hc (4 * k + 3) (by have := H64.out; omega))
      obtain ⟨y0, hy0⟩ : ∃ y, b.getD (4 * k) 0 = y := ⟨_, rfl⟩
      obtain ⟨y1, hy1⟩ : ∃ y, b.getD (4 * k + 1) 0 = y := ⟨_, rfl⟩
      obtain ⟨y2, hy2⟩ : ∃ y, b.getD (4 * k + 2) 0 = y := ⟨_, rfl⟩
      obtain ⟨y3, hy3⟩ : ∃ y, b.getD (4 * k + 3) 0 = y := ⟨_, rfl⟩
      rw [hy0] at d0
      rw [hy1] at d1
      rw [hy2] at d2
      rw [hy3] at d3
      have HSN : Hid (wSched b (k + 1) = wSched b k ++ [(((y0.toUInt32 <<< 24) ||| (y1.toUInt32 <<< 16)) ||| (y2.toUInt32 <<< 8)) ||| y3.toUInt32]) := by
        unfold Hid
        rw [sched_snoc, if_pos hlt]
        unfold be4
        rw [hy0, hy1, hy2, hy3]
      clear hy0 hy1 hy2 hy3 hc hx
      obtain ⟨x0, hx0⟩ : ∃ x, y0.toUInt32 = x := ⟨_, rfl⟩
      obtain ⟨x1, hx1⟩ : ∃ x, y1.toUInt32 = x := ⟨_, rfl⟩
      obtain ⟨x2, hx2⟩ : ∃ x, y2.toUInt32 = x := ⟨_, rfl⟩
      obtain ⟨x3, hx3⟩ : ∃ x, y3.toUInt32 = x := ⟨_, rfl⟩
      rw [hx0, hx1, hx2, hx3] at HSN
      have HX0 : Hid _ := hx0
      have HX1 : Hid _ := hx1
      have HX2 : Hid _ := hx2
      have HX3 : Hid _ := hx3
      clear hx0 hx1 hx2 hx3
      have n0 : 4 * (k : Int) < (b.length : Int) := by have := H64.out; omega
      have n1 : 4 * (k : Int) + 1 < (b.length : Int) := by have := H64.out; omega
      have n2 : 4 * (k : Int) + 2 < (b.length : Int) := by have := H64.out; omega
      have n3 : 4 * (k : Int) + 3 < (b.length : Int) := by have := H64.out; omega
      have W0 : Hid (IntKind.i64.wrap (4 * (k : Int)) = 4 * (k : Int) ∧ (4 * (k : Int)).toNat = 4 * k) := ⟨IntWalk.i64_in _ (by omega), by omega⟩
      have W1 : Hid (IntKind.i64.wrap (4 * (k : Int) + 1) = 4 * (k : Int) + 1 ∧ (4 * (k : Int) + 1).toNat = 4 * k + 1) := ⟨IntWalk.i64_in _ (by omega), by omega⟩
      have W2 : Hid (IntKind.i64.wrap (4 * (k : Int) + 2) = 4 * (k : Int) + 2 ∧ (4 * (k : Int) + 2).toNat = 4 * k + 2) := ⟨IntWalk.i64_in _ (by omega), by omega⟩
      have W3 : Hid (IntKind.i64.wrap (4 * (k : Int) + 3) = 4 * (k : Int) + 3 ∧ (4 * (k : Int) + 3).toNat = 4 * k + 3) := ⟨IntWalk.i64_in _ (by omega), by omega⟩
      go_wp2_with fail
      apply wp_region_mix 35 [_, _, _, _, .pointer (some ⟨bb, oo + 4 * k, none⟩), .int .u8 y0.toNat, U32 x0, U32 (x0 <<< 24), _, _, _, _, .pointer (some ⟨bb, oo + (4 * k + 1), none⟩), .int .u8 y1.toNat, U32 x1, U32 (x1 <<< 16), U32 ((x0 <<< 24) ||| (x1 <<< 16)), _, _, _, _, .pointer (some ⟨bb, oo + (4 * k + 2), none⟩), .int .u8 y2.toNat, U32 x2, U32 (x2 <<< 8), U32 (((x0 <<< 24) ||| (x1 <<< 16)) ||| (x2 <<< 8)), _, _, _, _, .pointer (some ⟨bb, oo + (4 * k + 3), none⟩), .int .u8 y3.toNat, U32 x3, U32 ((((x0 <<< 24) ||| (x1 <<< 16)) ||| (x2 <<< 8)) ||| x3), .pointer (some ⟨w.heap.size + 1, k, none⟩)] [none, none, none, none, none, none, none, none, none, none, none, none, none, none, none, none, none, none, none, none, none, none, none, none, none, none, none, none, none, none, none, none, none, none, none] [[], [], [], [2], [1, 3], [4], [5], [6], [], [], [9], [10], [8, 11], [12], [13], [14], [7, 15], [], [], [18], [19], [17, 20], [21], [22], [23], [16, 24], [], [], [27], [28], [26, 29], [30], [31], [25, 32], [0]] (by kernel_rfl) (by kernel_rfl) (by simp [mixV])
      · trivial
      · simp (maxSteps := 1000000) only [List.take_succ_cons, List.take_zero, oblFrom, stepObl, fillFrom, Act.put, List.setIfInBounds_toArray, List.set_cons_zero, List.set_cons_succ, knows, getV, mixV, List.getD_cons_zero, List.getD_cons_succ, and_true, true_and, forall_const]
        refine ⟨?_, ?_, ?_, ?_, ?_, ?_, ?_, ?_, ?_, ?_, ?_, ?_, ?_, ?_, ?_, ?_, ?_, ?_, ?_, ?_, ?_, ?_, ?_, ?_, ?_, ?_, ?_, ?_, ?_, ?_, ?_, ?_, ?_, ?_, ?_⟩
        · intro xs wq hq R hR
          go_simp
          exact hR _ _ (Ext.refl _) rfl
        · intro xs wq hq R hR
          go_simp
          exact hR _ _ (Ext.refl _) rfl
        · intro xs wq hq R hR
          go_simp
          exact hR _ _ (Ext.refl _) rfl
        · intro xs wq hq hk R hR
          go_simp
          exact hR _ _ (Ext.refl _) rfl
        · intro xs wq hq hk R hR
          obtain ⟨hk0, hk1⟩ := hk
          go_simp
          simp only [W0.out.1]
          rw [if_pos ⟨by omega, by omega⟩, W0.out.2]
          exact hR _ _ (Ext.refl _) rfl
        · intro xs wq hq hk R hR
          have f0 := hq.cell d0
          go_simp
          exact hR _ _ (Ext.refl _) rfl
        · intro xs wq hq hk R hR
          go_simp
          exact hR _ _ (Ext.refl _) (by rw [← HX0.out]; exact conv_u32 y0)
        · intro xs wq hq hk R hR
          go_simp
          exact hR _ _ (Ext.refl _) (shl24 x0)
        · intro xs wq hq R hR
          go_simp
          exact hR _ _ (Ext.refl _) rfl
        · intro xs wq hq R hR
          go_simp
          exact hR _ _ (Ext.refl _) rfl
        · intro xs wq hq hk R hR
          go_simp
          exact hR _ _ (Ext.refl _) rfl
        · intro xs wq hq hk R hR
          go_simp
          exact hR _ _ (Ext.refl _) rfl
        · intro xs wq hq hk R hR
          obtain ⟨hk0, hk1⟩ := hk
          go_simp
          simp only [W0.out.1, W1.out.1]
          rw [if_pos ⟨by omega, by omega⟩, W1.out.2]
          exact hR _ _ (Ext.refl _) rfl
        · intro xs wq hq hk R hR
          have f1 := hq.cell d1
          go_simp
          exact hR _ _ (Ext.refl _) rfl
        · intro xs wq hq hk R hR
          go_simp
          exact hR _ _ (Ext.refl _) (by rw [← HX1.out]; exact conv_u32 y1)
        · intro xs wq hq hk R hR
          go_simp
          exact hR _ _ (Ext.refl _) (shl16 x1)
        · intro xs wq hq hk R hR
          obtain ⟨hk0, hk1⟩ := hk
          go_simp
          exact hR _ _ (Ext.refl _) (or_u32 (x0 <<< 24) (x1 <<< 16))
        · intro xs wq hq R hR
          go_simp
          exact hR _ _ (Ext.refl _) rfl
        · intro xs wq hq R hR
          go_simp
          exact hR _ _ (Ext.refl _) rfl
        · intro xs wq hq hk R hR
          go_simp
          exact hR _ _ (Ext.refl _) rfl
        · intro xs wq hq hk R hR
          go_simp
          exact hR _ _ (Ext.refl _) rfl
        · intro xs wq hq hk R hR
          obtain ⟨hk0, hk1⟩ := hk
          go_simp
          simp only [W0.out.1, W2.out.1]
          rw [if_pos ⟨by omega, by omega⟩, W2.out.2]
          exact hR _ _ (Ext.refl _) rfl
        · intro xs wq hq hk R hR
          have f2 := hq.cell d2
          go_simp
          exact hR _ _ (Ext.refl _) rfl
        · intro xs wq hq hk R hR
          go_simp
          exact hR _ _ (Ext.refl _) (by rw [← HX2.out]; exact conv_u32 y2)
        · intro xs wq hq hk R hR
          go_simp
          exact hR _ _ (Ext.refl _) (shl8 x2)
        · intro xs wq hq hk R hR
          obtain ⟨hk0, hk1⟩ := hk
          go_simp
          exact hR _ _ (Ext.refl _) (or_u32 ((x0 <<< 24) ||| (x1 <<< 16)) (x2 <<< 8))
        · intro xs wq hq R hR
          go_simp
          exact hR _ _ (Ext.refl _) rfl
        · intro xs wq hq R hR
          go_simp
          exact hR _ _ (Ext.refl _) rfl
        · intro xs wq hq hk R hR
          go_simp
          exact hR _ _ (Ext.refl _) rfl
        · intro xs wq hq hk R hR
          go_simp
          exact hR _ _ (Ext.refl _) rfl
        · intro xs wq hq hk R hR
          obtain ⟨hk0, hk1⟩ := hk
          go_simp
          simp only [W0.out.1, W3.out.1]
          rw [if_pos ⟨by omega, by omega⟩, W3.out.2]
          exact hR _ _ (Ext.refl _) rfl
        · intro xs wq hq hk R hR
          have f3 := hq.cell d3
          go_simp
          exact hR _ _ (Ext.refl _) rfl
        · intro xs wq hq hk R hR
          go_simp
          exact hR _ _ (Ext.refl _) (by rw [← HX3.out]; exact conv_u32 y3)
        · intro xs wq hq hk R hR
          obtain ⟨hk0, hk1⟩ := hk
          go_simp
          exact hR _ _ (Ext.refl _) (or_u32 (((x0 <<< 24) ||| (x1 <<< 16)) ||| (x2 <<< 8)) x3)
        · intro xs wq hq hk R hR
          go_simp
          exact hR _ _ (Ext.refl _) rfl
      intro xs w2 hx2 hk
      simp only [heldV, Nat.zero_add, Nat.reduceAdd, and_true] at hk
      have q0 := hk.1
      replace hk := hk.2
      have q1 := hk.1
      replace hk := hk.2
      have q2 := hk.1
      replace hk := hk.2
      have q3 := hk.1
      replace hk := hk.2
      have q4 := hk.1
      replace hk := hk.2
      have q5 := hk.1
      replace hk := hk.2
      have q6 := hk.1
      replace hk := hk.2
      have q7 := hk.1
      replace hk := hk.2
      have q8 := hk.1
      replace hk := hk.2
      have q9 := hk.1
      replace hk := hk.2
      have q10 := hk.1
      replace hk := hk.2
      have q11 := hk.1
      replace hk := hk.2
      have q12 := hk.1
      replace hk := hk.2
      have q13 := hk.1
      replace hk := hk.2
      have q14 := hk.1
      replace hk := hk.2
      have q15 := hk.1
      replace hk := hk.2
      have q16 := hk.1
      replace hk := hk.2
      have q17 := hk.1
      replace hk := hk.2
      have q18 := hk.1
      replace hk := hk.2
      have q19 := hk.1
      replace hk := hk.2
      have q20 := hk.1
      replace hk := hk.2
      have q21 := hk.1
      replace hk := hk.2
      have q22 := hk.1
      replace hk := hk.2
      have q23 := hk.1
      replace hk := hk.2
      have q24 := hk.1
      replace hk := hk.2
      have q25 := hk.1
      replace hk := hk.2
      have q26 := hk.1
      replace hk := hk.2
      have q27 := hk.1
      replace hk := hk.2
      have q28 := hk.1
      replace hk := hk.2
      have q29 := hk.1
      replace hk := hk.2
      have q30 := hk.1
      replace hk := hk.2
      have q31 := hk.1
      replace hk := hk.2
      have q32 := hk.1
      replace hk := hk.2
      have q33 := hk.1
      replace hk := hk.2
      have q34 := hk
      clear hk
      simp (maxSteps := 1000000) only [List.take_succ_cons, List.take_zero, List.drop_succ_cons, List.drop_zero, fillFrom, Act.put, List.setIfInBounds_toArray, List.set_cons_zero, List.set_cons_succ, Nat.zero_add, Nat.reduceAdd, q0, q1, q2, q3, q4, q5, q6, q7, q8, q9, q10, q11, q12, q13, q14, q15, q16, q17, q18, q19, q20, q21, q22, q23, q24, q25, q26, q27, q28, q29, q30, q31, q32, q33, q34]
      clear q0 q1 q2 q3 q4 q5 q6 q7 q8 q9 q10 q11 q12 q13 q14 q15 q16 q17 q18 q19 q20 q21 q22 q23 q24 q25 q26 q27 q28 q29 q30 q31 q32 q33 q34
      have HS2 : Hid _ := Sch.more HS.out hx2
      have hnow := HS2.out.now
      have hsz := wordsC_size (l := wSched b k) (n := 64) (by omega)
      have hpt := wordsC_put (l := wSched b k) (n := 64) ((((x0 <<< 24) ||| (x1 <<< 16)) ||| (x2 <<< 8)) ||| x3) (by omega)
      rw [← HSN.out, hsl] at hpt
      go_wp2_with (refine store_field rfl 205 (.tmp 48) (.tmp 47) rfl (w.heap.size + 1) k rfl (U32 ((((x0 <<< 24) ||| (x1 <<< 16)) ||| (x2 <<< 8)) ||| x3)) rfl rfl _ (wordsC (wSched b k) 64) hnow (by omega) info_u32 (wordsC (wSched b (k + 1)) 64) hpt ?_; intro w3 hg3 hgr3)
      have HS3 : Hid _ := Sch.put HS2.out hg3 hgr3
      clear hg3 hgr3 hnow hsz hpt
      go_roundw
      case rel => exact ⟨k + 1, by omega, by go_num, HS3.out⟩
      case measure => simp [intOf]; omega
    · by_cases hlt2 : k < 64
      · have hnow := HS.out.now
        obtain ⟨X, hX⟩ : ∃ x, (wSched b k).getD (k - 15) 0 = x := ⟨_, rfl⟩
        obtain ⟨Y, hY⟩ : ∃ x, (wSched b k).getD (k - 2) 0 = x := ⟨_, rfl⟩
        obtain ⟨A0, hA⟩ : ∃ x, (wSched b k).getD (k - 16) 0 = x := ⟨_, rfl⟩
        obtain ⟨B0, hB⟩ : ∃ x, (wSched b k).getD (k - 7) 0 = x := ⟨_, rfl⟩
        have e15 := words_cell hnow (i := k - 15) (by omega)
        have e2 := words_cell hnow (i := k - 2) (by omega)
        have e16 := words_cell hnow (i := k - 16) (by omega)
        have e7 := words_cell hnow (i := k - 7) (by omega)
        rw [hX] at e15
        rw [hY] at e2
        rw [hA] at e16
        rw [hB] at e7
        obtain ⟨p1, hp1⟩ : ∃ x, rotl X 25 = x := ⟨_, rfl⟩
        obtain ⟨q1, hq1⟩ : ∃ x, rotl X 14 = x := ⟨_, rfl⟩
        obtain ⟨p2, hp2⟩ : ∃ x, p1 ^^^ q1 = x := ⟨_, rfl⟩
        obtain ⟨r1, hr1⟩ : ∃ x, X >>> 3 = x := ⟨_, rfl⟩
        obtain ⟨s1, hs1⟩ : ∃ x, p2 ^^^ r1 = x := ⟨_, rfl⟩
        obtain ⟨p3, hp3⟩ : ∃ x, rotl Y 15 = x := ⟨_, rfl⟩
        obtain ⟨q3, hq3⟩ : ∃ x, rotl Y 13 = x := ⟨_, rfl⟩
        obtain ⟨p4, hp4⟩ : ∃ x, p3 ^^^ q3 = x := ⟨_, rfl⟩
        obtain ⟨r2, hr2⟩ : ∃ x, Y >>> 10 = x := ⟨_, rfl⟩
        obtain ⟨s2, hs2⟩ : ∃ x, p4 ^^^ r2 = x := ⟨_, rfl⟩
        obtain ⟨z1, hz1⟩ : ∃ x, A0 + s1 = x := ⟨_, rfl⟩
        obtain ⟨z2, hz2⟩ : ∃ x, z1 + B0 = x := ⟨_, rfl⟩
        obtain ⟨z3, hz3⟩ : ∃ x, z2 + s2 = x := ⟨_, rfl⟩
        have HZ1 : Hid _ := hz1
        have HZ2 : Hid _ := hz2
        have HZ3 : Hid _ := hz3
        have HSN : Hid (wSched b (k + 1) = wSched b k ++ [z3]) := by
          unfold Hid
          rw [sched_snoc, if_neg hlt]
          unfold wNext
          rw [hX, hY, hA, hB, hp1, hq1, hp2, hr1, hs1, hp3, hq3, hp4, hr2, hs2, hz1, hz2, hz3]
        have f1 : bits BinOp.xor IntKind.u32 (p1.toNat : Int) (q1.toNat : Int) = (p2.toNat : Int) := by rw [← hp2]; exact bits_xor32 _ _
        have f2 : (X.toNat : Int) / 8 = (r1.toNat : Int) := by rw [← hr1]; exact shr32 X 3 (by decide)
        have f3 : bits BinOp.xor IntKind.u32 (p2.toNat : Int) (r1.toNat : Int) = (s1.toNat : Int) := by rw [← hs1]; exact bits_xor32 _ _
        have f4 : bits BinOp.xor IntKind.u32 (p3.toNat : Int) (q3.toNat : Int) = (p4.toNat : Int) := by rw [← hp4]; exact bits_xor32 _ _
        have f5 : (Y.toNat : Int) / 1024 = (r2.toNat : Int) := by rw [← hr2]; exact shr32 Y 10 (by decide)
        have f6 : bits BinOp.xor IntKind.u32 (p4.toNat : Int) (r2.toNat : Int) = (s2.toNat : Int) := by rw [← hs2]; exact bits_xor32 _ _
        have HP1 : Hid _ := hp1
        have HQ1 : Hid _ := hq1
        have HP3 : Hid _ := hp3
        have HQ3 : Hid _ := hq3
        have W15 : Hid (IntKind.i64.wrap ((k : Int) - 15) = ((k - 15 : Nat) : Int)) := by unfold Hid; rw [IntWalk.i64_in _ (by omega)]; omega
        have W2 : Hid (IntKind.i64.wrap ((k : Int) - 2) = ((k - 2 : Nat) : Int)) := by unfold Hid; rw [IntWalk.i64_in _ (by omega)]; omega
        have W16 : Hid (IntKind.i64.wrap ((k : Int) - 16) = ((k - 16 : Nat) : Int)) := by unfold Hid; rw [IntWalk.i64_in _ (by omega)]; omega
        have W7 : Hid (IntKind.i64.wrap ((k : Int) - 7) = ((k - 7 : Nat) : Int)) := by unfold Hid; rw [IntWalk.i64_in _ (by omega)]; omega
        clear hX hY hA hB hp1 hq1 hp2 hr1 hs1 hp3 hq3 hp4 hr2 hs2 hz1 hz2 hz3 hnow
        have w15 := W15.out
        have w2 := W2.out
        have n15 : ((k - 15 : Nat) : Int) < 64 := by omega
        have n2 : ((k - 2 : Nat) : Int) < 64 := by omega
        go_upto_region 7 with fail
        go_quiet (fail)
        have hx2 : Ext wr (wr.drewN nq) := Ext.drawn _ _
        have HS2 : Hid _ := Sch.more HS.out hx2
        clear w15 w2 n15 n2
        have g16 := hx2.cell e16
        have g7 := hx2.cell e7
        clear e15 e2 e16 e7 hx2
        go_wp2_with fail
        go_at_call 215
        refine (rot7 X _).mono ?_
        rw [HP1.out]
        rintro e w3 ⟨rfl, rfl⟩
        go_wp2_with fail
        go_at_call 215
        refine (rot18 X _).mono ?_
        rw [HQ1.out]
        rintro e w3 ⟨rfl, rfl⟩
        go_wp2_with fail
        go_at_call 215
        refine (rot17 Y _).mono ?_
        rw [HP3.out]
        rintro e w3 ⟨rfl, rfl⟩
        go_wp2_with fail
        go_at_call 215
        refine (rot19 Y _).mono ?_
        rw [HQ3.out]
        rintro e w3 ⟨rfl, rfl⟩
        go_wp2_with fail
        apply wp_region_mix 15 [_, _, _, .pointer (some ⟨w.heap.size + 1, k - 16, none⟩), U32 A0, _, U32 z1, _, _, .pointer (some ⟨w.heap.size + 1, k - 7, none⟩), U32 B0, U32 z2, _, U32 z3, .pointer (some ⟨w.heap.size + 1, k, none⟩)] [none, none, none, none, none, none, none, none, none, none, none, none, none, none, none] [[], [], [1], [2], [3], [], [4, 5], [], [7], [8], [9], [6, 10], [], [11, 12], [0]] (by kernel_rfl) (by kernel_rfl) (by simp [mixV])
        · trivial
        · simp (maxSteps := 1000000) only [List.take_succ_cons, List.take_zero, oblFrom, stepObl, fillFrom, Act.put, List.setIfInBounds_toArray, List.set_cons_zero, List.set_cons_succ, knows, getV, mixV, List.getD_cons_zero, List.getD_cons_succ, and_true, true_and, forall_const]
          refine ⟨?_, ?_, ?_, ?_, ?_, ?_, ?_, ?_, ?_, ?_, ?_, ?_, ?_, ?_, ?_⟩
          · intro xs wq hq R hR
            go_simp
            exact hR _ _ (Ext.refl _) rfl
          · intro xs wq hq R hR
            go_simp
            exact hR _ _ (Ext.refl _) rfl
          · intro xs wq hq hk R hR
            go_simp
            exact hR _ _ (Ext.refl _) rfl
          · intro xs wq hq hk R hR
            go_simp
            simp only [W16.out]
            rw [if_pos ⟨by omega, by omega⟩]
            exact hR _ _ (Ext.refl _) rfl
          · intro xs wq hq hk R hR
            have f0 := hq.cell g16
            go_simp
            exact hR _ _ (Ext.refl _) rfl
          · intro xs wq hq R hR
            go_simp
            exact hR _ _ (Ext.refl _) rfl
          · intro xs wq hq hk R hR
            obtain ⟨hk0, hk1⟩ := hk
            go_simp
            exact hR _ _ (Ext.refl _) (by rw [← HZ1.out]; exact addw_u32 A0 s1)
          · intro xs wq hq R hR
            go_simp
            exact hR _ _ (Ext.refl _) rfl
          · intro xs wq hq hk R hR
            go_simp
            exact hR _ _ (Ext.refl _) rfl
          · intro xs wq hq hk R hR
            go_simp
            simp only [W7.out]
            rw [if_pos ⟨by omega, by omega⟩]
            exact hR _ _ (Ext.refl _) rfl
          · intro xs wq hq hk R hR
            have f0 := hq.cell g7
            go_simp
            exact hR _ _ (Ext.refl _) rfl
          · intro xs wq hq hk R hR
            obtain ⟨hk0, hk1⟩ := hk
            go_simp
            exact hR _ _ (Ext.refl _) (by rw [← HZ2.out]; exact addw_u32 z1 B0)
          · intro xs wq hq R hR
            go_simp
            exact hR _ _ (Ext.refl _) rfl
          · intro xs wq hq hk R hR
            obtain ⟨hk0, hk1⟩ := hk
            go_simp
            exact hR _ _ (Ext.refl _) (by rw [← HZ3.out]; exact addw_u32 z2 s2)
          · intro xs wq hq hk R hR
            go_simp
            exact hR _ _ (Ext.refl _) rfl
        intro xs w4 hx4 hk
        simp only [heldV, Nat.zero_add, Nat.reduceAdd, and_true] at hk
        obtain ⟨q0, q1, q2, q3, q4, q5, q6, q7, q8, q9, q10, q11, q12, q13, q14⟩ := hk
        simp (maxSteps := 1000000) only [List.take_succ_cons, List.take_zero, List.drop_succ_cons, List.drop_zero, fillFrom, Act.put, List.setIfInBounds_toArray, List.set_cons_zero, List.set_cons_succ, Nat.zero_add, Nat.reduceAdd, q0, q1, q2, q3, q4, q5, q6, q7, q8, q9, q10, q11, q12, q13, q14]
        clear q0 q1 q2 q3 q4 q5 q6 q7 q8 q9 q10 q11 q12 q13 q14
        have HS4 : Hid _ := Sch.more HS2.out hx4
        have hnow := HS4.out.now
        have hsz := wordsC_size (l := wSched b k) (n := 64) (by omega)
        have hpt := wordsC_put (l := wSched b k) (n := 64) z3 (by omega)
        rw [← HSN.out, hsl] at hpt
        clear f1 f2 f3 f4 f5 f6 g16 g7 hx4
        go_wp2_with (refine store_field rfl 205 (.tmp 87) (.tmp 86) rfl (w.heap.size + 1) k rfl (U32 z3) rfl rfl _ (wordsC (wSched b k) 64) hnow (by omega) info_u32 (wordsC (wSched b (k + 1)) 64) hpt ?_; intro w5 hg5 hgr5)
        have HS5 : Hid _ := Sch.put HS4.out hg5 hgr5
        clear hg5 hgr5 hnow hsz hpt
        go_roundw
        case rel => exact ⟨k + 1, by omega, by go_num, HS5.out⟩
        case measure => simp [intOf]; omega
      · have hkk : k = 64 := by omega
        subst hkk
        have hnow := HS.out.now
        have hres := HS.out.res
        have hext := HS.out.ext
        have hful := wordsC_full (n := 64) hsl
        rw [hful] at hnow
        have hs64 : ((wSched b 64).map U32).toArray.size = 64 := by simp [hsl]
        obtain ⟨V, hV⟩ : ∃ V, ((wSched b 64).map U32).toArray = V := ⟨_, rfl⟩
        have hone := u32s_one (wSched b 64)
        rw [hV] at hnow hs64 hone
        have HV : Hid _ := hV
        have hr0 : (wordsC [] 64).size = 64 := wordsC_size (Nat.zero_le _)
        have hr1 : (wordsC [] 64).toList.drop (0 + V.size) = [] := by rw [hs64]; exact List.drop_eq_nil_of_le (by rw [Array.length_toList, hr0]; omega)
        have HEXT : Hid _ := hext
        clear hsl hful hV hext
        go_wp2_with (first
          | (refine wpList_load_row rfl 234 (.tmp 3) rfl (w.heap.size + 1) rfl 234 V (0, 0) _ hnow Tryz.underlying234 rfl (by rw [hs64]; exact size_a64) ?_)
          | (refine store_all rfl 234 (.tmp 2) (.tmp 89) rfl w.heap.size 0 rfl V rfl hone _ (wordsC [] 64) hres (by rw [hs64, hr0]; omega) (by rw [hs64]; exact size_a64) V (by rw [hr1]; simp) ?_; intro w5 hg5 hgr5))
        refine bodyPost_ret (results_cell_row rfl _ _ w.heap.size 234 V (0, 0) _ rfl hg5 Tryz.underlying234 rfl (by rw [hs64]; exact size_a64)) rfl ?_
        rw [HV.out]
        exact ⟨rfl, Below.grown HEXT.out hgr5 (HEXT.out).size (fun j hj => by cases hj; omega)⟩

end Go.Proofs.YtdhgmpibjneplaaGreatDoor
