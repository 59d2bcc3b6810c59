/- fsim.New: a file system without files. No conditions. -/
import Derived.Test.YtalpfoomkhhgnaaGreatDoorZaa
import Derived.Maps.RangeWalk
import Derived.Maps.OwnSet
import Derived.Maps.Ext
import Derived.Maps.AppendAt
import Derived.Laws.LoneSync
import Derived.Deep.DeepCutAuto
import Derived.Sort.OwnSorted
import Derived.Sort.KeysCollected
import Derived.Shelf.SlicesE.DeleteFunc
import Derived.Lib.SliceRun

set_option linter.unusedVariables false
set_option linter.unusedSimpArgs false

/-! How the program's file system lies in memory: maps of files, changes, events; what an operation leaves as it was. No conditions of its own. -/
namespace Go.Proofs.YtalpfoomkhhgnaaGreatDoor
open Go Go.RowKit

/-! ### What is as it was -/
/-- Blocks outside O, and all bytes, are as they were. -/
structure Fr (O : Nat → Prop) (w w' : World) : Prop where
  os : w'.os = w.os
  tape : w'.tape = w.tape
  output : w'.output = w.output
  size : w.heap.size ≤ w'.heap.size
  block : ∀ k, k < w.heap.size → (¬ O k ∨ IsU8 w k) → w'.heap[k]? = w.heap[k]?
/-- O, and all that is new. -/
def Nw (O : Nat → Prop) (w w' : World) (k : Nat) : Prop := O k ∨ (w.heap.size ≤ k ∧ k < w'.heap.size)

theorem Fr.refl (O : Nat → Prop) (w : World) : Fr O w w := ⟨rfl, rfl, rfl, Nat.le_refl _, fun _ _ _ => rfl⟩
theorem IsU8.fr {O : Nat → Prop} {w w' : World} (h : Fr O w w') {k : Nat} (hk : IsU8 w k) : IsU8 w' k := hk.same (h.block k hk.lt (.inr hk))
theorem Fr.trans {O : Nat → Prop} {a b c : World} (h : Fr O a b) (k : Fr (Nw O a b) b c) : Fr O a c :=
  ⟨k.os.trans h.os, k.tape.trans h.tape, k.output.trans h.output, Nat.le_trans h.size k.size, fun i hi hn => by
    have h1 := h.block i hi hn
    rw [← h1]
    refine k.block i (Nat.lt_of_lt_of_le hi h.size) ?_
    rcases hn with hn | hu
    · exact .inl (fun hw => by rcases hw with hw | hw; exact hn hw; omega)
    · exact .inr (hu.fr h)⟩
theorem Fr.mono {O O' : Nat → Prop} {w w' : World} (h : Fr O w w') (ho : ∀ k, O k → O' k) : Fr O' w w' :=
  ⟨h.os, h.tape, h.output, h.size, fun k hk hn => h.block k hk (hn.imp (fun h1 h2 => h1 (ho k h2)) id)⟩
theorem Fr.of_ext {O : Nat → Prop} {w w' : World} (h : Ext w w') : Fr O w w' := ⟨h.os, h.tape, h.output, h.size, fun k hk _ => h.block k hk⟩
theorem Fr.of_grown {O : Nat → Prop} {w w' : World} {g : Nat} (h : w.grownBy w' (some g)) (hg : O g) (hu : ¬ IsU8 w g) : Fr O w w' :=
  ⟨h.os, h.tape, h.output, h.size, fun k hk hn => h.block k hk (by
    rintro heq
    simp only [Option.some.injEq] at heq
    subst heq
    rcases hn with hn | hn
    · exact hn hg
    · exact hu hn)⟩
theorem Fr.keep {O : Nat → Prop} {w w' : World} (h : Fr O w w') : KeepB w w' := ⟨h.size, fun k hk => h.block k hk.lt (.inr hk)⟩
theorem Fr.row {O : Nat → Prop} {w w' : World} (h : Fr O w w') {k : Nat} {o : Obj} (hk : w.heap[k]? = some o) (ho : ¬ O k) : w'.heap[k]? = some o :=
  (h.block k (Array.getElem?_eq_some_iff.1 hk).1 (.inl ho)).trans hk
theorem Nw.mono {O O' : Nat → Prop} {w w' : World} (h : ∀ k, O k → O' k) {k : Nat} (hk : Nw O w w' k) : Nw O' w w' k := hk.imp (h k) id
theorem Nw.old {O : Nat → Prop} {w w' : World} {k : Nat} (h : O k) : Nw O w w' k := .inl h
theorem Nw.fst {O : Nat → Prop} {a b c : World} (h2 : b.heap.size ≤ c.heap.size) {k : Nat} (hk : Nw O a b k) : Nw O a c k := by
  rcases hk with hk | hk
  · exact .inl hk
  · exact .inr ⟨hk.1, by omega⟩

/-! ### Data that is read alone -/
def Inn (R : Nat → Prop) (v : Value) : Prop := ∀ k, v.ownBlock = some k → R k
theorem Inn.mono {R R' : Nat → Prop} {v : Value} (h : Inn R v) (hr : ∀ k, R k → R' k) : Inn R' v := fun k hk => hr k (h k hk)
theorem Inn.nil (R : Nat → Prop) (n c : Nat) : Inn R (.slice none n c) := fun k hk => by simp [Value.ownBlock] at hk

structure IsData (R : Nat → Prop) (w : World) (v : Value) (l : B8) : Prop where
  bytes : IsBytes w v l
  typed : TypB w v
  inn : Inn R v
theorem IsData.mono {R R' : Nat → Prop} {w : World} {v : Value} {l : B8} (h : IsData R w v l) (hr : ∀ k, R k → R' k) : IsData R' w v l := ⟨h.bytes, h.typed, h.inn.mono hr⟩
theorem IsData.keep {R : Nat → Prop} {w w' : World} {v : Value} {l : B8} (h : IsData R w v l) (k : KeepB w w') : IsData R w' v l := ⟨Row.keepB h.bytes h.typed k, h.typed.keep k, h.inn⟩
theorem IsData.nil (R : Nat → Prop) (w : World) : IsData R w (.slice none 0 0) [] := ⟨Row.nil _, TypB.nil _ _ _, Inn.nil _ _ _⟩
/-- What a world leaves as it was where data lies. -/
def KeepR (R : Nat → Prop) (w w' : World) : Prop := w.heap.size ≤ w'.heap.size ∧ ∀ k, R k → IsU8 w k → w'.heap[k]? = w.heap[k]?
theorem KeepR.of_keep {R : Nat → Prop} {w w' : World} (h : KeepB w w') : KeepR R w w' := ⟨h.1, fun k _ hk => h.2 k hk⟩
theorem KeepR.trans {R : Nat → Prop} {a b c : World} (h : KeepR R a b) (k : KeepR R b c) : KeepR R a c := ⟨Nat.le_trans h.1 k.1, fun i hr hi => (k.2 i hr (hi.same (h.2 i hr hi))).trans (h.2 i hr hi)⟩
theorem IsData.keepR {R : Nat → Prop} {w w' : World} {v : Value} {l : B8} (h : IsData R w v l) (hk : KeepR R w w') : IsData R w' v l := by
  obtain ⟨⟨a, cap, rfl, h1, h2, h3, h4⟩, ht, hi⟩ := h
  refine ⟨⟨a, cap, rfl, h1, h2, h3, fun hn => ?_⟩, fun a' n c he => ?_, hi⟩
  · obtain ⟨b, o, rfl, hc⟩ := h4 hn
    refine ⟨b, o, rfl, fun i u hu => ?_⟩
    have hcu := hc i u hu
    rw [World.cell?_of_block (w := w) (w' := w') (a := ⟨b, o + i, none⟩) (hk.2 _ (hi b rfl) (ht ⟨b, o, none⟩ _ _ rfl))]
    exact hcu
  · have hb := ht a' n c he
    simp only [Value.slice.injEq] at he
    obtain ⟨rfl, -⟩ := he
    exact hb.same (hk.2 _ (hi _ rfl) hb)

/-! ### Files -/
/-- How a map's element reads: as the value that it is. -/
def elemV (v : Value) : Option (DataW Value × List MemPlace) := some (.held v, [])
abbrev fiV (f : Fi) (v : Value) : Value := .agg #[.int .i64 f.mode, v, .int .i64 f.time]
def dat (sl : B8 → Value) (l : Files) : DataW Value := .map (l.map fun e => (.string e.1, .held (fiV e.2 (sl e.1))))
def Rising : Files → Prop := List.Pairwise fun a b => ltB a.1 b.1 = true
structure IsFiles (R : Nat → Prop) (w : World) (b : Nat) (l : Files) : Prop where
  rise : Rising l
  short : ∀ e ∈ l, e.1.length ≤ 10000000
  map : ∃ sl : B8 → Value, w.ownsMap Tryz.prog 9 elemV b l.length (dat sl l) ∧ ∀ e ∈ l, IsData R w (sl e.1) e.2.data

theorem IsFiles.mono {R R' : Nat → Prop} {w : World} {b : Nat} {l : Files} (h : IsFiles R w b l) (hr : ∀ k, R k → R' k) : IsFiles R' w b l := by
  obtain ⟨h1, h0, sl, h2, h3⟩ := h
  exact ⟨h1, h0, sl, h2, fun e he => (h3 e he).mono hr⟩
theorem IsFiles.stay {R : Nat → Prop} {w w' : World} {b : Nat} {l : Files} (h : IsFiles R w b l) (hb : w'.heap[b]? = w.heap[b]?) (hk : KeepR R w w') : IsFiles R w' b l := by
  obtain ⟨h1, h0, sl, ⟨es, clock, he, F, hs, hD⟩, h3⟩ := h
  exact ⟨h1, h0, sl, ⟨es, clock, hb.trans he, F, hs, hD⟩, fun e he => (h3 e he).keepR hk⟩
theorem IsFiles.lt {R : Nat → Prop} {w : World} {b : Nat} {l : Files} (h : IsFiles R w b l) : b < w.heap.size := by
  obtain ⟨_, _, sl, h2, _⟩ := h
  exact h2.lt
/-! ### Changes and events -/
def IsCh (R : Nat → Prop) (w : World) (cs : List Value) : Ch → Prop
  | .put p f => p.length ≤ 10000000 ∧ ∃ v, cs = [S8 p, S8 [], .bool true, .int .i64 f.mode, v, .int .i64 f.time] ∧ IsData R w v f.data
  | .mv s d => s.length ≤ 10000000 ∧ d.length ≤ 10000000 ∧ s ≠ [] ∧ cs = [S8 d, S8 s, .bool false, .int .i64 0, .slice none 0 0, .int .i64 0]
  | .del p => p.length ≤ 10000000 ∧ cs = [S8 p, S8 [], .bool false, .int .i64 0, .slice none 0 0, .int .i64 0]
theorem IsCh.mono {R R' : Nat → Prop} {w : World} {cs : List Value} {c : Ch} (h : IsCh R w cs c) (hr : ∀ k, R k → R' k) : IsCh R' w cs c := by
  cases c with
  | put p f =>
    obtain ⟨h1, v, h2, h3⟩ := h
    exact ⟨h1, v, h2, h3.mono hr⟩
  | mv s d => exact h
  | del p => exact h
theorem IsCh.keepR {R : Nat → Prop} {w w' : World} {cs : List Value} {c : Ch} (h : IsCh R w cs c) (hk : KeepR R w w') : IsCh R w' cs c := by
  cases c with
  | put p f =>
    obtain ⟨h1, v, h2, h3⟩ := h
    exact ⟨h1, v, h2, h3.keepR hk⟩
  | mv s d => exact h
  | del p => exact h
theorem IsCh.length {R : Nat → Prop} {w : World} {cs : List Value} {c : Ch} (h : IsCh R w cs c) : cs.length = 6 ∧ cs.all (·.oneCell') = true := by
  cases c with
  | put p f =>
    obtain ⟨_, v, rfl, h3⟩ := h
    obtain ⟨_, _, rfl, _⟩ := h3.bytes
    exact ⟨rfl, by simp [Value.oneCell']⟩
  | mv s d => obtain ⟨_, _, _, rfl⟩ := h; exact ⟨rfl, by simp [Value.oneCell']⟩
  | del p => obtain ⟨_, rfl⟩ := h; exact ⟨rfl, by simp [Value.oneCell']⟩

def IsEvR (R : Nat → Prop) (w : World) (cs : List Value) (e : Ev) : Prop := ∃ vd, cs = [.int .i64 e.t, .int .i64 e.kind, .int .i64 e.mode, .int .i64 e.keep, .int .i64 e.torn, S8 e.path, vd] ∧ IsData R w vd e.data ∧ e.path.length ≤ 10000000
theorem IsEvR.mono {R R' : Nat → Prop} {w : World} {cs : List Value} {e : Ev} (h : IsEvR R w cs e) (hr : ∀ k, R k → R' k) : IsEvR R' w cs e := by
  obtain ⟨v, h1, h2, h3⟩ := h
  exact ⟨v, h1, h2.mono hr, h3⟩
theorem IsEvR.keepR {R : Nat → Prop} {w w' : World} {cs : List Value} {e : Ev} (h : IsEvR R w cs e) (hk : KeepR R w w') : IsEvR R w' cs e := by
  obtain ⟨v, h1, h2, h3⟩ := h
  exact ⟨v, h1, h2.keepR hk, h3⟩
theorem IsEvR.length {R : Nat → Prop} {w : World} {cs : List Value} {e : Ev} (h : IsEvR R w cs e) : cs.length = 7 ∧ cs.all (·.oneCell') = true := by
  obtain ⟨v, rfl, h2, _⟩ := h
  obtain ⟨_, _, rfl, _⟩ := h2.bytes
  exact ⟨rfl, by simp [Value.oneCell']⟩

/-- Each of a list of rows is what it says. -/
def Each {α : Type} (p : List Value → α → Prop) (css : List (List Value)) (xs : List α) : Prop := css.length = xs.length ∧ ∀ (i : Nat) c x, css[i]? = some c → xs[i]? = some x → p c x
theorem Each.nil {α : Type} (p : List Value → α → Prop) : Each p [] [] := ⟨rfl, fun i c x hc => by simp at hc⟩
theorem Each.imp {α : Type} {p q : List Value → α → Prop} {css : List (List Value)} {xs : List α} (h : Each p css xs) (hpq : ∀ c x, p c x → q c x) : Each q css xs := ⟨h.1, fun i c x hc hx => hpq c x (h.2 i c x hc hx)⟩
/-- A slice of the call's own that holds a list of structs. -/
def OwnL {α : Type} (w : World) (t : TypeId) (size : Nat) (p : List Value → α → Prop) (v : Value) (xs : List α) : Prop := ∃ css : List (List Value), w.ownsRow 0 t size v xs.length css.flatten ∧ Each p css xs
/-- A slice that is read alone. -/
def ReadL {α : Type} (w : World) (t : TypeId) (p : List Value → α → Prop) (v : Value) (xs : List α) : Prop := ∃ css : List (List Value), Row w v xs.length css.flatten ∧ Typed t w v ∧ Each p css xs

abbrev fsCells (room : Int) (gm gd : Nat) (vp vl : Value) (calls : Nat) (vu : Value) (time : Nat) (down : Bool) : Array Value := #[.int .i64 room, .map (some gm), .map (some gd), vp, vl, .int .i64 calls, vu, .int .i64 time, .bool down]
theorem ReadL.mono {α : Type} {w : World} {t : TypeId} {p q : List Value → α → Prop} {v : Value} {xs : List α} (h : ReadL w t p v xs) (hpq : ∀ c x, p c x → q c x) : ReadL w t q v xs := by
  obtain ⟨css, h1, h2, h3⟩ := h
  exact ⟨css, h1, h2, h3.imp hpq⟩
theorem OwnL.mono {α : Type} {w : World} {t : TypeId} {size : Nat} {p q : List Value → α → Prop} {v : Value} {xs : List α} (h : OwnL w t size p v xs) (hpq : ∀ c x, p c x → q c x) : OwnL w t size q v xs := by
  obtain ⟨css, h1, h3⟩ := h
  exact ⟨css, h1, h3.imp hpq⟩
theorem OwnL.stay {α : Type} {w w' : World} {t : TypeId} {size : Nat} {p : List Value → α → Prop} {v : Value} {xs : List α} (h : OwnL w t size p v xs) (hb : ∀ k, v.ownBlock = some k → w'.heap[k]? = w.heap[k]?) : OwnL w' t size p v xs := by
  obtain ⟨css, ⟨hl, h1⟩, h3⟩ := h
  refine ⟨css, ⟨hl, h1.imp id ?_⟩, h3⟩
  rintro ⟨g, cap, cur, rfl, h4, h5, h6⟩
  exact ⟨g, cap, cur, rfl, h4, (hb g rfl).trans h5, h6⟩
theorem Row.stay {w w' : World} {v : Value} {n : Nat} {cs : List Value} (h : Row w v n cs) (hb : ∀ k, v.ownBlock = some k → w'.heap[k]? = w.heap[k]?) : Row w' v n cs := by
  obtain ⟨a, cap, rfl, h1, h2, h3, h4⟩ := h
  refine ⟨a, cap, rfl, h1, h2, h3, fun hn => ?_⟩
  obtain ⟨b, o, rfl, hc⟩ := h4 hn
  refine ⟨b, o, rfl, fun i u hu => ?_⟩
  rw [World.cell?_of_block (w := w) (w' := w') (a := ⟨b, o + i, none⟩) (hb b rfl)]
  exact hc i u hu
theorem Typed.stay {e : TypeId} {w w' : World} {v : Value} (h : Typed e w v) (hb : ∀ k, v.ownBlock = some k → w'.heap[k]? = w.heap[k]?) : Typed e w' v := fun a n c he => by
  obtain ⟨cs, fr, hk⟩ := h a n c he
  subst he
  exact ⟨cs, fr, (hb a.block rfl).trans hk⟩
theorem ReadL.stay {α : Type} {w w' : World} {t : TypeId} {p : List Value → α → Prop} {v : Value} {xs : List α} (h : ReadL w t p v xs) (hb : ∀ k, v.ownBlock = some k → w'.heap[k]? = w.heap[k]?) : ReadL w' t p v xs := by
  obtain ⟨css, h1, h2, h3⟩ := h
  exact ⟨css, h1.stay hb, h2.stay hb, h3⟩

theorem Inn.of {O O' : Nat → Prop} {v : Value} (h : Inn O v) (ho : ∀ k, v.ownBlock = some k → O k → O' k) : Inn O' v := fun k hk => ho k hk (h k hk)

theorem OwnL.lt {α : Type} {w : World} {t : TypeId} {size : Nat} {q : List Value → α → Prop} {v : Value} {xs : List α} (h : OwnL w t size q v xs) : ∀ k, v.ownBlock = some k → k < w.heap.size := by
  obtain ⟨css, hw, _⟩ := h
  exact fun k hv => (hw.lt k hv).2
theorem OwnL.typed {α : Type} {w : World} {t : TypeId} {size : Nat} {q : List Value → α → Prop} {v : Value} {xs : List α} (h : OwnL w t size q v xs) : ∀ k, v.ownBlock = some k → ∃ cs fr, w.heap[k]? = some (.cells cs t fr) := by
  obtain ⟨css, ⟨_, h1⟩, _⟩ := h
  intro k hv
  rcases h1 with ⟨rfl, _⟩ | ⟨g, cap, cur, rfl, _, hg, _⟩
  · simp [Value.ownBlock] at hv
  · have : g = k := by simpa [Value.ownBlock] using hv
    subst this
    exact ⟨cur, (0, 0), hg⟩
theorem ReadL.typed {α : Type} {w : World} {t : TypeId} {p : List Value → α → Prop} {v : Value} {xs : List α} (h : ReadL w t p v xs) : ∀ k, v.ownBlock = some k → ∃ cs fr, w.heap[k]? = some (.cells cs t fr) := by
  obtain ⟨css, _, ht, _⟩ := h
  intro k hv
  cases v with
  | slice a n c =>
    cases a with
    | none => simp [Value.ownBlock] at hv
    | some a =>
      have : a.block = k := by simpa [Value.ownBlock] using hv
      subst this
      exact ht a n c rfl
  | _ => simp [Value.ownBlock] at hv
theorem IsFiles.kind {R : Nat → Prop} {w : World} {b : Nat} {l : Files} (h : IsFiles R w b l) : ∃ es clock, w.heap[b]? = some (.map es clock) := by
  obtain ⟨_, _, sl, ⟨es, clock, he, _⟩, _⟩ := h
  exact ⟨es, clock, he⟩

/-! ### The whole -/
def On (O : Nat → Prop) (n : Nat) (k : Nat) : Prop := O k ∨ n ≤ k
theorem Fr.step {O : Nat → Prop} {w w1 w2 : World} {row : Option Nat} (h : Fr O w w1) (hg : w1.grownBy w2 row) (ho : ∀ k, row = some k → O k ∨ w.heap.size ≤ k) (hu : ∀ k, row = some k → ¬ IsU8 w1 k) : Fr O w w2 :=
  h.trans ⟨hg.os, hg.tape, hg.output, hg.size, fun k hk hn => hg.block k hk (fun heq => by
    rcases hn with hn | hn
    · exact hn ((ho k heq.symm).imp id (fun h => ⟨h, hk⟩))
    · exact hu k heq.symm hn)⟩
theorem Fr.ext {O : Nat → Prop} {w w1 w2 : World} (h : Fr O w w1) (hx : Ext w1 w2) : Fr O w w2 := h.trans (Fr.of_ext hx)

end Go.Proofs.YtalpfoomkhhgnaaGreatDoor

/-! Maps of files: looked up, set, deleted. Conditions: paths of at most 10000000 signs. -/
namespace Go.Proofs.YtalpfoomkhhgnaaGreatDoor
open Go Go.RowKit

theorem before_ltB : ∀ a b : B8, bytesBefore a b = ltB a b
  | [], [] => by simp [bytesBefore, ltB]
  | [], _ :: _ => by simp [bytesBefore, ltB]
  | _ :: _, [] => by simp [bytesBefore, ltB]
  | a :: r, b :: s => by
    rw [bytesBefore, before_ltB r s]
    unfold ltB
    rw [Bool.eq_iff_iff]
    simp [List.cons_lt_cons_iff]

theorem K_str : Maps.Keyed Tryz.prog 9 := Maps.string_keyed Tryz.underlying9
theorem key_str (p : B8) (h : p.length ≤ 10000000) : keyOf Tryz.prog 9 (S8 p) = some (.string p) := by
  have h2 : p.length ≤ maxLen := by unfold maxLen; omega
  simp [keyOf, mapKey, Tryz.underlying9, ByteArray.size, h2]
def en (sl : B8 → Value) (e : B8 × Fi) : Lit × DataW Value := (.string e.1, .held (fiV e.2 (sl e.1)))
def updS (sl : B8 → Value) (p : B8) (v : Value) : B8 → Value := fun q => if q = p then v else sl q

theorem delF_ne (l : Files) (p : B8) : ∀ e ∈ delF l p, e.1 ≠ p := by
  intro e he
  have := (List.mem_filter.1 he).2
  simpa using this

theorem look_mem {l : Files} {p : B8} {f : Fi} (h : look l p = some f) : (p, f) ∈ l := by
  unfold look at h
  obtain ⟨e, he, rfl⟩ := Option.map_eq_some_iff.1 h
  have h1 := List.mem_of_find?_eq_some he
  have h2 : e.1 = p := by simpa using List.find?_some he
  rw [← h2]; exact h1

theorem ltB_trans {a b c : B8} (h : ltB a b = true) (k : ltB b c = true) : ltB a c = true := by
  unfold ltB at *
  simp only [decide_eq_true_eq] at *
  exact List.lt_trans h k
theorem ltB_total {a b : B8} (h : ltB a b = false) (hne : a ≠ b) : ltB b a = true := by
  unfold ltB at *
  simp only [decide_eq_true_eq, decide_eq_false_iff_not] at *
  exact Std.lt_of_le_of_ne (List.not_lt.1 h) (Ne.symm hne)
theorem ltB_ne {a b : B8} (h : ltB a b = true) : a ≠ b := by
  rintro rfl
  unfold ltB at h
  simp at h
  exact absurd h (List.lt_irrefl a)

theorem Rising.del {l : Files} (h : Rising l) (p : B8) : Rising (delF l p) := List.Pairwise.filter _ h
theorem Rising.ins {x : B8 × Fi} : ∀ {l : Files}, Rising l → (∀ e ∈ l, e.1 ≠ x.1) → Rising (insF x l)
  | [], _, _ => by simp [insF, Rising]
  | y :: l, h, hn => by
    obtain ⟨h1, h2⟩ := List.pairwise_cons.1 h
    unfold insF
    split
    · rename_i hb
      exact List.pairwise_cons.2 ⟨fun e he => by
        rcases List.mem_cons.1 he with rfl | he
        · exact hb
        · exact ltB_trans hb (h1 e he), h⟩
    · rename_i hb
      have hb' := ltB_total (by simpa using hb) (fun e => hn y (by simp) e.symm)
      refine List.pairwise_cons.2 ⟨fun e he => ?_, Rising.ins h2 (fun e he => hn e (by simp [he]))⟩
      rcases mem_insF.1 he with rfl | he
      · exact hb'
      · exact h1 e he
theorem Rising.put {l : Files} (h : Rising l) (p : B8) (f : Fi) : Rising (putF l p f) := Rising.ins (h.del p) (delF_ne l p)
theorem Rising.ap {l : Files} (h : Rising l) (c : Ch) : Rising (ap l c) := by
  cases c with
  | put p f => exact h.put p f
  | mv s d =>
    show Rising (match look l s with | some x => putF (delF l s) d x | none => l)
    split
    · exact (h.del s).put d _
    · exact h
  | del p => exact h.del p

theorem mem_putF {l : Files} {p : B8} {f : Fi} {e : B8 × Fi} (h : e ∈ putF l p f) : e = (p, f) ∨ (e ∈ l ∧ e.1 ≠ p) := by
  rcases mem_insF.1 h with h | h
  · exact .inl h
  · exact .inr ⟨(List.mem_filter.1 h).1, delF_ne l p e h⟩

section
variable {ops : Array Oper} {rest : List Oper} {o : Oper} {a : Act} {Q : Exit → Act → World → Prop} {w : World}
end

end Go.Proofs.YtalpfoomkhhgnaaGreatDoor

/-! Lists of texts in order, each once; in plain Lean. Conditions: as each theorem states. -/
namespace Go.Proofs.YtalpfoomkhhgnaaGreatDoor
open Go Go.RowKit

/-- a is not behind b. -/
def leT (a b : B8) : Bool := !ltB b a
theorem leT_trans (a b c : B8) (h1 : leT a b = true) (h2 : leT b c = true) : leT a c = true := by
  unfold leT at *
  cases h3 : ltB c a with
  | false => rfl
  | true =>
    exfalso
    simp only [Bool.not_eq_true'] at h1 h2
    by_cases hab : a = b
    · subst hab; rw [h3] at h2; cases h2
    · have h4 := ltB_total h1 (fun e => hab e.symm)
      have h5 := ltB_trans h3 h4
      rw [h5] at h2; cases h2
theorem leT_total (a b : B8) : (leT a b || leT b a) = true := by
  unfold leT
  cases h1 : ltB b a with
  | false => rfl
  | true =>
    cases h2 : ltB a b with
    | false => rfl
    | true =>
      have := ltB_trans h1 h2
      have := ltB_ne this
      exact (this rfl).elim
theorem leT_anti {a b : B8} (h1 : leT a b = true) (h2 : leT b a = true) : a = b := by
  unfold leT at h1 h2
  simp only [Bool.not_eq_true'] at h1 h2
  by_cases h : a = b
  · exact h
  · have := ltB_total h1 (fun e => h e.symm)
    rw [this] at h2; cases h2
def upL (l : List B8) : Prop := l.Pairwise fun a b => leT a b = true
/-- Texts in order. -/
def sortT (l : List B8) : List B8 := l.mergeSort leT
theorem sortT_perm (l : List B8) : (sortT l).Perm l := List.mergeSort_perm l leT
theorem sortT_up (l : List B8) : upL (sortT l) := List.pairwise_mergeSort leT_trans leT_total l
theorem up_ext : ∀ {a b : List B8}, upL a → upL b → a.Perm b → a = b
  | [], b, _, _, h => by have := h.length_eq; exact (List.eq_nil_of_length_eq_zero this.symm).symm
  | x :: a, [], _, _, h => by have := h.length_eq; simp at this
  | x :: a, y :: b, ha, hb, h => by
    have ha' := List.pairwise_cons.1 ha
    have hb' := List.pairwise_cons.1 hb
    have hxy : x = y := by
      have h1 : x ∈ y :: b := h.subset (by simp)
      have h2 : y ∈ x :: a := h.symm.subset (by simp)
      rcases List.mem_cons.1 h1 with h1 | h1
      · exact h1
      · rcases List.mem_cons.1 h2 with h2 | h2
        · exact h2.symm
        · exact leT_anti (ha'.1 _ h2) (hb'.1 _ h1)
    subst hxy
    rw [up_ext ha'.2 hb'.2 (List.Perm.cons_inv h)]
theorem sortT_of {l r : List B8} (hp : r.Perm l) (hu : upL r) : r = sortT l := up_ext hu (sortT_up l) (hp.trans (sortT_perm l).symm)
/-- Runs of one text, cut to one. -/
def runs1 : List B8 → List B8
  | a :: b :: l => if a = b then runs1 (b :: l) else a :: runs1 (b :: l)
  | l => l
theorem runs1_mem : ∀ (l : List B8) (x : B8), x ∈ runs1 l ↔ x ∈ l
  | [], x => Iff.rfl
  | [a], x => Iff.rfl
  | a :: b :: l, x => by
    have ih := runs1_mem (b :: l) x
    unfold runs1
    split
    · rename_i h
      subst h
      rw [ih]
      simp
    · rw [List.mem_cons, ih, List.mem_cons (a := x) (b := a)]
def riseT (l : List B8) : Prop := l.Pairwise fun a b => ltB a b = true
theorem runs1_rise : ∀ {l : List B8}, upL l → riseT (runs1 l)
  | [], _ => List.Pairwise.nil
  | [a], _ => List.pairwise_singleton _ _
  | a :: b :: l, h => by
    have h' := List.pairwise_cons.1 h
    have ih := runs1_rise h'.2
    unfold runs1
    split
    · exact ih
    · rename_i hab
      refine List.pairwise_cons.2 ⟨fun x hx => ?_, ih⟩
      have hxm := (runs1_mem _ _).1 hx
      have hax := h'.1 x hxm
      by_cases hxe : a = x
      · subst hxe
        exfalso
        rcases List.mem_cons.1 hxm with e | hm
        · exact hab e
        · exact hab (leT_anti (h'.1 b (by simp)) ((List.pairwise_cons.1 h'.2).1 a hm))
      · unfold leT at hax
        exact ltB_total (by simpa using hax) (fun e => hxe e.symm)
/-- Texts in order, each once. -/
def uniqT (l : List B8) : List B8 := runs1 (sortT l)
theorem uniqT_mem {l : List B8} {x : B8} : x ∈ uniqT l ↔ x ∈ l := (runs1_mem _ _).trans (sortT_perm l).mem_iff
theorem uniqT_rise (l : List B8) : riseT (uniqT l) := runs1_rise (sortT_up l)
theorem rise_ext : ∀ {a b : List B8}, riseT a → riseT b → (∀ x, x ∈ a ↔ x ∈ b) → a = b
  | [], [], _, _, _ => rfl
  | [], y :: b, _, _, h => by have := (h y).2 (by simp); cases this
  | x :: a, [], _, _, h => by have := (h x).1 (by simp); cases this
  | x :: a, y :: b, ha, hb, h => by
    have ha' := List.pairwise_cons.1 ha
    have hb' := List.pairwise_cons.1 hb
    have hne : ∀ {u v : B8}, ltB u v = true → ltB v u = true → False := fun h1 h2 => ltB_ne (ltB_trans h1 h2) rfl
    have hxy : x = y := by
      rcases List.mem_cons.1 ((h x).1 (by simp)) with h1 | h1
      · exact h1
      · rcases List.mem_cons.1 ((h y).2 (by simp)) with h2 | h2
        · exact h2.symm
        · exact (hne (ha'.1 _ h2) (hb'.1 _ h1)).elim
    subst hxy
    rw [rise_ext ha'.2 hb'.2 (fun z => by
      have hz := h z
      simp only [List.mem_cons] at hz
      constructor
      · intro hza
        rcases hz.1 (.inr hza) with e | hm
        · subst e; exact (ltB_ne (ha'.1 _ hza) rfl).elim
        · exact hm
      · intro hzb
        rcases hz.2 (.inr hzb) with e | hm
        · subst e; exact (ltB_ne (hb'.1 _ hzb) rfl).elim
        · exact hm)]
theorem uniqT_of {l r : List B8} (hr : riseT r) (hm : ∀ x, x ∈ r ↔ x ∈ l) : r = uniqT l := rise_ext hr (uniqT_rise l) (fun x => (hm x).trans uniqT_mem.symm)
theorem runs1_len : ∀ (l : List B8), (runs1 l).length ≤ l.length
  | [] => Nat.le_refl _
  | [a] => Nat.le_refl _
  | a :: b :: l => by
    have ih := runs1_len (b :: l)
    unfold runs1
    split
    · simp at ih ⊢; omega
    · simp at ih ⊢; omega
theorem uniqT_len (l : List B8) : (uniqT l).length ≤ l.length := Nat.le_trans (runs1_len _) (Nat.le_of_eq (sortT_perm l).length_eq)

end Go.Proofs.YtalpfoomkhhgnaaGreatDoor

/-! Two lists that rise, merged, in plain Lean; a text that is set into a list that rises. Conditions: as each theorem states. -/
namespace Go.Proofs.YtalpfoomkhhgnaaGreatDoor
open Go Go.RowKit

/-- A merge under way: what is left of both, what is done. -/
structure MInv (A B a b C : List B8) : Prop where
  ua : upL a
  ub : upL b
  uc : upL C
  le : ∀ c ∈ C, ∀ x ∈ a ++ b, leT c x = true
  perm : (C ++ (a ++ b)).Perm (A ++ B)
theorem MInv.start {A B : List B8} (ha : upL A) (hb : upL B) : MInv A B A B [] := ⟨ha, hb, List.Pairwise.nil, (fun c hc => by cases hc), List.Perm.refl _⟩
theorem MInv.swap {A B a b C : List B8} (h : MInv A B a b C) : MInv A B b a C :=
  ⟨h.ub, h.ua, h.uc, fun c hc x hx => h.le c hc x (List.perm_append_comm.mem_iff.1 hx), ((List.Perm.append_left C (List.perm_append_comm (l₁ := b) (l₂ := a)))).trans h.perm⟩
theorem MInv.step {A B a b C : List B8} {x y : B8} (h : MInv A B (x :: a) (y :: b) C) (hc : ltB y x = false) : MInv A B a (y :: b) (C ++ [x]) := by
  have hxy : leT x y = true := by unfold leT; rw [hc]; rfl
  have hx : ∀ z ∈ a ++ y :: b, leT x z = true := fun z hz => by
    rcases List.mem_append.1 hz with hz | hz
    · exact (List.pairwise_cons.1 h.ua).1 z hz
    · rcases List.mem_cons.1 hz with rfl | hz
      · exact hxy
      · exact leT_trans _ _ _ hxy ((List.pairwise_cons.1 h.ub).1 z hz)
  refine ⟨(List.pairwise_cons.1 h.ua).2, h.ub, List.pairwise_append.2 ⟨h.uc, List.pairwise_singleton _ _, fun c hc z hz => ?_⟩, fun c hc z hz => ?_, ?_⟩
  · rw [List.mem_singleton.1 hz]
    exact h.le c hc x (by simp)
  · rcases List.mem_append.1 hc with hc | hc
    · exact h.le c hc z (by rw [List.cons_append]; exact List.mem_cons_of_mem _ hz)
    · rw [List.mem_singleton.1 hc]
      exact hx z hz
  · have := h.perm
    simpa using this
theorem MInv.fin {A B a C : List B8} (h : MInv A B a [] C) : C ++ a = sortT (A ++ B) := by
  refine sortT_of (by simpa using h.perm) (List.pairwise_append.2 ⟨h.uc, h.ua, fun c hc z hz => h.le c hc z (by simpa using hz)⟩)
theorem MInv.len {A B a b C : List B8} (h : MInv A B a b C) : C.length + (a.length + b.length) = A.length + B.length := by
  have := h.perm.length_eq
  simpa using this
theorem sort_halves (l : List B8) (k : Nat) : sortT (sortT (l.take k) ++ sortT (l.drop k)) = sortT l := by
  refine sortT_of ((sortT_perm _).trans ?_) (sortT_up _)
  have h : (l.take k ++ l.drop k).Perm l := by rw [List.take_append_drop]
  exact ((sortT_perm _).append (sortT_perm _)).trans h
theorem sort_small {l : List B8} (h : l.length < 2) : sortT l = l := by
  refine (sortT_of (List.Perm.refl _) ?_).symm
  match l, h with
  | [], _ => exact List.Pairwise.nil
  | [x], _ => exact List.pairwise_singleton _ _
theorem sortT_len (l : List B8) : (sortT l).length = l.length := (sortT_perm l).length_eq

/-! ### A text set into a list that rises -/
end Go.Proofs.YtalpfoomkhhgnaaGreatDoor

/-! bytes.Clone; fsim.files: make. Conditions: as each theorem states. -/
namespace Go.Proofs.YtalpfoomkhhgnaaGreatDoor
open Go Go.RowKit

def Nu (w w' : World) (k : Nat) : Prop := w.heap.size ≤ k ∧ k < w'.heap.size
theorem cellsAt3 {w : World} {g : Nat} {v0 v1 v2 : Value} {t : TypeId} {fr : Nat × Nat} (h : w.heap[g]? = some (.cells #[v0, v1, v2] t fr)) :
    w.cell? ⟨g, 0, none⟩ = some v0 ∧ w.cell? ⟨g, 1, none⟩ = some v1 ∧ w.cell? ⟨g, 2, none⟩ = some v2 := by
  simp [World.cell?, h]
theorem IsFiles.ext {R : Nat → Prop} {w w' : World} {b : Nat} {l : Files} (h : IsFiles R w b l) (hx : Ext w w') : IsFiles R w' b l := h.stay (hx.block b h.lt) (KeepR.of_keep (KeepB.of_ext hx))
theorem IsData.ext {R : Nat → Prop} {w w' : World} {v : Value} {l : B8} (h : IsData R w v l) (hx : Ext w w') : IsData R w' v l := h.keep (KeepB.of_ext hx)

def MakePost (R : Nat → Prop) (w : World) (gm : Nat) (l : Files) (e : Ending) (w' : World) : Prop := e = .returned (.tuple #[]) ∧ IsFiles R w' gm l ∧ w.grownBy w' (some gm)

end Go.Proofs.YtalpfoomkhhgnaaGreatDoor

/-! Maps of files gone through: copied, dir, Used. Conditions: as each theorem states. -/
namespace Go.Proofs.YtalpfoomkhhgnaaGreatDoor
open Go Go.RowKit

theorem key_inv {key : Value} {kl : Lit} (h : keyOf Tryz.prog 9 key = some kl) : ∃ x : ByteArray, key = .string x := by
  cases key <;> simp [keyOf, mapKey, Tryz.underlying9] at h
  exact ⟨_, rfl⟩
theorem key_lit {x : ByteArray} {kl : Lit} (h : keyOf Tryz.prog 9 (.string x) = some kl) : kl = .string x.data.toList := by
  simp [keyOf, mapKey, Tryz.underlying9] at h
  exact h.2.symm

/-- Each file's data lies in a slice. -/
def Sliced (sl : B8 → Value) (l : Files) : Prop := ∀ p f, look l p = some f → ∃ a c, sl p = .slice a f.data.length c

section
variable {ops : Array Oper} {rest : List Oper} {o : Oper} {a : Act} {Q : Exit → Act → World → Prop} {w : World}
end

end Go.Proofs.YtalpfoomkhhgnaaGreatDoor

/-! Files asked: Used, dir, Paths, Peek. Conditions: as each theorem states. -/
namespace Go.Proofs.YtalpfoomkhhgnaaGreatDoor
open Go Go.RowKit

def leftF (left : Lit → Bool) (l : Files) : Files := l.filter fun e => left (.string e.1)
def strike (left : Lit → Bool) (p : B8) : Lit → Bool := fun z => left z && !z.sameKey (.string p)
theorem same_str (a b : B8) : (Lit.string a).sameKey (.string b) = (a == b) := rfl

theorem strike_perm {left : Lit → Bool} {p : B8} {f : Fi} (hl : left (.string p) = true) : ∀ {l : Files}, Rising l → look l p = some f → (leftF left l).Perm ((p, f) :: leftF (strike left p) l)
  | [], _, hk => by simp [look] at hk
  | e :: l, hr, hk => by
    obtain ⟨h1, h2⟩ := List.pairwise_cons.1 hr
    by_cases he : e.1 = p
    · have hef : e = (p, f) := by
        have : look (e :: l) p = some e.2 := by unfold look; rw [List.find?_cons]; simp [he]
        rw [this] at hk
        rw [← Option.some.inj hk, ← he]
      subst hef
      have hrest : leftF (strike left p) l = leftF left l := by
        unfold leftF
        refine List.filter_congr fun x hx => ?_
        have hne : x.1 ≠ p := fun h => ltB_ne (h1 x hx) h.symm
        unfold strike
        rw [same_str]
        simp [hne]
      unfold leftF at *
      rw [List.filter_cons, if_pos hl, List.filter_cons]
      have hs : strike left p (.string p) = false := by unfold strike; rw [same_str]; simp
      rw [if_neg (by simp [hs]), hrest]
    · have hk' : look l p = some f := by
        have : look (e :: l) p = look l p := by
          unfold look
          rw [List.find?_cons]
          have : (e.1 == p) = false := by simpa using he
          rw [this]
        rwa [this] at hk
      have ih := strike_perm hl h2 hk'
      have hs : strike left p (.string e.1) = left (.string e.1) := by
        unfold strike; rw [same_str]; simp [he]
      unfold leftF at *
      rw [List.filter_cons, List.filter_cons, hs]
      split
      · exact (List.Perm.cons e ih).trans (List.Perm.swap _ _ _)
      · exact ih

theorem leftF_none {left : Lit → Bool} {l : Files} (h : ∀ k, left k = false) : leftF left l = [] := by
  unfold leftF; rw [List.filter_eq_nil_iff]; intro e _; simp [h]
def lenSum (l : Files) : Nat := (l.map fun e => e.2.data.length).sum
theorem prefix_any (s t : ByteArray) (w : World) : Calls Tryz.prog 148 #[.string s, .string t] w fun e w' => e = .returned (.bool (t.data.toList.isPrefixOf s.data.toList)) ∧ w' = w :=
  Tryz.strings_HasPrefix s t w

theorem und_str (p : B8) : (⟨p.toArray⟩ ++ ⟨#[47]⟩ : ByteArray).data.toList = p ++ [47] := by simp [ByteArray.data_append]

def dirB (l : Files) (path but : B8) : Bool := l.any fun e => !(e.1 == but) && isUnder path e.1

end Go.Proofs.YtalpfoomkhhgnaaGreatDoor

/-! names.Split, names.Parents; may a file stand at a path; fsim.wrong. Conditions: paths of at most 10000000 signs. -/
namespace Go.Proofs.YtalpfoomkhhgnaaGreatDoor
open Go Go.RowKit

theorem join_any (v : Value) (L : List B8) (sep : B8) (w : World) (hv : IsStrs w v L) (hl : (Lib.join L sep).length ≤ 140737488355328) :
    Calls Tryz.prog 53 #[v, S8 sep] w fun e w' => e = .returned (S8 (Lib.join L sep)) ∧ Ext w w' := by
  obtain ⟨a, cap, rfl, h1, h2, h3, h4⟩ := hv
  cases L with
  | nil => exact (Tryz.strings_Join_none a cap ⟨sep.toArray⟩ w).mono fun e w' ⟨he, hw⟩ => ⟨he, by rw [hw]; exact Ext.refl _⟩
  | cons x L =>
    obtain ⟨b, o, rfl, hc⟩ := h4 (by simp)
    have hm : (((x :: L).map fun l => (⟨l.toArray⟩ : ByteArray)).map (·.data.toList)) = x :: L := by
      rw [List.map_map]
      exact List.map_id _
    have h := Tryz.strings_Join b o cap ((x :: L).map fun l => (⟨l.toArray⟩ : ByteArray)) ⟨sep.toArray⟩ w (fun j y hy => hc j _ (by
      rw [List.getElem?_map] at hy ⊢
      obtain ⟨z, hz, rfl⟩ := Option.map_eq_some_iff.1 hy
      rw [hz]; rfl)) (by
        have := hc 0 _ rfl
        exact World.block_lt_of_cell? _ _ this) (by simpa using h3) (by simpa using h1) (by rw [hm]; exact hl)
    rw [hm, List.length_map] at h
    exact h

theorem join_len (sep : B8) : ∀ L : List B8, (Lib.join L sep).length ≤ (L.map List.length).sum + L.length * sep.length
  | [] => by simp [Lib.join_nil]
  | x :: L => by
    rw [Lib.join_cons]
    have : ∀ M : List B8, (Lib.joinTail sep M).length = (M.map List.length).sum + M.length * sep.length := by
      intro M
      induction M with
      | nil => simp [Lib.joinTail]
      | cons y M ih =>
        unfold Lib.joinTail at *
        simp only [List.map_cons, List.flatten_cons, List.length_append, List.sum_cons, List.length_cons, ih, Nat.add_mul]
        omega
    simp only [List.length_append, this, List.map_cons, List.sum_cons, List.length_cons, Nat.add_mul]
    omega

theorem take_sum_le : ∀ (L : List Nat) (k : Nat), (L.take k).sum ≤ L.sum
  | [], k => by simp
  | x :: L, 0 => by simp
  | x :: L, k + 1 => by have := take_sum_le L k; simp; omega

theorem join_take_le (l : B8) (k : Nat) : (Lib.join ((cut 47 l).take k) [47]).length ≤ 2 * l.length + 2 := by
  have h1 := join_len [47] ((cut 47 l).take k)
  have h2 := cut_total 47 l
  have h3 := cut_length 47 l
  have h4 := take_sum_le ((cut 47 l).map List.length) k
  rw [← List.map_take] at h4
  have h5 := List.length_take_le k (cut 47 l)
  have h6 : ((cut 47 l).take k).length ≤ (cut 47 l).length := List.length_take_le' k (cut 47 l)
  simp only [List.length_cons, List.length_nil] at h1
  omega

theorem IsStrs.take {w : World} {a : Option Addr} {L : List B8} {cap n : Nat} (h : IsStrs w (.slice a L.length cap) L) (hn : n ≤ L.length) : IsStrs w (.slice a n cap) (L.take n) := by
  obtain ⟨a', cap', he, h1, h2, h3, h4⟩ := h
  simp only [Value.slice.injEq, true_and] at he
  obtain ⟨rfl, rfl⟩ := he
  have hl : (L.take n).length = n := by rw [List.length_take]; omega
  refine ⟨a, cap, by rw [hl], by omega, h2, by omega, fun hne => ?_⟩
  obtain ⟨b, o, rfl, hc⟩ := h4 (by
    intro h0
    have : L = [] := by simpa using h0
    subst this
    simp at hne)
  refine ⟨b, o, rfl, fun i u hu => hc i u ?_⟩
  rw [List.getElem?_map] at hu ⊢
  obtain ⟨x, hx, rfl⟩ := Option.map_eq_some_iff.1 hu
  rw [List.getElem?_take] at hx
  split at hx
  · rw [hx]; rfl
  · simp at hx

def splitL (l : B8) : List B8 := if pathB l then cut 47 l else []

set_option maxRecDepth 100000 in
set_option maxHeartbeats 400000 in
theorem nsplitF_any (l : B8) (w : World) (hE : Env w) (hl : l.length ≤ 10000000) :
    Calls Tryz.prog 52 #[S8 l] w fun e w' => (∃ v, e = .returned v ∧ IsStrs w' v (splitL l) ∧ ∀ b, v.ownBlock = some b → w.heap.size ≤ b) ∧ Ext w w' := by
  have HE : Hid _ := hE
  clear hE
  have hS : splitL l = if pathB l then cut 47 l else [] := rfl
  have HS : Hid _ := hS
  clear hS
  cases hp : pathB l with
  | true =>
    have HP : Hid _ := hp
    go_enter Tryz.func52, Tryz.ntmps52
    go_wp2_with (first
      | (go_at_call 19; go_must (refine (path_l l _ HE.out (by omega)).mono ?_; rintro e w2 ⟨rfl, hx2⟩))
      | (go_at_call 50; go_must (refine (split_any ⟨l.toArray⟩ 47 _ (HE.out.ext hx2) (Nat.lt_of_le_of_lt hl (by decide))).mono ?_; rintro e w3 ⟨v, rfl, hv, hfr, hx3⟩; have HFR : Hid _ := hfr.2; clear hfr; have HV : Hid _ := hv; obtain ⟨a, c, rfl, -⟩ := id hv; clear hv)))
    go_ret
    exact ⟨⟨_, rfl, by rw [HS.out, if_pos HP.out]; exact HV.out, fun b hb => Nat.le_trans hx2.size (HFR.out b hb)⟩, hx2.trans hx3⟩
  | false =>
    have HP : Hid _ := hp
    go_enter Tryz.func52, Tryz.ntmps52
    go_wp2_with (go_at_call 19; go_must (refine (path_l l _ HE.out (by omega)).mono ?_; rintro e w2 ⟨rfl, hx2⟩))
    go_ret
    exact ⟨⟨_, rfl, by rw [HS.out, if_neg (by simp [HP.out])]; exact IsStrs.nil _, fun b hb => by cases hb⟩, hx2⟩

theorem nsplit_any (l : B8) (w : World) (hE : Env w) (hl : l.length ≤ 10000000) :
    Calls Tryz.prog 52 #[S8 l] w fun e w' => (∃ v, e = .returned v ∧ IsStrs w' v (splitL l)) ∧ Ext w w' :=
  (nsplitF_any l w hE hl).mono (by rintro e w' ⟨⟨v, h1, h2, -⟩, hx⟩; exact ⟨⟨v, h1, h2⟩, hx⟩)

def parentsN (L : List B8) (k : Nat) : List B8 := (List.range k).map fun i => Lib.join (L.take (i + 1)) [47]
def parentsL (l : B8) : List B8 := parentsN (splitL l) ((splitL l).length - 1)
theorem parentsN_succ (L : List B8) (k : Nat) : parentsN L (k + 1) = parentsN L k ++ [Lib.join (L.take (k + 1)) [47]] := by
  unfold parentsN; rw [List.range_succ, List.map_append]; rfl
theorem parentsN_length (L : List B8) (k : Nat) : (parentsN L k).length = k := by simp [parentsN]

set_option maxRecDepth 100000 in
set_option maxHeartbeats 1000000 in
theorem parents_any (l : B8) (w : World) (hE : Env w) (hl : l.length ≤ 10000000) :
    Calls Tryz.prog 20 #[S8 l] w fun e w' => (∃ v, e = .returned v ∧ IsStrs w' v (parentsL l)) ∧ Ext w w' := by
  have HE : Hid _ := hE
  have hS : splitL l = [] ∨ splitL l = cut 47 l := by unfold splitL; split <;> simp
  have hlen : (splitL l).length ≤ 10000001 := by
    rcases hS with h | h
    · rw [h]; simp
    · rw [h]; have := (cut_length 47 l).2; omega
  have HJ : Hid (∀ k, (Lib.join ((splitL l).take k) [47]).length ≤ 140737488355328) := fun k => by
    rcases hS with h | h
    · rw [h, List.take_nil, Lib.join_nil]; simp
    · rw [h]; have := join_take_le l k; omega
  have HP : Hid (parentsL l = parentsN (splitL l) ((splitL l).length - 1)) := rfl
  generalize hL : splitL l = L at *
  have HL : Hid _ := hL
  clear hE hS hL
  go_enter Tryz.func20, Tryz.ntmps20
  go_wp2_with (go_at_call 52; go_must (refine (nsplit_any l _ HE.out hl).mono ?_; rw [HL.out]; rintro e w2 ⟨⟨v, rfl, hv⟩, hx2⟩; have HV : Hid _ := hv; obtain ⟨a, cap, rfl, h1, h2, h3, -⟩ := id hv; clear hv))
  go_loopw [4, 5] (fun v i wr => ∃ k : Nat, k ≤ L.length - 1 ∧ i = .int .i64 ((k + 1 : Nat) : Int) ∧ wr.ownsRow w2.heap.size 9 1 v k ((parentsN L k).map S8) ∧ Ext w2 wr) (fun _ i _ => L.length - (intOf i).toNat)
  case atStart => exact ⟨0, Nat.zero_le _, rfl, World.ownsRow_nil _ _ _ _, Ext.refl _⟩
  case round =>
    obtain ⟨k, hk, rfl, hown, hx⟩ := hrel
    have hsz := hx.size
    by_cases hlt : k + 1 < L.length
    · have i0 : (0 : Int) ≤ ((k + 1 : Nat) : Int) := by omega
      have i1 : ((k + 1 : Nat) : Int) ≤ (cap : Int) := by omega
      go_wp2_with (first
        | (go_at_call 53; go_must (refine (join_any _ (L.take (k + 1)) [47] _ (IsStrs.take (IsStrs.ext HV.out hx) (by omega)) (HJ.out _)).mono ?_; rintro e' w3 ⟨rfl, hx3⟩; have hown3 := owns_ext hown hx3; have hsz3 := hx3.size))
        | (at_builtin; go_must (refine app_str rfl _ _ rfl w2.heap.size _ k _ rfl (hown3.alloc _) w3.heap.size 1 1 [Lib.join (L.take (k + 1)) [47]] rfl rfl (alloc_at _ _) (by omega) (by simp; omega) ?_; intro v' w4 hown4 hg4)))
      go_roundw
      case rel => exact ⟨k + 1, by omega, by go_num, by rw [parentsN_succ]; exact hown4, owns_ext_app ((hx.trans hx3).alloc _) (hown3.alloc _) hg4⟩
      case measure => simp [intOf]; omega
    · have hkk : k = L.length - 1 := by omega
      have hres : IsStrs wr u4 (parentsL l) := by
        rw [HP.out, ← hkk]
        unfold IsStrs
        rw [parentsN_length]
        exact Row.of_owns hown (by omega)
      have HR : Hid _ := hres
      have hno : ¬ ((k + 1 : Nat) : Int) < (L.length : Int) := by omega
      clear hres hown hkk
      go_wp2
      go_ret
      exact ⟨⟨_, rfl, HR.out⟩, hx2.trans hx⟩

/-- May a file stand at a path, as the program asks? -/
def mayP (l : Files) (path but : B8) : Bool := !((parentsL path).any fun p => (look l p).isSome && !(p == but)) && !(dirB l path but)

theorem parents_short (l : B8) : ∀ p ∈ parentsL l, p.length ≤ 2 * l.length + 2 := by
  intro p hp
  unfold parentsL parentsN at hp
  obtain ⟨i, _, rfl⟩ := List.mem_map.1 hp
  unfold splitL
  split
  · exact join_take_le l _
  · simp [Lib.join_nil]

end Go.Proofs.YtalpfoomkhhgnaaGreatDoor

/-! Patterns of paths, in plain Lean: the program's way and the document's say the same. No conditions. -/
namespace Go.Proofs.YtalpfoomkhhgnaaGreatDoor
open Go Go.RowKit

/-- A pattern without a sign for directories behind it. -/
def patS (p : B8) : B8 := Lib.trimSuffix p [47]
def patB (p : B8) : Bool := nameB (patS p) && (decide ((patS p).count 42 = 0) || (decide ((patS p).count 42 = 1) && (decide (1 < (patS p).length) && (decide ((patS p).head? = some 42) || decide ((patS p).getLast? = some 42)))))
def takesB (p s : B8) : Bool := if ([42] : B8).isPrefixOf p = true then (p.drop 1).isSuffixOf s else if ([42] : B8).isSuffixOf p = true then (p.take (p.length - 1)).isPrefixOf s else p == s
def patD (p : B8) : Bool := ([47] : B8).isSuffixOf p
/-- Does a pattern take one of a path's names? -/
def hitL (rest : B8) (dir : Bool) (l : List B8) : Bool := (l.zipIdx).any fun x => takesB rest x.1 && !(dir && decide (x.2 + 1 = l.length))
def ign1 (l : List B8) (p : B8) : Bool := patB p && hitL (patS p) (patD p) l
def ignB (pats : List B8) (s : B8) : Bool := pats.any (ign1 (splitL s))

/-! ### The document's way -/
def pat2 : List B8 → Option (B8 × Bool × B8)
  | [x] => some (x, false, [])
  | [a, b] => if (a ≠ [] ∧ b ≠ []) ∨ a ++ b = [] then none else some (a, true, b)
  | _ => none
def patR (p : B8) : Option (B8 × Bool × B8) := if nameB (patS p) = true then pat2 (cut 42 (patS p)) else none
def takesR (x : B8 × Bool × B8) (s : B8) : Bool := if x.2.1 = true then decide (x.1.length + x.2.2.length ≤ s.length) && ((s.take x.1.length == x.1) && (s.drop (s.length - x.2.2.length) == x.2.2)) else s == x.1
end Go.Proofs.YtalpfoomkhhgnaaGreatDoor

/-! fsim.FS: does: a change is done. Conditions: at most 10000000 files, changes, ticks. -/
namespace Go.Proofs.YtalpfoomkhhgnaaGreatDoor
open Go Go.RowKit

section
variable {ops : Array Oper} {rest : List Oper} {o : Oper} {a : Act} {Q : Exit → Act → World → Prop} {w : World}
end

end Go.Proofs.YtalpfoomkhhgnaaGreatDoor

/-! fsim.FS: puts, fits, removes. Conditions: at most 9000000 ticks; short paths and data. -/
namespace Go.Proofs.YtalpfoomkhhgnaaGreatDoor
open Go Go.RowKit

/-- What holds of a file system at all times. -/
def ChOk : Ch → Prop
  | .put p f => pathB p = true ∧ f.data.length ≤ 20000
  | .mv s d => pathB s = true ∧ pathB d = true ∧ s ≠ d
  | .del p => pathB p = true
structure OkM (m : Fs) : Prop where
  lnow : m.now.length ≤ m.time
  lsure : m.sure.length ≤ m.time
  lpend : m.pend.length ≤ m.time
  lsp : m.sure.length + m.pend.length ≤ m.time
  lusers : m.users.length ≤ m.time
  dnow : ∀ e ∈ m.now, pathB e.1 = true ∧ e.2.data.length ≤ 20000
  dsure : ∀ e ∈ m.sure, pathB e.1 = true ∧ e.2.data.length ≤ 20000
  dpend : ∀ c ∈ m.pend, ChOk c
  fold : m.pend.foldl ap m.sure = m.now
  mvs : ∀ k s d, m.pend[k]? = some (.mv s d) → (look ((m.pend.take k).foldl ap m.sure) s).isSome = true

theorem path_ne {p : B8} (h : pathB p = true) : p ≠ [] := by
  rintro rfl
  revert h; decide

def ptr (g : Nat) : Value := .pointer (some ⟨g, 0, none⟩)

end Go.Proofs.YtalpfoomkhhgnaaGreatDoor

/-! fsim.FS: Up, Reboot, Now, Pending, Calls, settle, removes, fits. Conditions: at most 9000000 ticks; short paths. -/
namespace Go.Proofs.YtalpfoomkhhgnaaGreatDoor
open Go Go.RowKit

end Go.Proofs.YtalpfoomkhhgnaaGreatDoor

/-! fsim.FS: UserWrite, UserRemove. Conditions: at most 9000000 ticks; short paths and data. -/
namespace Go.Proofs.YtalpfoomkhhgnaaGreatDoor
open Go Go.RowKit

section
variable {ops : Array Oper} {rest : List Oper} {o : Oper} {a : Act} {Q : Exit → Act → World → Prop} {w : World}
end

/-- A slice that no call on a file system writes. -/
def Out (O : Nat → Prop) (w : World) (v : Value) : Prop := ∀ a n c, v = .slice (some a) n c → n ≠ 0 → ¬ O a.block ∨ IsU8 w a.block
theorem IsBytes.fr {O : Nat → Prop} {w w' : World} {v : Value} {l : B8} (h : IsBytes w v l) (ho : Out O w v) (hf : Fr O w w') : IsBytes w' v l := by
  obtain ⟨a, cap, rfl, h1, h2, h3, h4⟩ := h
  refine ⟨a, cap, rfl, h1, h2, h3, fun hn => ?_⟩
  have hl : l.length ≠ 0 := fun h0 => hn (by rw [List.eq_nil_of_length_eq_zero h0]; rfl)
  obtain ⟨b, o, rfl, hc⟩ := h4 hn
  refine ⟨b, o, rfl, fun i u hu => ?_⟩
  have hcu := hc i u hu
  rw [World.cell?_of_block (w := w) (w' := w') (a := ⟨b, o + i, none⟩) (hf.block b (World.block_lt_of_cell? _ _ hcu) (ho _ _ _ rfl hl))]
  exact hcu
theorem IsData.out {O R : Nat → Prop} {w : World} {v : Value} {l : B8} (h : IsData R w v l) : Out O w v := fun a n c he _ => .inr (h.typed a n c he)
theorem Env.fr {O : Nat → Prop} {w w' : World} (h : Env w) (hf : Fr O w w') (ho : ∀ k, O k → k ≠ 2) : Env w' := by
  obtain ⟨m, hm⟩ := h
  exact ⟨m, by rw [World.cell?_of_block (w := w) (w' := w') (hf.block _ (World.block_lt_of_cell? _ _ hm) (.inl (fun hh => ho _ hh rfl)))]; exact hm⟩

end Go.Proofs.YtalpfoomkhhgnaaGreatDoor

/-! fsim.FS: Crash. Conditions: at most 9000000 ticks. -/
namespace Go.Proofs.YtalpfoomkhhgnaaGreatDoor
open Go Go.RowKit

theorem fold_length (l : Files) : ∀ cs : List Ch, (cs.foldl ap l).length ≤ l.length + cs.length := by
  intro cs
  induction cs generalizing l with
  | nil => simp
  | cons c cs ih =>
    have h1 := ih (ap l c)
    have h2 := ap_length l c
    simp only [List.foldl_cons, List.length_cons]
    omega
end Go.Proofs.YtalpfoomkhhgnaaGreatDoor

/-! What holds of a file system at all times, kept by all that is done: in plain Lean. Conditions: as each theorem states. -/
namespace Go.Proofs.YtalpfoomkhhgnaaGreatDoor
open Go Go.RowKit

/-! ### Paths above a path -/
theorem cut_append (c : UInt8) : ∀ (l r : B8), cut c (l ++ c :: r) = cut c l ++ cut c r
  | [], r => by simp [cut]
  | x :: l, r => by
    have ih := cut_append c l r
    show cut c (x :: (l ++ c :: r)) = cut c (x :: l) ++ cut c r
    by_cases hx : (x == c) = true
    · rw [cut, cut, if_pos hx, if_pos hx, ih]
      rfl
    · rw [cut, cut, if_neg hx, if_neg hx, ih]
      cases hq : cut c l with
      | nil => exact (cut_ne c l hq).elim
      | cons a t => rfl
theorem join_one (x : B8) (c : UInt8) : Lib.join [x] [c] = x := by simp [Lib.join, List.intercalate, List.intersperse]
theorem join_two (x y : B8) (L : List B8) (c : UInt8) : Lib.join (x :: y :: L) [c] = x ++ c :: Lib.join (y :: L) [c] := by
  simp [Lib.join, List.intercalate, List.intersperse]
theorem join_cut (c : UInt8) : ∀ l : B8, Lib.join (cut c l) [c] = l
  | [] => by simp [cut, join_one]
  | x :: l => by
    have ih := join_cut c l
    rw [cut]
    by_cases hx : (x == c) = true
    · rw [if_pos hx]
      have e : x = c := by simpa using hx
      subst e
      cases hq : cut x l with
      | nil => exact (cut_ne x l hq).elim
      | cons a t => rw [hq] at ih; rw [join_two, ih]; rfl
    · rw [if_neg hx]
      cases hq : cut c l with
      | nil => exact (cut_ne c l hq).elim
      | cons a t =>
        rw [hq] at ih
        cases t with
        | nil => rw [join_one] at ih ⊢; rw [ih]
        | cons b t => rw [join_two] at ih ⊢; simp [ih]
theorem join_append (c : UInt8) : ∀ (A B : List B8), A ≠ [] → B ≠ [] → Lib.join (A ++ B) [c] = Lib.join A [c] ++ c :: Lib.join B [c]
  | [], _, h, _ => (h rfl).elim
  | [x], [], _, h => (h rfl).elim
  | [x], y :: B, _, _ => by rw [join_one]; exact join_two x y B c
  | x :: y :: A, B, _, hB => by
    have ih := join_append c (y :: A) B (by simp) hB
    show Lib.join (x :: y :: (A ++ B)) [c] = _
    rw [join_two, join_two, show y :: (A ++ B) = (y :: A) ++ B from rfl, ih]
    simp
theorem under_iff (d s : B8) : isUnder d s = true ↔ ∃ r, s = d ++ 47 :: r := by
  unfold isUnder
  rw [List.isPrefixOf_iff_prefix]
  constructor
  · rintro ⟨r, hr⟩; exact ⟨r, by rw [← hr]; simp⟩
  · rintro ⟨r, hr⟩; exact ⟨r, by rw [hr]; simp⟩
theorem mem_parents {path p : B8} (hp : pathB path = true) : p ∈ parentsL path ↔ isUnder p path = true := by
  unfold parentsL parentsN splitL
  rw [if_pos hp, under_iff]
  constructor
  · intro h
    obtain ⟨i, hi, rfl⟩ := List.mem_map.1 h
    have hi' := List.mem_range.1 hi
    refine ⟨Lib.join ((cut 47 path).drop (i + 1)) [47], ?_⟩
    rw [← join_append 47 _ _ (by intro h0; have := congrArg List.length h0; simp at this; rw [this] at hi'; simp at hi') (by intro h0; have := congrArg List.length h0; simp at this; omega), List.take_append_drop, join_cut]
  · rintro ⟨r, rfl⟩
    refine List.mem_map.2 ⟨(cut 47 p).length - 1, List.mem_range.2 ?_, ?_⟩
    · have h1 : 0 < (cut 47 p).length := List.length_pos_iff.2 (cut_ne 47 p)
      have h2 : 0 < (cut 47 r).length := List.length_pos_iff.2 (cut_ne 47 r)
      rw [cut_append, List.length_append]
      omega
    · have h1 : 0 < (cut 47 p).length := List.length_pos_iff.2 (cut_ne 47 p)
      rw [cut_append, show (cut 47 p).length - 1 + 1 = (cut 47 p).length by omega, List.take_left, join_cut]
/-! ### What holds at all times -/
theorem files_ap {l : Files} {c : Ch} (h : ∀ e ∈ l, pathB e.1 = true ∧ e.2.data.length ≤ 20000) (hc : ChOk c) : ∀ e ∈ ap l c, pathB e.1 = true ∧ e.2.data.length ≤ 20000 := by
  intro e he
  cases c with
  | put p f =>
    rcases mem_putF he with rfl | ⟨h1, _⟩
    · exact hc
    · exact h e h1
  | mv s d =>
    unfold ap at he
    simp only at he
    split at he
    · rename_i x hx
      rcases mem_putF he with rfl | ⟨h1, _⟩
      · exact ⟨hc.2.1, (h _ (look_mem hx)).2⟩
      · exact h e (List.mem_filter.1 h1).1
    · exact h e he
  | del p => exact h e (List.mem_filter.1 he).1
theorem files_fold {cs : List Ch} : ∀ {l : Files}, (∀ e ∈ l, pathB e.1 = true ∧ e.2.data.length ≤ 20000) → (∀ c ∈ cs, ChOk c) → ∀ e ∈ cs.foldl ap l, pathB e.1 = true ∧ e.2.data.length ≤ 20000 := by
  induction cs with
  | nil => exact fun h _ => h
  | cons c cs ih => exact fun h hc => ih (files_ap h (hc c (by simp))) (fun d hd => hc d (by simp [hd]))
theorem ok_at {c : Ch} (t : Nat) (h : ChOk c) : ChOk (c.at t) := by
  cases c with
  | put p f => exact h
  | mv s d => exact h
  | del p => exact h
theorem ok_does {m : Fs} {c : Ch} (h : OkM m) (hc : ChOk c) (hmv : ∀ s d, c = .mv s d → (look m.now s).isSome = true) : OkM (does m c) := by
  have hl := ap_length m.now (c.at (m.time + 1))
  have h1 := h.lnow
  have h2 := h.lsure
  have h3 := h.lpend
  have h4 := h.lusers
  have h5 := h.lsp
  refine ⟨by simp only [does]; omega, by simp only [does]; omega, by simp only [does, List.length_append, List.length_cons, List.length_nil]; omega, by simp only [does, List.length_append, List.length_cons, List.length_nil]; omega, by simp only [does]; omega, files_ap h.dnow (ok_at _ hc), h.dsure, ?_, ?_, ?_⟩
  · intro d hd
    rcases List.mem_append.1 hd with hd | hd
    · exact h.dpend d hd
    · rw [List.mem_singleton.1 hd]; exact ok_at _ hc
  · show (m.pend ++ [c.at (m.time + 1)]).foldl ap m.sure = ap m.now (c.at (m.time + 1))
    rw [List.foldl_append, h.fold]
    rfl
  · intro k s d hk
    show (look (((m.pend ++ [c.at (m.time + 1)]).take k).foldl ap m.sure) s).isSome = true
    have hk' : (m.pend ++ [c.at (m.time + 1)])[k]? = some (.mv s d) := hk
    rw [List.getElem?_append] at hk'
    split at hk'
    · rename_i hlt
      rw [List.take_append_of_le_length (by omega)]
      exact h.mvs k s d hk'
    · rename_i hge
      have h9 := (List.getElem?_eq_some_iff.1 hk').1
      have hz : k - m.pend.length = 0 := by simp at h9; omega
      rw [hz] at hk'
      have e : c.at (m.time + 1) = .mv s d := by simpa using hk'
      have hke : k = m.pend.length := by omega
      subst hke
      rw [List.take_left, h.fold]
      cases c with
      | put p f => cases e
      | mv s' d' => exact hmv s d e
      | del p => cases e
theorem ok_puts {m : Fs} {path : B8} {mode : Int} {data : B8} {fits : Bool} (h : OkM m) (hp : pathB path = true) (hd : data.length ≤ 20000) : OkM (putsM m path mode data fits).1 := by
  unfold putsM
  split
  · exact h
  · split
    · exact h
    · exact ok_does h ⟨hp, hd⟩ (fun s d e => by cases e)
theorem ok_removes {m : Fs} {path : B8} (h : OkM m) : OkM (removesM m path).1 := by
  unfold removesM
  split
  · exact h
  · split
    · exact h
    · rename_i h1 _
      exact ok_does h (show pathB path = true by simpa using h1) (fun s d e => by cases e)
theorem ok_settle {m : Fs} (h : OkM m) : OkM (settle m) :=
  ⟨h.lnow, h.lnow, Nat.zero_le _, h.lnow, h.lusers, h.dnow, h.dnow, fun c hc => (by cases hc), rfl, fun k s d hk => by simp [settle] at hk⟩
theorem OkM.same {m m' : Fs} (h : OkM m) (h1 : m'.now = m.now) (h2 : m'.sure = m.sure) (h3 : m'.pend = m.pend) (h4 : m'.users.length ≤ m'.time) (h5 : m.time ≤ m'.time) : OkM m' := by
  refine ⟨by rw [h1]; exact Nat.le_trans h.lnow h5, by rw [h2]; exact Nat.le_trans h.lsure h5, by rw [h3]; exact Nat.le_trans h.lpend h5, by rw [h2, h3]; exact Nat.le_trans h.lsp h5, h4, by rw [h1]; exact h.dnow, by rw [h2]; exact h.dsure, by rw [h3]; exact h.dpend, by rw [h1, h2, h3]; exact h.fold, by rw [h2, h3]; exact h.mvs⟩
theorem wrong_zero {path : B8} {mode : Int} {data : B8} (h : wrongE path mode data = 0) : pathB path = true ∧ 1 ≤ mode ∧ mode ≤ 3 ∧ data.length ≤ 20000 := by
  unfold wrongE at h
  split at h
  · cases h
  · split at h
    · cases h
    · split at h
      · cases h
      · rename_i h1 h2 h3
        refine ⟨by simpa using h1, by omega, by omega, by omega⟩
theorem puts_zero {m : Fs} {path : B8} {mode : Int} {data : B8} {fits : Bool} (h : (putsM m path mode data fits).2 = 0) : putsM m path mode data fits = (does m (.put path ⟨mode, data, 0⟩), 0) := by
  unfold putsM at h ⊢
  by_cases h1 : (look m.now path).isNone = true ∧ mayF m.now path [] = false
  · rw [if_pos h1] at h; cases h
  · rw [if_neg h1] at h ⊢
    by_cases h2 : fits = false
    · rw [if_pos h2] at h; cases h
    · rw [if_neg h2]
theorem removes_zero {m : Fs} {path : B8} (h : (removesM m path).2 = 0) : removesM m path = (does m (.del path), 0) := by
  unfold removesM at h ⊢
  by_cases h1 : pathB path = false
  · rw [if_pos h1] at h; cases h
  · rw [if_neg h1] at h ⊢
    by_cases h2 : (look m.now path).isNone = true
    · rw [if_pos h2] at h; cases h
    · rw [if_neg h2]
theorem puts_time {m : Fs} {path : B8} {mode : Int} {data : B8} {fits : Bool} : m.time ≤ (putsM m path mode data fits).1.time ∧ (putsM m path mode data fits).1.time ≤ m.time + 1 := by
  unfold putsM
  split
  · exact ⟨Nat.le_refl _, Nat.le_succ _⟩
  · split
    · exact ⟨Nat.le_refl _, Nat.le_succ _⟩
    · exact ⟨Nat.le_succ _, Nat.le_refl _⟩
theorem removes_time {m : Fs} {path : B8} : m.time ≤ (removesM m path).1.time ∧ (removesM m path).1.time ≤ m.time + 1 := by
  unfold removesM
  split
  · exact ⟨Nat.le_refl _, Nat.le_succ _⟩
  · split
    · exact ⟨Nat.le_refl _, Nat.le_succ _⟩
    · exact ⟨Nat.le_succ _, Nat.le_refl _⟩
theorem ok_userWrite {m : Fs} {path : B8} {mode : Int} {data : B8} (h : OkM m) : OkM (userWrite m path mode data).1 := by
  unfold userWrite
  split
  · exact h
  · split
    · exact h
    · rename_i hw
      have hw0 := wrong_zero (by simpa using hw)
      split
      · exact ok_puts h hw0.1 hw0.2.2.2
      · rename_i hp
        have hp0 := puts_zero (by simpa using hp)
        have ho := ok_settle (ok_puts (mode := mode) (fits := true) h hw0.1 hw0.2.2.2)
        refine ho.same rfl rfl rfl ?_ (Nat.le_refl _)
        have := h.lusers
        rw [hp0]
        simp only [settle, does, List.length_append, List.length_cons, List.length_nil]
        omega
theorem ok_userRemove {m : Fs} {path : B8} (h : OkM m) : OkM (userRemove m path).1 := by
  unfold userRemove
  split
  · exact h
  · split
    · exact ok_removes h
    · rename_i hp
      have hp0 := removes_zero (by simpa using hp)
      have ho := ok_settle (ok_removes (path := path) h)
      refine ho.same rfl rfl rfl ?_ (Nat.le_refl _)
      have := h.lusers
      rw [hp0]
      simp only [settle, does, List.length_append, List.length_cons, List.length_nil]
      omega
theorem userWrite_time {m : Fs} {path : B8} {mode : Int} {data : B8} : m.time ≤ (userWrite m path mode data).1.time ∧ (userWrite m path mode data).1.time ≤ m.time + 1 := by
  unfold userWrite
  split
  · exact ⟨Nat.le_refl _, Nat.le_succ _⟩
  · split
    · exact ⟨Nat.le_refl _, Nat.le_succ _⟩
    · split
      · exact puts_time
      · exact puts_time (m := m) (path := path) (mode := mode) (data := data) (fits := true)
theorem userRemove_time {m : Fs} {path : B8} : m.time ≤ (userRemove m path).1.time ∧ (userRemove m path).1.time ≤ m.time + 1 := by
  unfold userRemove
  split
  · exact ⟨Nat.le_refl _, Nat.le_succ _⟩
  · split
    · exact removes_time
    · exact removes_time (m := m) (path := path)
theorem torn_length (l : Files) (t : Int) (c : Option Ch) : (torn1 l t c).length ≤ l.length + 1 ∧ (c = none → torn1 l t c = l) := by
  unfold torn1
  refine ⟨?_, fun h => by subst h; rfl⟩
  split
  · split
    · exact ap_length _ _
    · omega
  · omega
theorem fallen_length {m : Fs} (keep torn : Int) (h : OkM m) : (fallen m keep torn).length ≤ m.time := by
  unfold fallen
  have h1 := torn_length ((m.pend.take (keepN m keep)).foldl ap m.sure) torn m.pend[keepN m keep]?
  have h2 := fold_length m.sure (m.pend.take (keepN m keep))
  have h3 := h.lsp
  have h4 : (m.pend.take (keepN m keep)).length ≤ keepN m keep := List.length_take_le _ _
  by_cases hk : keepN m keep < m.pend.length
  · omega
  · have h5 := h1.2 (List.getElem?_eq_none (by omega))
    rw [h5]
    have : keepN m keep ≤ m.pend.length := by unfold keepN; omega
    omega
theorem fallen_files {m : Fs} (keep torn : Int) (h : OkM m) : ∀ e ∈ fallen m keep torn, pathB e.1 = true ∧ e.2.data.length ≤ 20000 := by
  have hf := files_fold (cs := m.pend.take (keepN m keep)) h.dsure (fun c hc => h.dpend c (List.mem_of_mem_take hc))
  unfold fallen torn1
  split
  · rename_i p f hk
    split
    · refine files_ap hf ?_
      have := h.dpend _ (List.mem_of_getElem? hk)
      refine ⟨this.1, ?_⟩
      simp only [List.length_take]
      have := this.2
      omega
    · exact hf
  · exact hf
theorem ok_crash {m : Fs} (keep torn : Int) (h : OkM m) : OkM (crash m keep torn) := by
  unfold crash
  split
  · exact h
  · have hl := fallen_length keep torn h
    have hf := fallen_files keep torn h
    exact ⟨hl, hl, Nat.zero_le _, hl, h.lusers, hf, hf, fun c hc => (by cases hc), rfl, fun k s d hk => by simp at hk⟩
theorem crash_time (m : Fs) (keep torn : Int) : (crash m keep torn).time = m.time := by
  unfold crash
  split <;> rfl

/-- An event that happens: to the files. -/
def hapM (m : Fs) (e : Ev) : Fs :=
  if e.kind = 1 then crash m e.keep e.torn else if e.kind = 4 then (userWrite m e.path e.mode e.data).1 else if e.kind = 5 then (userRemove m e.path).1 else m
def hapE (e : Ev) : Int := if e.kind = 2 then 10 else if e.kind = 3 then 11 else 0
theorem ok_hap {m : Fs} (h : OkM m) (e : Ev) : OkM (hapM m e) := by
  unfold hapM
  split
  · exact ok_crash _ _ h
  · split
    · exact ok_userWrite h
    · split
      · exact ok_userRemove h
      · exact h
theorem hap_time (m : Fs) (e : Ev) : m.time ≤ (hapM m e).time ∧ (hapM m e).time ≤ m.time + 1 := by
  unfold hapM
  split
  · rw [crash_time]; exact ⟨Nat.le_refl _, Nat.le_succ _⟩
  · split
    · exact userWrite_time
    · split
      · exact userRemove_time
      · exact ⟨Nat.le_refl _, Nat.le_succ _⟩
theorem happen_eq (n : Nat) (x : Fs × Bool × Bool) (e : Ev) : happen n x e = if e.t ≠ n then x else (hapM x.1 e, x.2.1 || hapE e == 10, x.2.2 || hapE e == 11) := by
  obtain ⟨m, f, b⟩ := x
  unfold happen hapM hapE
  simp only
  by_cases h0 : e.t ≠ n
  · rw [if_pos h0, if_pos h0]
  · rw [if_neg h0, if_neg h0]
    by_cases h1 : e.kind = 1
    · simp [h1]
    · by_cases h2 : e.kind = 2
      · simp [h2]
      · by_cases h3 : e.kind = 3
        · simp [h3]
        · by_cases h4 : e.kind = 4
          · simp [h4]
          · by_cases h5 : e.kind = 5
            · simp [h5]
            · simp [h1, h2, h3, h4, h5]

end Go.Proofs.YtalpfoomkhhgnaaGreatDoor

/-! fsim.FS: happens: an event. Conditions: at most 9000000 ticks; a short path. -/
namespace Go.Proofs.YtalpfoomkhhgnaaGreatDoor
open Go Go.RowKit

end Go.Proofs.YtalpfoomkhhgnaaGreatDoor

/-! fsim.FS: call: a call is counted, and its events happen. Conditions: at most 8000000 ticks, 1000 events; no block of the plan is written. -/
namespace Go.Proofs.YtalpfoomkhhgnaaGreatDoor
open Go Go.RowKit

structure PlanOk (m : Fs) : Prop where
  len : m.plan.length ≤ 1000
  ev : ∀ e ∈ m.plan, I64 e.keep ∧ I64 e.torn ∧ e.path.length ≤ 400
theorem hap_plan (m : Fs) (e : Ev) : (hapM m e).plan = m.plan ∧ (hapM m e).calls = m.calls ∧ (hapM m e).room = m.room := by
  unfold hapM
  split
  · unfold crash; split <;> exact ⟨rfl, rfl, rfl⟩
  · split
    · unfold userWrite
      split
      · exact ⟨rfl, rfl, rfl⟩
      · split
        · exact ⟨rfl, rfl, rfl⟩
        · split
          · unfold putsM; split
            · exact ⟨rfl, rfl, rfl⟩
            · split <;> exact ⟨rfl, rfl, rfl⟩
          · simp only [settle]; unfold putsM; split
            · exact ⟨rfl, rfl, rfl⟩
            · split <;> exact ⟨rfl, rfl, rfl⟩
    · split
      · unfold userRemove
        split
        · exact ⟨rfl, rfl, rfl⟩
        · split
          · unfold removesM; split
            · exact ⟨rfl, rfl, rfl⟩
            · split <;> exact ⟨rfl, rfl, rfl⟩
          · simp only [settle]; unfold removesM; split
            · exact ⟨rfl, rfl, rfl⟩
            · split <;> exact ⟨rfl, rfl, rfl⟩
      · exact ⟨rfl, rfl, rfl⟩
/-- What holds of a state in the midst of a call. -/
structure Mid (m : Fs) (n : Nat) (x : Fs × Bool × Bool) : Prop where
  ok : OkM x.1
  time : x.1.time ≤ m.time + n
  time0 : m.time ≤ x.1.time
  plan : x.1.plan = m.plan
  calls : x.1.calls = m.calls + 1
  room : x.1.room = m.room
theorem Mid.next {m : Fs} {n k : Nat} {x : Fs × Bool × Bool} (h : Mid m n x) (e : Ev) : Mid m (n + if e.t = (k : Int) then 1 else 0) (happen k x e) := by
  rw [happen_eq]
  by_cases ht : e.t ≠ (k : Int)
  · rw [if_pos ht, if_neg ht]
    exact h
  · rw [if_neg ht, if_pos (by simpa using ht)]
    have h1 := hap_time x.1 e
    have h2 := hap_plan x.1 e
    have := h.time
    have := h.time0
    exact ⟨ok_hap h.ok e, by simp only; omega, by simp only; omega, h2.1.trans h.plan, h2.2.1.trans h.calls, h2.2.2.trans h.room⟩
theorem Mid.fold {m : Fs} (k : Nat) : ∀ (l : List Ev) {n : Nat} {x : Fs × Bool × Bool}, Mid m n x → Mid m (n + l.length) (l.foldl (happen k) x)
  | [], n, x, h => h
  | e :: l, n, x, h => by
    have h1 := Mid.fold k l (h.next (k := k) e)
    refine ⟨h1.ok, ?_, h1.time0, h1.plan, h1.calls, h1.room⟩
    have := h1.time
    simp only [List.length_cons, List.foldl_cons]
    split at this <;> omega
def calledM (m : Fs) : Fs := { m with calls := m.calls + 1 }
theorem Mid.start {m : Fs} (h : OkM m) : Mid m 0 (calledM m, false, false) := ⟨h.same rfl rfl rfl h.lusers (Nat.le_refl _), Nat.le_refl _, Nat.le_refl _, rfl, rfl, rfl⟩
end Go.Proofs.YtalpfoomkhhgnaaGreatDoor

/-! fsim.FS: call: the walk. Conditions: at most 8000000 ticks, 1000 events; no block of the plan is written. -/
namespace Go.Proofs.YtalpfoomkhhgnaaGreatDoor
open Go Go.RowKit

/-- No block of the plan is written by a call. -/
def Apart (S O : Nat → Prop) (w : World) : Prop := ∀ k, S k → ¬ O k ∧ k < w.heap.size
theorem Apart.next {S O : Nat → Prop} {w w' : World} (h : Apart S O w) (hs : w.heap.size ≤ w'.heap.size) : Apart S (Nw O w w') w' := fun k hk => ⟨fun hn => by
  rcases hn with hn | hn
  · exact (h k hk).1 hn
  · have := (h k hk).2; omega, by have := (h k hk).2; omega⟩
def NoG (O : Nat → Prop) : Prop := ∀ k, O k → k ≠ 2

end Go.Proofs.YtalpfoomkhhgnaaGreatDoor

/-! fsim.FS: fits, Create, Write. Conditions: what holds of a file system at all times; short paths. -/
namespace Go.Proofs.YtalpfoomkhhgnaaGreatDoor
open Go Go.RowKit

end Go.Proofs.YtalpfoomkhhgnaaGreatDoor

/-! What each call on a file system does, in plain Lean; what holds behind it. Conditions: as each theorem states. -/
namespace Go.Proofs.YtalpfoomkhhgnaaGreatDoor
open Go Go.RowKit

def putM (r : Fs × Bool × Int) (path : B8) (mode : Int) (data : B8) (only : Bool) : Fs × Int :=
  if r.2.2 ≠ 0 then (r.1, r.2.2) else if wrongE path mode data ≠ 0 then (r.1, wrongE path mode data)
  else if only = true ∧ (look r.1.now path).isSome then (r.1, 8) else putsM r.1 path mode data (!r.2.1 && fitsM r.1 path data.length)
def createM (m : Fs) (path : B8) (mode : Int) (data : B8) : Fs × Int := putM (callM m) path mode data true
def writeM (m : Fs) (path : B8) (mode : Int) (data : B8) : Fs × Int := putM (callM m) path mode data false
def mvM (r : Fs × Bool × Int) (src dst : B8) (fresh : Bool) : Fs × Int :=
  if r.2.2 ≠ 0 then (r.1, r.2.2) else if pathB src = false ∨ pathB dst = false then (r.1, 6)
  else if (look r.1.now src).isNone then (r.1, 7) else if (look r.1.now dst).isSome ∧ fresh = true then (r.1, 8)
  else if src = dst then (r.1, 0) else if (look r.1.now dst).isNone ∧ mayF r.1.now dst src = false then (r.1, 9) else (does r.1 (.mv src dst), 0)
def moveM (m : Fs) (src dst : B8) (fresh : Bool) : Fs × Int := mvM (callM m) src dst fresh
def removeM (m : Fs) (path : B8) : Fs × Int := if (callM m).2.2 ≠ 0 then ((callM m).1, (callM m).2.2) else removesM (callM m).1 path
def syncM (m : Fs) : Fs × Int := if (callM m).2.2 = 0 then (settle (callM m).1, 0) else ((callM m).1, (callM m).2.2)
def zeroFi : Fi := ⟨0, [], 0⟩
def readM (m : Fs) (path : B8) : Fs × Fi × Int :=
  if (callM m).2.2 ≠ 0 then ((callM m).1, zeroFi, (callM m).2.2) else if pathB path = false then ((callM m).1, zeroFi, 6)
  else match look (callM m).1.now path with
    | some f => ((callM m).1, f, 0)
    | none => ((callM m).1, zeroFi, 7)
def pathsL (l : Files) : List B8 := l.map (·.1)
def listM (m : Fs) (dir : B8) : Fs × List B8 × Int :=
  if (callM m).2.2 ≠ 0 then ((callM m).1, [], (callM m).2.2) else if dir = [] then ((callM m).1, pathsL (callM m).1.now, 0)
  else if pathB dir = false then ((callM m).1, [], 6) else ((callM m).1, (pathsL (callM m).1.now).filter (isUnder dir), 0)
def peekM (m : Fs) (path : B8) : Fi × Bool := match look m.now path with
  | some f => (f, true)
  | none => (zeroFi, false)

/-- What a call leaves, in numbers. -/
structure Left (m m' : Fs) (n : Nat) : Prop where
  ok : OkM m'
  time : m'.time ≤ m.time + n
  time0 : m.time ≤ m'.time
  plan : m'.plan = m.plan
  room : m'.room = m.room
theorem Left.trans {a b c : Fs} {n k : Nat} (h : Left a b n) (k2 : Left b c k) : Left a c (n + k) :=
  ⟨k2.ok, by have := h.time; have := k2.time; omega, Nat.le_trans h.time0 k2.time0, k2.plan.trans h.plan, k2.room.trans h.room⟩
theorem Left.refl {m : Fs} (h : OkM m) : Left m m 0 := ⟨h, Nat.le_refl _, Nat.le_refl _, rfl, rfl⟩
theorem Left.mono {m m' : Fs} {n k : Nat} (h : Left m m' n) (hk : n ≤ k) : Left m m' k := ⟨h.ok, Nat.le_trans h.time (by omega), h.time0, h.plan, h.room⟩
end Go.Proofs.YtalpfoomkhhgnaaGreatDoor

/-! marlaw5: an operation of both file systems, in plain Lean. Conditions: as each theorem states. -/
namespace Go.Proofs.YtalpfoomkhhgnaaGreatDoor
open Go Go.RowKit

structure Opn where
  (kind mode keep torn : Int)
  (path dest data : B8)
  (plan : List Ev)
structure OpOk (o : Opn) : Prop where
  path : o.path.length ≤ 400
  dest : o.dest.length ≤ 400
  few : o.plan.length ≤ 60
  ev : ∀ e ∈ o.plan, I64 e.keep ∧ I64 e.torn ∧ e.path.length ≤ 400
  keep : I64 o.keep
  torn : I64 o.torn
def stepM (m : Fs) (o : Opn) : Fs :=
  if o.kind = 0 then (createM m o.path o.mode o.data).1
  else if o.kind = 1 then (writeM m o.path o.mode o.data).1
  else if o.kind = 2 then (moveM m o.path o.dest false).1
  else if o.kind = 3 then (moveM m o.path o.dest true).1
  else if o.kind = 4 then (removeM m o.path).1
  else if o.kind = 5 then (syncM m).1
  else if o.kind = 6 then (readM m o.path).1
  else if o.kind = 7 then (listM m o.path).1
  else if o.kind = 8 then (userWrite m o.path o.mode o.data).1
  else if o.kind = 9 then (userRemove m o.path).1
  else if o.kind = 10 then crash m o.keep o.torn
  else if o.kind = 11 then rebootM m
  else if o.kind = 12 then planM m o.plan
  else m

/-! ### What an operation leaves, in numbers -/
/-- What holds of a file system behind n operations. -/
structure Good (n : Nat) (m : Fs) : Prop where
  ok : OkM m
  plan : PlanOk m
  few : m.plan.length ≤ 60
  time : m.time ≤ 80 * n
  calls : m.calls ≤ 100 * n
  room0 : 0 ≤ m.room
  room1 : m.room ≤ 1073741824
theorem Good.left {n : Nat} {m m' : Fs} (h : Good n m) (hl : Left m m' 61) (hc : m'.calls ≤ m.calls + 1) : Good (n + 1) m' :=
  ⟨hl.ok, ⟨by rw [hl.plan]; exact h.plan.len, by rw [hl.plan]; exact h.plan.ev⟩, by rw [hl.plan]; exact h.few, by have := hl.time; have := h.time; omega, by have := h.calls; omega, by rw [hl.room]; exact h.room0, by rw [hl.room]; exact h.room1⟩

theorem Good.mono {n k : Nat} {m : Fs} (h : Good n m) (hk : n ≤ k) : Good k m := ⟨h.ok, h.plan, h.few, by have := h.time; omega, by have := h.calls; omega, h.room0, h.room1⟩
end Go.Proofs.YtalpfoomkhhgnaaGreatDoor

/-! fsim.FS: Create, Write. Conditions: what holds of a file system at all times; short paths. -/
namespace Go.Proofs.YtalpfoomkhhgnaaGreatDoor
open Go Go.RowKit

end Go.Proofs.YtalpfoomkhhgnaaGreatDoor

/-! fsim.FS: Remove, Sync, Move, MoveNew. Conditions: what holds of a file system at all times; short paths. -/
namespace Go.Proofs.YtalpfoomkhhgnaaGreatDoor
open Go Go.RowKit

end Go.Proofs.YtalpfoomkhhgnaaGreatDoor

/-! fsim.FS: move, Move, MoveNew. Conditions: what holds of a file system at all times; short paths. -/
namespace Go.Proofs.YtalpfoomkhhgnaaGreatDoor
open Go Go.RowKit

end Go.Proofs.YtalpfoomkhhgnaaGreatDoor

/-! fsim.FS: Peek, Paths. Conditions: a short path; at most 10000000 files. -/
namespace Go.Proofs.YtalpfoomkhhgnaaGreatDoor
open Go Go.RowKit

theorem Nu.mono {w0 w1 w w' : World} (h0 : w0.heap.size ≤ w.heap.size) (h1 : w'.heap.size ≤ w1.heap.size) {k : Nat} (h : Nu w w' k) : Nu w0 w1 k := ⟨Nat.le_trans h0 h.1, Nat.lt_of_lt_of_le h.2 h1⟩

/-! ### Paths -/
end Go.Proofs.YtalpfoomkhhgnaaGreatDoor

/-! fsim.FS: List, Read. Conditions: what holds of a file system at all times; short paths. -/
namespace Go.Proofs.YtalpfoomkhhgnaaGreatDoor
open Go Go.RowKit Go.Sort Go.Shelf

end Go.Proofs.YtalpfoomkhhgnaaGreatDoor

/-! fsim.FS: List, Read. Conditions: what holds of a file system at all times; short paths. -/
namespace Go.Proofs.YtalpfoomkhhgnaaGreatDoor
open Go Go.RowKit

theorem strs_owned {w : World} {base : Nat} {v : Value} {L : List B8} {n : Nat} (h : w.ownsRow base 9 1 v n (L.map S8)) (hn : n = L.length) (hl : n ≤ 10000000) : IsStrs w v L := by
  subst hn
  exact Row.of_owns h (by omega)

end Go.Proofs.YtalpfoomkhhgnaaGreatDoor

/-! slices.Clone at events and changes; fsim.copiedEvents; Plan, User. Conditions: at most 10000000 elements. -/
namespace Go.Proofs.YtalpfoomkhhgnaaGreatDoor
open Go Go.RowKit

end Go.Proofs.YtalpfoomkhhgnaaGreatDoor

/-! fsim.copiedEvents, Plan, User: events copied, with their data. Conditions: at most 100000 events. -/
namespace Go.Proofs.YtalpfoomkhhgnaaGreatDoor
open Go Go.RowKit

/-- An event that is read alone. -/
def IsEvB (w : World) (cs : List Value) (e : Ev) : Prop := ∃ vd, cs = [.int .i64 e.t, .int .i64 e.kind, .int .i64 e.mode, .int .i64 e.keep, .int .i64 e.torn, S8 e.path, vd] ∧ IsBytes w vd e.data ∧ e.path.length ≤ 10000000
theorem IsEvR.read {R : Nat → Prop} {w : World} {cs : List Value} {e : Ev} (h : IsEvR R w cs e) : IsEvB w cs e := by
  obtain ⟨v, h1, h2, h3⟩ := h
  exact ⟨v, h1, h2.bytes, h3⟩
theorem IsEvB.length {w : World} {cs : List Value} {e : Ev} (h : IsEvB w cs e) : cs.length = 7 ∧ cs.all (·.oneCell') = true := by
  obtain ⟨v, rfl, h2, _⟩ := h
  obtain ⟨_, _, rfl, _⟩ := h2
  exact ⟨rfl, by simp [Value.oneCell']⟩
theorem IsEvB.ext {w w' : World} {cs : List Value} {e : Ev} (h : IsEvB w cs e) (hx : Ext w w') : IsEvB w' cs e := by
  obtain ⟨v, h1, h2, h3⟩ := h
  exact ⟨v, h1, h2.ext hx, h3⟩
def ReadB (w : World) (v : Value) (L : List Ev) : Prop := ∃ css : List (List Value), Row w v L.length css.flatten ∧ Each (IsEvB w) css L
theorem ReadB.ext {w w' : World} {v : Value} {L : List Ev} (h : ReadB w v L) (hx : Ext w w') : ReadB w' v L := by
  obtain ⟨css, h1, h2⟩ := h
  exact ⟨css, h1.ext hx, h2.imp (fun c x hc => hc.ext hx)⟩
end Go.Proofs.YtalpfoomkhhgnaaGreatDoor

/-! fsim.New: a file system without files. No conditions. -/
namespace Go.Proofs.YtalpfoomkhhgnaaGreatDoor
open Go Go.RowKit

def newM (room : Int) : Fs := ⟨room, [], [], [], [], 0, [], 0, false⟩
end Go.Proofs.YtalpfoomkhhgnaaGreatDoor
