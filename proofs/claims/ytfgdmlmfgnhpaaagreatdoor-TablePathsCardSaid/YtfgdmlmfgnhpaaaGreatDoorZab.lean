/- Patterns of paths, in plain Lean: the program's way and the document's say the same. No conditions. -/
import Derived.Test.YtfgdmlmfgnhpaaaGreatDoorZaa
import Derived.Great.BuildSlice
import Derived.Maps.RangeWalk
import Derived.Maps.OwnSet
import Derived.Maps.Ext

set_option linter.unusedVariables false
set_option linter.unusedSimpArgs false

/-! Rows stored, loaded, handed back; a store of one cell. Conditions: as each theorem states. -/
namespace Go.Proofs.YtfgdmlmfgnhpaaaGreatDoor
open Go Go.RowKit

theorem setRow_grown (w : World) (g : Nat) (cs : Array Value) : w.grownBy (w.setRow g cs) (some g) := by
  refine ⟨rfl, rfl, rfl, by simp [World.setRow], fun k hk hn => ?_⟩
  have hne : g ≠ k := fun e => hn (by rw [e])
  simp [World.setRow, Array.getElem?_modify, hne]

theorem setCell_grown (w : World) (g i : Nat) (v : Value) : w.grownBy (w.setCell ⟨g, i, none⟩ v) (some g) := by
  refine ⟨rfl, rfl, rfl, by simp [World.setCell], fun k hk hn => ?_⟩
  exact Below.heap_setCell _ _ _ _ (by rintro rfl; exact hn rfl)

theorem Ext.but {w w1 w2 : World} {g : Nat} (h : Ext w w1) (hg : w1.grownBy w2 (some g)) (hb : w.heap.size ≤ g) : Ext w w2 :=
  Below.grown h hg h.size (fun k hk => by simp at hk; omega)

theorem Ext.setRow {w w1 : World} (h : Ext w w1) (g : Nat) (cs : Array Value) (hb : w.heap.size ≤ g) : Ext w (w1.setRow g cs) := h.but (setRow_grown _ _ _) hb

theorem Ext.row {w w' : World} (h : Ext w w') {g : Nat} {o : Obj} (hg : w.heap[g]? = some o) : w'.heap[g]? = some o :=
  (h.block g (Array.getElem?_eq_some_iff.1 hg).1).trans hg

section
variable {ops : Array Oper} {rest : List Oper} {o : Oper} {a : Act} {Q : Exit → Act → World → Prop} {w : World}
/-- A store of one cell into a block known whole. -/
theorem store_field (hgd : o.guard = none) (ty : TypeId) (x y : Operand) (ho : o.op = .store ty x y) (g j : Nat) (hx : a.eval x = .pointer (some ⟨g, j, none⟩)) (v : Value) (hy : a.eval y = v) (h1 : v.oneCell' = true)
    (t : TypeId) (cur : Array Value) (hg : w.heap[g]? = some (.cells cur t (0, 0))) (hj : j + 1 ≤ cur.size) (hi : (Tryz.prog.info? ty).map (·.size) = some 1) (new : Array Value) (hnew : new = (cur.toList.take j ++ [v] ++ cur.toList.drop (j + 1)).toArray)
    (h : ∀ w', w'.heap[g]? = some (.cells new t (0, 0)) → w.grownBy w' (some g) → wpList Tryz.prog ops Q rest (a.put o.dst undef) w') : wpList Tryz.prog ops Q (o :: rest) a w :=
  wpList_plain hgd fun _ hK => by
    have hs := run_storeCells_at (P := Tryz.prog) g j t [v] 0 cur w hg (by simpa using hj) (fun u hu => by simp at hu; subst hu; exact h1)
    have hc : v.cells = #[v] := by cases v <;> first | rfl | cases h1
    have hr : (storeVar ty ⟨g, j, none⟩ v).run Tryz.prog w = .ok () (w.setRow g new) := by
      cases hq : Tryz.prog.info? ty with
      | none => simp [hq] at hi
      | some i =>
        have hs1 : i.size = 1 := by simpa [hq] using hi
        simp only [Nat.add_zero, List.length_cons, List.length_nil, Nat.zero_add] at hs
        rw [hnew]
        simp [storeVar, sizeOf, typeInfo, hq, hc, hs1, hs]
    unfold Oper.wp execOp
    simp only [ho, hx, hy, Instr.storeAt, Instr.sureAddr, Sem.run_bind, Sem.run_pure, Result.andThen_ok, hr]
    exact hK _ _ (h _ (setRow_heap _ _ _ _ _ _ hg) (setRow_grown _ _ _))
end

end Go.Proofs.YtfgdmlmfgnhpaaaGreatDoor

/-! A file system that falls, in plain Lean: files by rising paths, changes, events, what each call does. No program in sight. No conditions. -/
namespace Go.Proofs.YtfgdmlmfgnhpaaaGreatDoor
open Go Go.RowKit

def I64 (n : Int) : Prop := -9223372036854775808 ≤ n ∧ n ≤ 9223372036854775807

structure Ev where
  (t kind mode keep torn : Int)
  (path data : B8)
structure Fi where
  (mode : Int)
  (data : B8)
  (time : Int)
inductive Ch where
  | put (p : B8) (f : Fi)
  | mv (s d : B8)
  | del (p : B8)
abbrev Files := List (B8 × Fi)

def ltB (a b : B8) : Bool := decide (a < b)
def look (l : Files) (p : B8) : Option Fi := (l.find? fun e => e.1 == p).map (·.2)
def delF (l : Files) (p : B8) : Files := l.filter fun e => !(e.1 == p)
def insF (x : B8 × Fi) : Files → Files
  | [] => [x]
  | y :: r => if ltB x.1 y.1 then x :: y :: r else y :: insF x r
def putF (l : Files) (p : B8) (f : Fi) : Files := insF (p, f) (delF l p)
def ap (l : Files) : Ch → Files
  | .put p f => putF l p f
  | .mv s d => match look l s with
    | some x => putF (delF l s) d x
    | none => l
  | .del p => delF l p

/-- Does a path lie under another one, by its signs? -/
def isUnder (d s : B8) : Bool := (d ++ [47]).isPrefixOf s
def mayF (l : Files) (path but : B8) : Bool := !(l.any fun e => !(e.1 == but) && (isUnder e.1 path || isUnder path e.1))
def usedF (l : Files) : Nat := (l.map fun e => e.2.data.length).sum

structure Fs where
  (room : Int)
  (now sure : Files)
  (pend : List Ch)
  (plan : List Ev)
  (calls : Nat)
  (users : List Ev)
  (time : Nat)
  (down : Bool)

def Ch.at (c : Ch) (t : Nat) : Ch := match c with
  | .put p f => .put p { f with time := t }
  | c => c
def does (m : Fs) (c : Ch) : Fs := { m with time := m.time + 1, now := ap m.now (c.at (m.time + 1)), pend := m.pend ++ [c.at (m.time + 1)] }
def wrongE (path : B8) (mode : Int) (data : B8) : Int :=
  if pathB path = false then 6 else if mode < 1 ∨ 3 < mode then 1 else if 20000 < data.length then 3 else 0
def putsM (m : Fs) (path : B8) (mode : Int) (data : B8) (fits : Bool) : Fs × Int :=
  if (look m.now path).isNone ∧ mayF m.now path [] = false then (m, 9) else if fits = false then (m, 10) else (does m (.put path ⟨mode, data, 0⟩), 0)
def oldLen (l : Files) (path : B8) : Nat := match look l path with
  | some f => f.data.length
  | none => 0
def fitsM (m : Fs) (path : B8) (n : Nat) : Bool := decide ((n : Int) ≤ m.room - usedF m.now + oldLen m.now path)
def removesM (m : Fs) (path : B8) : Fs × Int :=
  if pathB path = false then (m, 6) else if (look m.now path).isNone then (m, 7) else (does m (.del path), 0)
def rebootM (m : Fs) : Fs := { m with down := false }
def planM (m : Fs) (l : List Ev) : Fs := { m with plan := l.filter fun e => decide ((m.calls : Int) < e.t) }
def settle (m : Fs) : Fs := { m with sure := m.now, pend := [] }
def userWrite (m : Fs) (path : B8) (mode : Int) (data : B8) : Fs × Int :=
  if m.down then (m, 12) else if wrongE path mode data ≠ 0 then (m, wrongE path mode data)
  else if (putsM m path mode data true).2 ≠ 0 then putsM m path mode data true
  else ({ settle (putsM m path mode data true).1 with users := m.users ++ [⟨m.calls, 4, mode, 0, 0, path, data⟩] }, 0)
def userRemove (m : Fs) (path : B8) : Fs × Int :=
  if m.down then (m, 12) else if (removesM m path).2 ≠ 0 then removesM m path
  else ({ settle (removesM m path).1 with users := m.users ++ [⟨m.calls, 5, 0, 0, 0, path, []⟩] }, 0)

def torn1 (l : Files) (torn : Int) : Option Ch → Files
  | some (.put p f) => if 0 ≤ torn ∧ torn < f.data.length then ap l (.put p { f with data := f.data.take torn.toNat }) else l
  | _ => l
def keepN (m : Fs) (keep : Int) : Nat := min keep.toNat m.pend.length
def fallen (m : Fs) (keep torn : Int) : Files := torn1 ((m.pend.take (keepN m keep)).foldl ap m.sure) torn m.pend[keepN m keep]?
def crash (m : Fs) (keep torn : Int) : Fs :=
  if m.down then m else { m with now := fallen m keep torn, sure := fallen m keep torn, pend := [], down := true }

/-- An event happens: what became of the files; is there no room? is all broken? -/
def happen (n : Nat) (x : Fs × Bool × Bool) (e : Ev) : Fs × Bool × Bool :=
  if e.t ≠ n then x
  else if e.kind = 1 then (crash x.1 e.keep e.torn, x.2)
  else if e.kind = 2 then (x.1, true, x.2.2)
  else if e.kind = 3 then (x.1, x.2.1, true)
  else if e.kind = 4 then ((userWrite x.1 e.path e.mode e.data).1, x.2)
  else if e.kind = 5 then ((userRemove x.1 e.path).1, x.2)
  else x
def callM (m : Fs) : Fs × Bool × Int :=
  let r := m.plan.foldl (happen (m.calls + 1)) ({ m with calls := m.calls + 1 }, false, false)
  (r.1, r.2.1, if r.1.down then 12 else if r.2.2 then 11 else 0)

/-! ### Orders and finds -/
theorem mem_insF {x e : B8 × Fi} : ∀ {l : Files}, e ∈ insF x l ↔ e = x ∨ e ∈ l
  | [] => by simp [insF]
  | y :: r => by
    unfold insF
    split
    · simp
    · simp only [List.mem_cons, mem_insF (l := r)]
      constructor
      · rintro (h | h | h) <;> simp [h]
      · rintro (h | h | h) <;> simp [h]

theorem insF_length (x : B8 × Fi) : ∀ l : Files, (insF x l).length = l.length + 1
  | [] => rfl
  | y :: r => by
    unfold insF
    split
    · rfl
    · simp [insF_length x r]

theorem delF_length (l : Files) (p : B8) : (delF l p).length ≤ l.length := List.length_filter_le _ _
theorem putF_length (l : Files) (p : B8) (f : Fi) : (putF l p f).length ≤ l.length + 1 := by
  unfold putF; rw [insF_length]; have := delF_length l p; omega
theorem ap_length (l : Files) (c : Ch) : (ap l c).length ≤ l.length + 1 := by
  cases c with
  | put p f => exact putF_length l p f
  | mv s d =>
    unfold ap
    simp only
    split
    · rename_i x _
      have h1 := putF_length (delF l s) d x
      have h2 := delF_length l s
      omega
    · omega
  | del p => have := delF_length l p; show (delF l p).length ≤ _; omega

end Go.Proofs.YtfgdmlmfgnhpaaaGreatDoor

/-! How the program's file system lies in memory: maps of files, changes, events; what an operation leaves as it was. No conditions of its own. -/
namespace Go.Proofs.YtfgdmlmfgnhpaaaGreatDoor
open Go Go.RowKit

/-! ### What is as it was -/
/-- Blocks outside O, and all bytes, are as they were. -/
structure Fr (O : Nat → Prop) (w w' : World) : Prop where
  os : w'.os = w.os
  tape : w'.tape = w.tape
  output : w'.output = w.output
  size : w.heap.size ≤ w'.heap.size
  block : ∀ k, k < w.heap.size → (¬ O k ∨ IsU8 w k) → w'.heap[k]? = w.heap[k]?
/-- O, and all that is new. -/
def Nw (O : Nat → Prop) (w w' : World) (k : Nat) : Prop := O k ∨ (w.heap.size ≤ k ∧ k < w'.heap.size)

theorem Fr.refl (O : Nat → Prop) (w : World) : Fr O w w := ⟨rfl, rfl, rfl, Nat.le_refl _, fun _ _ _ => rfl⟩
theorem IsU8.fr {O : Nat → Prop} {w w' : World} (h : Fr O w w') {k : Nat} (hk : IsU8 w k) : IsU8 w' k := hk.same (h.block k hk.lt (.inr hk))
theorem Fr.trans {O : Nat → Prop} {a b c : World} (h : Fr O a b) (k : Fr (Nw O a b) b c) : Fr O a c :=
  ⟨k.os.trans h.os, k.tape.trans h.tape, k.output.trans h.output, Nat.le_trans h.size k.size, fun i hi hn => by
    have h1 := h.block i hi hn
    rw [← h1]
    refine k.block i (Nat.lt_of_lt_of_le hi h.size) ?_
    rcases hn with hn | hu
    · exact .inl (fun hw => by rcases hw with hw | hw; exact hn hw; omega)
    · exact .inr (hu.fr h)⟩
theorem Fr.mono {O O' : Nat → Prop} {w w' : World} (h : Fr O w w') (ho : ∀ k, O k → O' k) : Fr O' w w' :=
  ⟨h.os, h.tape, h.output, h.size, fun k hk hn => h.block k hk (hn.imp (fun h1 h2 => h1 (ho k h2)) id)⟩
theorem Fr.of_ext {O : Nat → Prop} {w w' : World} (h : Ext w w') : Fr O w w' := ⟨h.os, h.tape, h.output, h.size, fun k hk _ => h.block k hk⟩
theorem Fr.of_grown {O : Nat → Prop} {w w' : World} {g : Nat} (h : w.grownBy w' (some g)) (hg : O g) (hu : ¬ IsU8 w g) : Fr O w w' :=
  ⟨h.os, h.tape, h.output, h.size, fun k hk hn => h.block k hk (by
    rintro heq
    simp only [Option.some.injEq] at heq
    subst heq
    rcases hn with hn | hn
    · exact hn hg
    · exact hu hn)⟩
theorem Fr.keep {O : Nat → Prop} {w w' : World} (h : Fr O w w') : KeepB w w' := ⟨h.size, fun k hk => h.block k hk.lt (.inr hk)⟩
theorem Fr.row {O : Nat → Prop} {w w' : World} (h : Fr O w w') {k : Nat} {o : Obj} (hk : w.heap[k]? = some o) (ho : ¬ O k) : w'.heap[k]? = some o :=
  (h.block k (Array.getElem?_eq_some_iff.1 hk).1 (.inl ho)).trans hk
theorem Nw.mono {O O' : Nat → Prop} {w w' : World} (h : ∀ k, O k → O' k) {k : Nat} (hk : Nw O w w' k) : Nw O' w w' k := hk.imp (h k) id
theorem Nw.old {O : Nat → Prop} {w w' : World} {k : Nat} (h : O k) : Nw O w w' k := .inl h
theorem Nw.nw {O : Nat → Prop} {a b c : World} (h : a.heap.size ≤ b.heap.size) (h2 : b.heap.size ≤ c.heap.size) {k : Nat} (hk : Nw (Nw O a b) b c k) : Nw O a c k := by
  rcases hk with (hk | hk) | hk
  · exact .inl hk
  · exact .inr ⟨hk.1, by omega⟩
  · exact .inr ⟨by omega, hk.2⟩
theorem Nw.fst {O : Nat → Prop} {a b c : World} (h2 : b.heap.size ≤ c.heap.size) {k : Nat} (hk : Nw O a b k) : Nw O a c k := by
  rcases hk with hk | hk
  · exact .inl hk
  · exact .inr ⟨hk.1, by omega⟩

theorem Ext.of_fr {O : Nat → Prop} {w0 w w' : World} (h0 : Ext w0 w) (h : Fr O w w') (ho : ∀ k, O k → w0.heap.size ≤ k) : Ext w0 w' :=
  ⟨h.os.trans h0.os, h.tape.trans h0.tape, h.output.trans h0.output, Nat.le_trans h0.size h.size, fun k hk => (h.block k (Nat.lt_of_lt_of_le hk h0.size) (.inl (fun hh => by have := ho k hh; omega))).trans (h0.block k hk)⟩

/-! ### Data that is read alone -/
def Inn (R : Nat → Prop) (v : Value) : Prop := ∀ k, v.ownBlock = some k → R k
theorem Inn.mono {R R' : Nat → Prop} {v : Value} (h : Inn R v) (hr : ∀ k, R k → R' k) : Inn R' v := fun k hk => hr k (h k hk)
theorem Inn.nil (R : Nat → Prop) (n c : Nat) : Inn R (.slice none n c) := fun k hk => by simp [Value.ownBlock] at hk

structure IsData (R : Nat → Prop) (w : World) (v : Value) (l : B8) : Prop where
  bytes : IsBytes w v l
  typed : TypB w v
  inn : Inn R v
theorem IsData.mono {R R' : Nat → Prop} {w : World} {v : Value} {l : B8} (h : IsData R w v l) (hr : ∀ k, R k → R' k) : IsData R' w v l := ⟨h.bytes, h.typed, h.inn.mono hr⟩
theorem IsData.keep {R : Nat → Prop} {w w' : World} {v : Value} {l : B8} (h : IsData R w v l) (k : KeepB w w') : IsData R w' v l := ⟨Row.keepB h.bytes h.typed k, h.typed.keep k, h.inn⟩
theorem IsData.nil (R : Nat → Prop) (w : World) : IsData R w (.slice none 0 0) [] := ⟨Row.nil _, TypB.nil _ _ _, Inn.nil _ _ _⟩
/-- What a world leaves as it was where data lies. -/
def KeepR (R : Nat → Prop) (w w' : World) : Prop := w.heap.size ≤ w'.heap.size ∧ ∀ k, R k → IsU8 w k → w'.heap[k]? = w.heap[k]?
theorem KeepR.of_keep {R : Nat → Prop} {w w' : World} (h : KeepB w w') : KeepR R w w' := ⟨h.1, fun k _ hk => h.2 k hk⟩
theorem KeepR.trans {R : Nat → Prop} {a b c : World} (h : KeepR R a b) (k : KeepR R b c) : KeepR R a c := ⟨Nat.le_trans h.1 k.1, fun i hr hi => (k.2 i hr (hi.same (h.2 i hr hi))).trans (h.2 i hr hi)⟩
theorem IsData.keepR {R : Nat → Prop} {w w' : World} {v : Value} {l : B8} (h : IsData R w v l) (hk : KeepR R w w') : IsData R w' v l := by
  obtain ⟨⟨a, cap, rfl, h1, h2, h3, h4⟩, ht, hi⟩ := h
  refine ⟨⟨a, cap, rfl, h1, h2, h3, fun hn => ?_⟩, fun a' n c he => ?_, hi⟩
  · obtain ⟨b, o, rfl, hc⟩ := h4 hn
    refine ⟨b, o, rfl, fun i u hu => ?_⟩
    have hcu := hc i u hu
    rw [World.cell?_of_block (w := w) (w' := w') (a := ⟨b, o + i, none⟩) (hk.2 _ (hi b rfl) (ht ⟨b, o, none⟩ _ _ rfl))]
    exact hcu
  · have hb := ht a' n c he
    simp only [Value.slice.injEq] at he
    obtain ⟨rfl, -⟩ := he
    exact hb.same (hk.2 _ (hi _ rfl) hb)

/-! ### Files -/
/-- How a map's element reads: as the value that it is. -/
def elemV (v : Value) : Option (DataW Value × List MemPlace) := some (.held v, [])
abbrev fiV (f : Fi) (v : Value) : Value := .agg #[.int .i64 f.mode, v, .int .i64 f.time]
def dat (sl : B8 → Value) (l : Files) : DataW Value := .map (l.map fun e => (.string e.1, .held (fiV e.2 (sl e.1))))
def Rising : Files → Prop := List.Pairwise fun a b => ltB a.1 b.1 = true
structure IsFiles (R : Nat → Prop) (w : World) (b : Nat) (l : Files) : Prop where
  rise : Rising l
  short : ∀ e ∈ l, e.1.length ≤ 10000000
  map : ∃ sl : B8 → Value, w.ownsMap Tryz.prog 9 elemV b l.length (dat sl l) ∧ ∀ e ∈ l, IsData R w (sl e.1) e.2.data

theorem IsFiles.mono {R R' : Nat → Prop} {w : World} {b : Nat} {l : Files} (h : IsFiles R w b l) (hr : ∀ k, R k → R' k) : IsFiles R' w b l := by
  obtain ⟨h1, h0, sl, h2, h3⟩ := h
  exact ⟨h1, h0, sl, h2, fun e he => (h3 e he).mono hr⟩
theorem IsFiles.stay {R : Nat → Prop} {w w' : World} {b : Nat} {l : Files} (h : IsFiles R w b l) (hb : w'.heap[b]? = w.heap[b]?) (hk : KeepR R w w') : IsFiles R w' b l := by
  obtain ⟨h1, h0, sl, ⟨es, clock, he, F, hs, hD⟩, h3⟩ := h
  exact ⟨h1, h0, sl, ⟨es, clock, hb.trans he, F, hs, hD⟩, fun e he => (h3 e he).keepR hk⟩
theorem IsFiles.lt {R : Nat → Prop} {w : World} {b : Nat} {l : Files} (h : IsFiles R w b l) : b < w.heap.size := by
  obtain ⟨_, _, sl, h2, _⟩ := h
  exact h2.lt
/-! ### Changes and events -/
def IsCh (R : Nat → Prop) (w : World) (cs : List Value) : Ch → Prop
  | .put p f => p.length ≤ 10000000 ∧ ∃ v, cs = [S8 p, S8 [], .bool true, .int .i64 f.mode, v, .int .i64 f.time] ∧ IsData R w v f.data
  | .mv s d => s.length ≤ 10000000 ∧ d.length ≤ 10000000 ∧ s ≠ [] ∧ cs = [S8 d, S8 s, .bool false, .int .i64 0, .slice none 0 0, .int .i64 0]
  | .del p => p.length ≤ 10000000 ∧ cs = [S8 p, S8 [], .bool false, .int .i64 0, .slice none 0 0, .int .i64 0]
theorem IsCh.mono {R R' : Nat → Prop} {w : World} {cs : List Value} {c : Ch} (h : IsCh R w cs c) (hr : ∀ k, R k → R' k) : IsCh R' w cs c := by
  cases c with
  | put p f =>
    obtain ⟨h1, v, h2, h3⟩ := h
    exact ⟨h1, v, h2, h3.mono hr⟩
  | mv s d => exact h
  | del p => exact h
theorem IsCh.keepR {R : Nat → Prop} {w w' : World} {cs : List Value} {c : Ch} (h : IsCh R w cs c) (hk : KeepR R w w') : IsCh R w' cs c := by
  cases c with
  | put p f =>
    obtain ⟨h1, v, h2, h3⟩ := h
    exact ⟨h1, v, h2, h3.keepR hk⟩
  | mv s d => exact h
  | del p => exact h
theorem IsCh.length {R : Nat → Prop} {w : World} {cs : List Value} {c : Ch} (h : IsCh R w cs c) : cs.length = 6 ∧ cs.all (·.oneCell') = true := by
  cases c with
  | put p f =>
    obtain ⟨_, v, rfl, h3⟩ := h
    obtain ⟨_, _, rfl, _⟩ := h3.bytes
    exact ⟨rfl, by simp [Value.oneCell']⟩
  | mv s d => obtain ⟨_, _, _, rfl⟩ := h; exact ⟨rfl, by simp [Value.oneCell']⟩
  | del p => obtain ⟨_, rfl⟩ := h; exact ⟨rfl, by simp [Value.oneCell']⟩

def IsEvR (R : Nat → Prop) (w : World) (cs : List Value) (e : Ev) : Prop := ∃ vd, cs = [.int .i64 e.t, .int .i64 e.kind, .int .i64 e.mode, .int .i64 e.keep, .int .i64 e.torn, S8 e.path, vd] ∧ IsData R w vd e.data ∧ e.path.length ≤ 10000000
theorem IsEvR.mono {R R' : Nat → Prop} {w : World} {cs : List Value} {e : Ev} (h : IsEvR R w cs e) (hr : ∀ k, R k → R' k) : IsEvR R' w cs e := by
  obtain ⟨v, h1, h2, h3⟩ := h
  exact ⟨v, h1, h2.mono hr, h3⟩
theorem IsEvR.keepR {R : Nat → Prop} {w w' : World} {cs : List Value} {e : Ev} (h : IsEvR R w cs e) (hk : KeepR R w w') : IsEvR R w' cs e := by
  obtain ⟨v, h1, h2, h3⟩ := h
  exact ⟨v, h1, h2.keepR hk, h3⟩
theorem IsEvR.length {R : Nat → Prop} {w : World} {cs : List Value} {e : Ev} (h : IsEvR R w cs e) : cs.length = 7 ∧ cs.all (·.oneCell') = true := by
  obtain ⟨v, rfl, h2, _⟩ := h
  obtain ⟨_, _, rfl, _⟩ := h2.bytes
  exact ⟨rfl, by simp [Value.oneCell']⟩

/-- Each of a list of rows is what it says. -/
def Each {α : Type} (p : List Value → α → Prop) (css : List (List Value)) (xs : List α) : Prop := css.length = xs.length ∧ ∀ (i : Nat) c x, css[i]? = some c → xs[i]? = some x → p c x
theorem Each.nil {α : Type} (p : List Value → α → Prop) : Each p [] [] := ⟨rfl, fun i c x hc => by simp at hc⟩
theorem Each.imp {α : Type} {p q : List Value → α → Prop} {css : List (List Value)} {xs : List α} (h : Each p css xs) (hpq : ∀ c x, p c x → q c x) : Each q css xs := ⟨h.1, fun i c x hc hx => hpq c x (h.2 i c x hc hx)⟩
/-- A slice of the call's own that holds a list of structs. -/
def OwnL {α : Type} (w : World) (t : TypeId) (size : Nat) (p : List Value → α → Prop) (v : Value) (xs : List α) : Prop := ∃ css : List (List Value), w.ownsRow 0 t size v xs.length css.flatten ∧ Each p css xs
/-- A slice that is read alone. -/
def ReadL {α : Type} (w : World) (t : TypeId) (p : List Value → α → Prop) (v : Value) (xs : List α) : Prop := ∃ css : List (List Value), Row w v xs.length css.flatten ∧ Typed t w v ∧ Each p css xs

/-- The parts of a file system, but for its own block. -/
structure Parts (S O R : Nat → Prop) (w : World) (gm gd : Nat) (vp vl vu : Value) (now sure : Files) (pend : List Ch) (L users : List Ev) : Prop where
  ne : gm ≠ gd
  om : O gm
  od : O gd
  now : IsFiles R w gm now
  sure : IsFiles R w gd sure
  pend : OwnL w 196 6 (IsCh R w) vp pend
  op : Inn O vp
  plan : ReadL w 149 (IsEvR R w) vl L
  ol : Inn S vl
  users : OwnL w 149 7 (IsEvR R w) vu users
  ou : Inn O vu
  off : ∀ k, vu.ownBlock = some k → vl.ownBlock ≠ some k
abbrev fsCells (room : Int) (gm gd : Nat) (vp vl : Value) (calls : Nat) (vu : Value) (time : Nat) (down : Bool) : Array Value := #[.int .i64 room, .map (some gm), .map (some gd), vp, vl, .int .i64 calls, vu, .int .i64 time, .bool down]
def IsFs (S O R : Nat → Prop) (w : World) (p : Value) (m : Fs) : Prop := ∃ (g gm gd : Nat) (vp vl vu : Value) (L : List Ev) (c0 : Nat), p = .pointer (some ⟨g, 0, none⟩) ∧
    w.heap[g]? = some (.cells (fsCells m.room gm gd vp vl m.calls vu m.time m.down) 105 (0, 0)) ∧ O g ∧ Parts S O R w gm gd vp vl vu m.now m.sure m.pend L m.users ∧ m.plan = L.filter (fun e => decide ((c0 : Int) < e.t)) ∧ c0 ≤ m.calls ∧ L.length ≤ 1000

theorem ReadL.mono {α : Type} {w : World} {t : TypeId} {p q : List Value → α → Prop} {v : Value} {xs : List α} (h : ReadL w t p v xs) (hpq : ∀ c x, p c x → q c x) : ReadL w t q v xs := by
  obtain ⟨css, h1, h2, h3⟩ := h
  exact ⟨css, h1, h2, h3.imp hpq⟩
theorem OwnL.mono {α : Type} {w : World} {t : TypeId} {size : Nat} {p q : List Value → α → Prop} {v : Value} {xs : List α} (h : OwnL w t size p v xs) (hpq : ∀ c x, p c x → q c x) : OwnL w t size q v xs := by
  obtain ⟨css, h1, h3⟩ := h
  exact ⟨css, h1, h3.imp hpq⟩
theorem OwnL.stay {α : Type} {w w' : World} {t : TypeId} {size : Nat} {p : List Value → α → Prop} {v : Value} {xs : List α} (h : OwnL w t size p v xs) (hb : ∀ k, v.ownBlock = some k → w'.heap[k]? = w.heap[k]?) : OwnL w' t size p v xs := by
  obtain ⟨css, ⟨hl, h1⟩, h3⟩ := h
  refine ⟨css, ⟨hl, h1.imp id ?_⟩, h3⟩
  rintro ⟨g, cap, cur, rfl, h4, h5, h6⟩
  exact ⟨g, cap, cur, rfl, h4, (hb g rfl).trans h5, h6⟩
theorem Row.stay {w w' : World} {v : Value} {n : Nat} {cs : List Value} (h : Row w v n cs) (hb : ∀ k, v.ownBlock = some k → w'.heap[k]? = w.heap[k]?) : Row w' v n cs := by
  obtain ⟨a, cap, rfl, h1, h2, h3, h4⟩ := h
  refine ⟨a, cap, rfl, h1, h2, h3, fun hn => ?_⟩
  obtain ⟨b, o, rfl, hc⟩ := h4 hn
  refine ⟨b, o, rfl, fun i u hu => ?_⟩
  rw [World.cell?_of_block (w := w) (w' := w') (a := ⟨b, o + i, none⟩) (hb b rfl)]
  exact hc i u hu
theorem Typed.stay {e : TypeId} {w w' : World} {v : Value} (h : Typed e w v) (hb : ∀ k, v.ownBlock = some k → w'.heap[k]? = w.heap[k]?) : Typed e w' v := fun a n c he => by
  obtain ⟨cs, fr, hk⟩ := h a n c he
  subst he
  exact ⟨cs, fr, (hb a.block rfl).trans hk⟩
theorem ReadL.stay {α : Type} {w w' : World} {t : TypeId} {p : List Value → α → Prop} {v : Value} {xs : List α} (h : ReadL w t p v xs) (hb : ∀ k, v.ownBlock = some k → w'.heap[k]? = w.heap[k]?) : ReadL w' t p v xs := by
  obtain ⟨css, h1, h2, h3⟩ := h
  exact ⟨css, h1.stay hb, h2.stay hb, h3⟩

theorem Inn.of {O O' : Nat → Prop} {v : Value} (h : Inn O v) (ho : ∀ k, v.ownBlock = some k → O k → O' k) : Inn O' v := fun k hk => ho k hk (h k hk)

theorem Parts.mono {S O O' R R' : Nat → Prop} {w : World} {gm gd : Nat} {vp vl vu : Value} {now sure : Files} {pend : List Ch} {L users : List Ev} (h : Parts S O R w gm gd vp vl vu now sure pend L users) (ho : ∀ k, O k → O' k) (hr : ∀ k, R k → R' k) : Parts S O' R' w gm gd vp vl vu now sure pend L users :=
  ⟨h.ne, ho _ h.om, ho _ h.od, h.now.mono hr, h.sure.mono hr, h.pend.mono (fun c x hx => hx.mono hr), h.op.mono ho, h.plan.mono (fun c x hx => hx.mono hr), h.ol, h.users.mono (fun c x hx => hx.mono hr), h.ou.mono ho, h.off⟩

theorem OwnL.lt {α : Type} {w : World} {t : TypeId} {size : Nat} {q : List Value → α → Prop} {v : Value} {xs : List α} (h : OwnL w t size q v xs) : ∀ k, v.ownBlock = some k → k < w.heap.size := by
  obtain ⟨css, hw, _⟩ := h
  exact fun k hv => (hw.lt k hv).2
theorem OwnL.typed {α : Type} {w : World} {t : TypeId} {size : Nat} {q : List Value → α → Prop} {v : Value} {xs : List α} (h : OwnL w t size q v xs) : ∀ k, v.ownBlock = some k → ∃ cs fr, w.heap[k]? = some (.cells cs t fr) := by
  obtain ⟨css, ⟨_, h1⟩, _⟩ := h
  intro k hv
  rcases h1 with ⟨rfl, _⟩ | ⟨g, cap, cur, rfl, _, hg, _⟩
  · simp [Value.ownBlock] at hv
  · have : g = k := by simpa [Value.ownBlock] using hv
    subst this
    exact ⟨cur, (0, 0), hg⟩
theorem ReadL.typed {α : Type} {w : World} {t : TypeId} {p : List Value → α → Prop} {v : Value} {xs : List α} (h : ReadL w t p v xs) : ∀ k, v.ownBlock = some k → ∃ cs fr, w.heap[k]? = some (.cells cs t fr) := by
  obtain ⟨css, _, ht, _⟩ := h
  intro k hv
  cases v with
  | slice a n c =>
    cases a with
    | none => simp [Value.ownBlock] at hv
    | some a =>
      have : a.block = k := by simpa [Value.ownBlock] using hv
      subst this
      exact ht a n c rfl
  | _ => simp [Value.ownBlock] at hv
theorem IsFiles.kind {R : Nat → Prop} {w : World} {b : Nat} {l : Files} (h : IsFiles R w b l) : ∃ es clock, w.heap[b]? = some (.map es clock) := by
  obtain ⟨_, _, sl, ⟨es, clock, he, _⟩, _⟩ := h
  exact ⟨es, clock, he⟩

/-- The parts stay where no block of theirs is written, nor data. -/
theorem Parts.stay {S O R : Nat → Prop} {w w' : World} {gm gd : Nat} {vp vl vu : Value} {now sure : Files} {pend : List Ch} {L users : List Ev} (h : Parts S O R w gm gd vp vl vu now sure pend L users)
    (hm : w'.heap[gm]? = w.heap[gm]?) (hd : w'.heap[gd]? = w.heap[gd]?) (hp : ∀ k, vp.ownBlock = some k → w'.heap[k]? = w.heap[k]?) (hl : ∀ k, vl.ownBlock = some k → w'.heap[k]? = w.heap[k]?) (hu : ∀ k, vu.ownBlock = some k → w'.heap[k]? = w.heap[k]?) (hk : KeepR R w w') :
    Parts S O R w' gm gd vp vl vu now sure pend L users :=
  ⟨h.ne, h.om, h.od, h.now.stay hm hk, h.sure.stay hd hk, (h.pend.stay hp).mono (fun c x hx => hx.keepR hk), h.op, (h.plan.stay hl).mono (fun c x hx => hx.keepR hk), h.ol, (h.users.stay hu).mono (fun c x hx => hx.keepR hk), h.ou, h.off⟩

theorem Parts.stayO {S O R : Nat → Prop} {w w' : World} {gm gd : Nat} {vp vl vu : Value} {now sure : Files} {pend : List Ch} {L users : List Ev} (h : Parts S O R w gm gd vp vl vu now sure pend L users)
    (ho : ∀ k, O k → k < w.heap.size → w'.heap[k]? = w.heap[k]?) (hs : ∀ k, S k → k < w.heap.size → w'.heap[k]? = w.heap[k]?) (hk : KeepR R w w') : Parts S O R w' gm gd vp vl vu now sure pend L users :=
  h.stay (ho _ h.om h.now.lt) (ho _ h.od h.sure.lt) (fun k hv => ho k (h.op k hv) (h.pend.lt k hv)) (fun k hv => hs k (h.ol k hv) (by obtain ⟨cs, fr, hb⟩ := h.plan.typed k hv; exact (Array.getElem?_eq_some_iff.1 hb).1)) (fun k hv => ho k (h.ou k hv) (h.users.lt k hv)) hk
theorem Parts.ext {S O R : Nat → Prop} {w w' : World} {gm gd : Nat} {vp vl vu : Value} {now sure : Files} {pend : List Ch} {L users : List Ev} (h : Parts S O R w gm gd vp vl vu now sure pend L users) (hx : Ext w w') : Parts S O R w' gm gd vp vl vu now sure pend L users :=
  h.stayO (fun k _ hlt => hx.block k hlt) (fun k _ hlt => hx.block k hlt) (KeepR.of_keep (KeepB.of_ext hx))

theorem grownR {R : Nat → Prop} {w w' : World} {row : Option Nat} (hg : w.grownBy w' row) (hu : ∀ k, row = some k → ¬ IsU8 w k) : KeepR R w w' :=
  ⟨hg.size, fun k _ hk => hg.block k hk.lt (fun heq => hu k heq.symm hk)⟩
theorem apart_kind {w : World} {a b : Nat} {x y : Obj} (ha : w.heap[a]? = some x) (hb : w.heap[b]? = some y) (hne : x ≠ y) : a ≠ b := by
  rintro rfl
  rw [ha] at hb
  exact hne (Option.some.inj hb)
theorem cells_u8 {w : World} {k : Nat} {cs : Array Value} {t : TypeId} {fr : Nat × Nat} (h : w.heap[k]? = some (.cells cs t fr)) (ht : holdsT Tryz.prog 5 Tryz.prog.depth t = false) : ¬ IsU8 w k := by
  rintro ⟨cs', t', fr', h', hb⟩
  rw [h] at h'
  simp only [Option.some.injEq, Obj.cells.injEq] at h'
  rw [h'.2.1, hb] at ht
  cases ht

/-- .. where only the own block is written. -/
theorem Parts.own {S O R : Nat → Prop} {w w' : World} {gm gd : Nat} {vp vl vu : Value} {now sure : Files} {pend : List Ch} {L users : List Ev} (h : Parts S O R w gm gd vp vl vu now sure pend L users)
    {g : Nat} {cs : Array Value} {fr : Nat × Nat} (hg : w.heap[g]? = some (.cells cs 105 fr)) (hw : w.grownBy w' (some g)) : Parts S O R w' gm gd vp vl vu now sure pend L users := by
  obtain ⟨e1, c1, k1⟩ := h.now.kind
  obtain ⟨e2, c2, k2⟩ := h.sure.kind
  have ne : ∀ k, (∃ x, w.heap[k]? = some x ∧ x ≠ Obj.cells cs 105 fr) → w'.heap[k]? = w.heap[k]? := fun k ⟨x, hx, hn⟩ => hw.block k (Array.getElem?_eq_some_iff.1 hx).1 (by simpa using apart_kind hx hg hn)
  refine h.stay (ne _ ⟨_, k1, by simp⟩) (ne _ ⟨_, k2, by simp⟩) (fun k hv => ?_) (fun k hv => ?_) (fun k hv => ?_) (grownR hw (by rintro k hk; simp at hk; subst hk; exact cells_u8 hg (by kernel_rfl)))
  · obtain ⟨xs, f, hx⟩ := h.pend.typed k hv; exact ne k ⟨_, hx, by simp⟩
  · obtain ⟨xs, f, hx⟩ := h.plan.typed k hv; exact ne k ⟨_, hx, by simp⟩
  · obtain ⟨xs, f, hx⟩ := h.users.typed k hv; exact ne k ⟨_, hx, by simp⟩

/-! ### The whole -/
def On (O : Nat → Prop) (n : Nat) (k : Nat) : Prop := O k ∨ n ≤ k
theorem IsFs.mono {S O O' R R' : Nat → Prop} {w : World} {p : Value} {m : Fs} (h : IsFs S O R w p m) (ho : ∀ k, O k → O' k) (hr : ∀ k, R k → R' k) : IsFs S O' R' w p m := by
  obtain ⟨g, gm, gd, vp, vl, vu, L, c0, h1, h2, h3, h4, h5⟩ := h
  exact ⟨g, gm, gd, vp, vl, vu, L, c0, h1, h2, ho _ h3, h4.mono ho hr, h5⟩
/-- A file system stays as it is where its own blocks, its plan and its data do. -/
theorem IsFs.stay {S O R : Nat → Prop} {w w' : World} {p : Value} {m : Fs} (h : IsFs S O R w p m) (ho : ∀ k, O k → k < w.heap.size → w'.heap[k]? = w.heap[k]?) (hs : ∀ k, S k → k < w.heap.size → w'.heap[k]? = w.heap[k]?) (hk : KeepR R w w') : IsFs S O R w' p m := by
  obtain ⟨g, gm, gd, vp, vl, vu, L, c0, h1, h2, h3, h4, h5⟩ := h
  exact ⟨g, gm, gd, vp, vl, vu, L, c0, h1, (ho g h3 (Array.getElem?_eq_some_iff.1 h2).1).trans h2, h3, h4.stayO ho hs hk, h5⟩
/-- .. while another one works. -/
theorem IsFs.other {S O O' R : Nat → Prop} {w w' : World} {p : Value} {m : Fs} (h : IsFs S O R w p m) (hf : Fr O' w w') (hd : ∀ k, O k → ¬ O' k) (hs : ∀ k, S k → ¬ O' k) : IsFs S O R w' p m :=
  h.stay (fun k hk hlt => hf.block k hlt (.inl (hd k hk))) (fun k hk hlt => hf.block k hlt (.inl (hs k hk))) (KeepR.of_keep hf.keep)
theorem IsFs.ext {S O R : Nat → Prop} {w w' : World} {p : Value} {m : Fs} (h : IsFs S O R w p m) (hx : Ext w w') : IsFs S O R w' p m :=
  h.stay (fun k _ hlt => hx.block k hlt) (fun k _ hlt => hx.block k hlt) (KeepR.of_keep (KeepB.of_ext hx))

theorem Fr.step {O : Nat → Prop} {w w1 w2 : World} {row : Option Nat} (h : Fr O w w1) (hg : w1.grownBy w2 row) (ho : ∀ k, row = some k → O k ∨ w.heap.size ≤ k) (hu : ∀ k, row = some k → ¬ IsU8 w1 k) : Fr O w w2 :=
  h.trans ⟨hg.os, hg.tape, hg.output, hg.size, fun k hk hn => hg.block k hk (fun heq => by
    rcases hn with hn | hn
    · exact hn ((ho k heq.symm).imp id (fun h => ⟨h, hk⟩))
    · exact hu k heq.symm hn)⟩
theorem Fr.ext {O : Nat → Prop} {w w1 w2 : World} (h : Fr O w w1) (hx : Ext w1 w2) : Fr O w w2 := h.trans (Fr.of_ext hx)

end Go.Proofs.YtfgdmlmfgnhpaaaGreatDoor

/-! Maps of files: looked up, set, deleted. Conditions: paths of at most 10000000 signs. -/
namespace Go.Proofs.YtfgdmlmfgnhpaaaGreatDoor
open Go Go.RowKit

theorem before_ltB : ∀ a b : B8, bytesBefore a b = ltB a b
  | [], [] => by simp [bytesBefore, ltB]
  | [], _ :: _ => by simp [bytesBefore, ltB]
  | _ :: _, [] => by simp [bytesBefore, ltB]
  | a :: r, b :: s => by
    rw [bytesBefore, before_ltB r s]
    unfold ltB
    rw [Bool.eq_iff_iff]
    simp [List.cons_lt_cons_iff]

theorem K_str : Maps.Keyed Tryz.prog 9 := Maps.string_keyed Tryz.underlying9
theorem key_str (p : B8) (h : p.length ≤ 10000000) : keyOf Tryz.prog 9 (S8 p) = some (.string p) := by
  have h2 : p.length ≤ maxLen := by unfold maxLen; omega
  simp [keyOf, mapKey, Tryz.underlying9, ByteArray.size, h2]
theorem zero_fi (w : World) : (zeroValue 75).run Tryz.prog w = .ok (.agg #[.int .i64 0, .slice none 0 0, .int .i64 0]) w := by kernel_rfl

def en (sl : B8 → Value) (e : B8 × Fi) : Lit × DataW Value := (.string e.1, .held (fiV e.2 (sl e.1)))
theorem dat_en (sl : B8 → Value) (l : Files) : dat sl l = .map (l.map (en sl)) := rfl
def updS (sl : B8 → Value) (p : B8) (v : Value) : B8 → Value := fun q => if q = p then v else sl q

theorem delF_ne (l : Files) (p : B8) : ∀ e ∈ delF l p, e.1 ≠ p := by
  intro e he
  have := (List.mem_filter.1 he).2
  simpa using this

theorem find_en (sl : B8 → Value) (p : B8) : ∀ l : Files, (l.map (en sl)).find? (fun q => q.1.sameKey (.string p)) = (l.find? fun e => e.1 == p).map (en sl)
  | [] => rfl
  | e :: l => by
    have hk : (en sl e).1.sameKey (.string p) = (e.1 == p) := rfl
    rw [List.map_cons, List.find?_cons, List.find?_cons, hk]
    cases e.1 == p
    · exact find_en sl p l
    · rfl

theorem dat_at (sl : B8 → Value) (l : Files) (p : B8) (z : DataW Value) : (dat sl l).atKey (.string p) z = match look l p with | some f => .held (fiV f (sl p)) | none => z := by
  rw [dat_en]
  unfold DataW.atKey look
  simp only
  rw [find_en]
  cases h : l.find? fun e => e.1 == p with
  | none => rfl
  | some e =>
    have : e.1 = p := by simpa using List.find?_some h
    subst this
    rfl

theorem dat_has (sl : B8 → Value) (l : Files) (p : B8) : Maps.has (dat sl l) (.string p) = (look l p).isSome := by
  rw [dat_en, Maps.has_eq, Bool.eq_iff_iff, List.any_eq_true]
  unfold look
  constructor
  · rintro ⟨q, hq, hk⟩
    obtain ⟨e, he, rfl⟩ := List.mem_map.1 hq
    have : e.1 == p := hk
    rw [Option.isSome_map, List.find?_isSome]
    exact ⟨e, he, this⟩
  · intro h
    rw [Option.isSome_map, List.find?_isSome] at h
    obtain ⟨e, he, hk⟩ := h
    exact ⟨en sl e, List.mem_map.2 ⟨e, he, rfl⟩, hk⟩

theorem look_mem {l : Files} {p : B8} {f : Fi} (h : look l p = some f) : (p, f) ∈ l := by
  unfold look at h
  obtain ⟨e, he, rfl⟩ := Option.map_eq_some_iff.1 h
  have h1 := List.mem_of_find?_eq_some he
  have h2 : e.1 = p := by simpa using List.find?_some he
  rw [← h2]; exact h1

theorem ltB_trans {a b c : B8} (h : ltB a b = true) (k : ltB b c = true) : ltB a c = true := by
  unfold ltB at *
  simp only [decide_eq_true_eq] at *
  exact List.lt_trans h k
theorem ltB_total {a b : B8} (h : ltB a b = false) (hne : a ≠ b) : ltB b a = true := by
  unfold ltB at *
  simp only [decide_eq_true_eq, decide_eq_false_iff_not] at *
  exact Std.lt_of_le_of_ne (List.not_lt.1 h) (Ne.symm hne)
theorem ltB_ne {a b : B8} (h : ltB a b = true) : a ≠ b := by
  rintro rfl
  unfold ltB at h
  simp at h
  exact absurd h (List.lt_irrefl a)

theorem Rising.del {l : Files} (h : Rising l) (p : B8) : Rising (delF l p) := List.Pairwise.filter _ h
theorem Rising.ins {x : B8 × Fi} : ∀ {l : Files}, Rising l → (∀ e ∈ l, e.1 ≠ x.1) → Rising (insF x l)
  | [], _, _ => by simp [insF, Rising]
  | y :: l, h, hn => by
    obtain ⟨h1, h2⟩ := List.pairwise_cons.1 h
    unfold insF
    split
    · rename_i hb
      exact List.pairwise_cons.2 ⟨fun e he => by
        rcases List.mem_cons.1 he with rfl | he
        · exact hb
        · exact ltB_trans hb (h1 e he), h⟩
    · rename_i hb
      have hb' := ltB_total (by simpa using hb) (fun e => hn y (by simp) e.symm)
      refine List.pairwise_cons.2 ⟨fun e he => ?_, Rising.ins h2 (fun e he => hn e (by simp [he]))⟩
      rcases mem_insF.1 he with rfl | he
      · exact hb'
      · exact h1 e he
theorem Rising.put {l : Files} (h : Rising l) (p : B8) (f : Fi) : Rising (putF l p f) := Rising.ins (h.del p) (delF_ne l p)
theorem Rising.ap {l : Files} (h : Rising l) (c : Ch) : Rising (ap l c) := by
  cases c with
  | put p f => exact h.put p f
  | mv s d =>
    show Rising (match look l s with | some x => putF (delF l s) d x | none => l)
    split
    · exact (h.del s).put d _
    · exact h
  | del p => exact h.del p

theorem mem_putF {l : Files} {p : B8} {f : Fi} {e : B8 × Fi} (h : e ∈ putF l p f) : e = (p, f) ∨ (e ∈ l ∧ e.1 ≠ p) := by
  rcases mem_insF.1 h with h | h
  · exact .inl h
  · exact .inr ⟨(List.mem_filter.1 h).1, delF_ne l p e h⟩

/-- m[p]. -/
theorem IsFiles.look_run {R : Nat → Prop} {w : World} {b : Nat} {l : Files} (h : IsFiles R w b l) (p : B8) (hp : p.length ≤ 10000000) :
    ∃ v, (Instr.lookup 97 (.map (some b)) (S8 p) true).run Tryz.prog w = .ok (.tuple #[v, .bool (look l p).isSome]) w ∧ (Instr.lookup 97 (.map (some b)) (S8 p) false).run Tryz.prog w = .ok v w ∧
      (∀ f, look l p = some f → ∃ sv, v = fiV f sv ∧ IsData R w sv f.data) ∧ (look l p = none → v = .agg #[.int .i64 0, .slice none 0 0, .int .i64 0]) := by
  obtain ⟨_, _, sl, h2, h3⟩ := h
  obtain ⟨v, ps, h4, h5⟩ := h2.look_ok K_str Tryz.underlying97 (zero_fi w) rfl (key_str p hp)
  obtain ⟨v', ps', h6, h7⟩ := h2.lookup K_str Tryz.underlying97 (zero_fi w) rfl (key_str p hp)
  rw [dat_at] at h5 h7
  have hvv : v' = v := by
    have h8 : (some (DataW.held v, ([] : List MemPlace))).map (·.1) = (some (DataW.held v', ([] : List MemPlace))).map (·.1) := by
      show (elemV v).map (·.1) = (elemV v').map (·.1)
      rw [h5, h7]; rfl
    simpa using h8.symm
  subst hvv
  rw [dat_has] at h4
  refine ⟨v', h4, h6, fun f hf => ?_, fun hn => ?_⟩
  · rw [hf] at h5
    have : DataW.held v' = DataW.held (fiV f (sl p)) := congrArg Prod.fst (Option.some.inj h5)
    exact ⟨sl p, DataW.held.inj this, h3 _ (look_mem hf)⟩
  · rw [hn] at h5
    have : DataW.held v' = DataW.held _ := congrArg Prod.fst (Option.some.inj h5)
    exact DataW.held.inj this

theorem grown_keepR {R : Nat → Prop} {w w' : World} {b : Nat} (hg : w.grownBy w' (some b)) (hu : ¬ IsU8 w b) : KeepR R w w' :=
  ⟨hg.size, fun k _ hk => hg.block k hk.lt (by
    rintro heq
    simp only [Option.some.injEq] at heq
    subst heq
    exact hu hk)⟩

section
variable {ops : Array Oper} {rest : List Oper} {o : Oper} {a : Act} {Q : Exit → Act → World → Prop} {w : World}
end

end Go.Proofs.YtfgdmlmfgnhpaaaGreatDoor

/-! Lists of texts in order, each once; in plain Lean. Conditions: as each theorem states. -/
namespace Go.Proofs.YtfgdmlmfgnhpaaaGreatDoor
open Go Go.RowKit

/-- a is not behind b. -/
def leT (a b : B8) : Bool := !ltB b a
theorem leT_trans (a b c : B8) (h1 : leT a b = true) (h2 : leT b c = true) : leT a c = true := by
  unfold leT at *
  cases h3 : ltB c a with
  | false => rfl
  | true =>
    exfalso
    simp only [Bool.not_eq_true'] at h1 h2
    by_cases hab : a = b
    · subst hab; rw [h3] at h2; cases h2
    · have h4 := ltB_total h1 (fun e => hab e.symm)
      have h5 := ltB_trans h3 h4
      rw [h5] at h2; cases h2
theorem leT_total (a b : B8) : (leT a b || leT b a) = true := by
  unfold leT
  cases h1 : ltB b a with
  | false => rfl
  | true =>
    cases h2 : ltB a b with
    | false => rfl
    | true =>
      have := ltB_trans h1 h2
      have := ltB_ne this
      exact (this rfl).elim
theorem leT_anti {a b : B8} (h1 : leT a b = true) (h2 : leT b a = true) : a = b := by
  unfold leT at h1 h2
  simp only [Bool.not_eq_true'] at h1 h2
  by_cases h : a = b
  · exact h
  · have := ltB_total h1 (fun e => h e.symm)
    rw [this] at h2; cases h2
def upL (l : List B8) : Prop := l.Pairwise fun a b => leT a b = true
/-- Texts in order. -/
def sortT (l : List B8) : List B8 := l.mergeSort leT
theorem sortT_perm (l : List B8) : (sortT l).Perm l := List.mergeSort_perm l leT
theorem sortT_up (l : List B8) : upL (sortT l) := List.pairwise_mergeSort leT_trans leT_total l
theorem up_ext : ∀ {a b : List B8}, upL a → upL b → a.Perm b → a = b
  | [], b, _, _, h => by have := h.length_eq; exact (List.eq_nil_of_length_eq_zero this.symm).symm
  | x :: a, [], _, _, h => by have := h.length_eq; simp at this
  | x :: a, y :: b, ha, hb, h => by
    have ha' := List.pairwise_cons.1 ha
    have hb' := List.pairwise_cons.1 hb
    have hxy : x = y := by
      have h1 : x ∈ y :: b := h.subset (by simp)
      have h2 : y ∈ x :: a := h.symm.subset (by simp)
      rcases List.mem_cons.1 h1 with h1 | h1
      · exact h1
      · rcases List.mem_cons.1 h2 with h2 | h2
        · exact h2.symm
        · exact leT_anti (ha'.1 _ h2) (hb'.1 _ h1)
    subst hxy
    rw [up_ext ha'.2 hb'.2 (List.Perm.cons_inv h)]
theorem sortT_of {l r : List B8} (hp : r.Perm l) (hu : upL r) : r = sortT l := up_ext hu (sortT_up l) (hp.trans (sortT_perm l).symm)
/-- Runs of one text, cut to one. -/
def runs1 : List B8 → List B8
  | a :: b :: l => if a = b then runs1 (b :: l) else a :: runs1 (b :: l)
  | l => l
theorem runs1_mem : ∀ (l : List B8) (x : B8), x ∈ runs1 l ↔ x ∈ l
  | [], x => Iff.rfl
  | [a], x => Iff.rfl
  | a :: b :: l, x => by
    have ih := runs1_mem (b :: l) x
    unfold runs1
    split
    · rename_i h
      subst h
      rw [ih]
      simp
    · rw [List.mem_cons, ih, List.mem_cons (a := x) (b := a)]
def riseT (l : List B8) : Prop := l.Pairwise fun a b => ltB a b = true
theorem runs1_rise : ∀ {l : List B8}, upL l → riseT (runs1 l)
  | [], _ => List.Pairwise.nil
  | [a], _ => List.pairwise_singleton _ _
  | a :: b :: l, h => by
    have h' := List.pairwise_cons.1 h
    have ih := runs1_rise h'.2
    unfold runs1
    split
    · exact ih
    · rename_i hab
      refine List.pairwise_cons.2 ⟨fun x hx => ?_, ih⟩
      have hxm := (runs1_mem _ _).1 hx
      have hax := h'.1 x hxm
      by_cases hxe : a = x
      · subst hxe
        exfalso
        rcases List.mem_cons.1 hxm with e | hm
        · exact hab e
        · exact hab (leT_anti (h'.1 b (by simp)) ((List.pairwise_cons.1 h'.2).1 a hm))
      · unfold leT at hax
        exact ltB_total (by simpa using hax) (fun e => hxe e.symm)
/-- Texts in order, each once. -/
def uniqT (l : List B8) : List B8 := runs1 (sortT l)
theorem uniqT_mem {l : List B8} {x : B8} : x ∈ uniqT l ↔ x ∈ l := (runs1_mem _ _).trans (sortT_perm l).mem_iff
theorem uniqT_rise (l : List B8) : riseT (uniqT l) := runs1_rise (sortT_up l)
theorem rise_ext : ∀ {a b : List B8}, riseT a → riseT b → (∀ x, x ∈ a ↔ x ∈ b) → a = b
  | [], [], _, _, _ => rfl
  | [], y :: b, _, _, h => by have := (h y).2 (by simp); cases this
  | x :: a, [], _, _, h => by have := (h x).1 (by simp); cases this
  | x :: a, y :: b, ha, hb, h => by
    have ha' := List.pairwise_cons.1 ha
    have hb' := List.pairwise_cons.1 hb
    have hne : ∀ {u v : B8}, ltB u v = true → ltB v u = true → False := fun h1 h2 => ltB_ne (ltB_trans h1 h2) rfl
    have hxy : x = y := by
      rcases List.mem_cons.1 ((h x).1 (by simp)) with h1 | h1
      · exact h1
      · rcases List.mem_cons.1 ((h y).2 (by simp)) with h2 | h2
        · exact h2.symm
        · exact (hne (ha'.1 _ h2) (hb'.1 _ h1)).elim
    subst hxy
    rw [rise_ext ha'.2 hb'.2 (fun z => by
      have hz := h z
      simp only [List.mem_cons] at hz
      constructor
      · intro hza
        rcases hz.1 (.inr hza) with e | hm
        · subst e; exact (ltB_ne (ha'.1 _ hza) rfl).elim
        · exact hm
      · intro hzb
        rcases hz.2 (.inr hzb) with e | hm
        · subst e; exact (ltB_ne (hb'.1 _ hzb) rfl).elim
        · exact hm)]
theorem uniqT_of {l r : List B8} (hr : riseT r) (hm : ∀ x, x ∈ r ↔ x ∈ l) : r = uniqT l := rise_ext hr (uniqT_rise l) (fun x => (hm x).trans uniqT_mem.symm)
theorem uniqT_id {l : List B8} (h : riseT l) : uniqT l = l := (uniqT_of h (fun _ => Iff.rfl)).symm
theorem runs1_len : ∀ (l : List B8), (runs1 l).length ≤ l.length
  | [] => Nat.le_refl _
  | [a] => Nat.le_refl _
  | a :: b :: l => by
    have ih := runs1_len (b :: l)
    unfold runs1
    split
    · simp at ih ⊢; omega
    · simp at ih ⊢; omega
theorem uniqT_len (l : List B8) : (uniqT l).length ≤ l.length := Nat.le_trans (runs1_len _) (Nat.le_of_eq (sortT_perm l).length_eq)

end Go.Proofs.YtfgdmlmfgnhpaaaGreatDoor

/-! Two lists that rise, merged, in plain Lean; a text that is set into a list that rises. Conditions: as each theorem states. -/
namespace Go.Proofs.YtfgdmlmfgnhpaaaGreatDoor
open Go Go.RowKit

/-- A merge under way: what is left of both, what is done. -/
structure MInv (A B a b C : List B8) : Prop where
  ua : upL a
  ub : upL b
  uc : upL C
  le : ∀ c ∈ C, ∀ x ∈ a ++ b, leT c x = true
  perm : (C ++ (a ++ b)).Perm (A ++ B)
theorem MInv.start {A B : List B8} (ha : upL A) (hb : upL B) : MInv A B A B [] := ⟨ha, hb, List.Pairwise.nil, (fun c hc => by cases hc), List.Perm.refl _⟩
theorem MInv.swap {A B a b C : List B8} (h : MInv A B a b C) : MInv A B b a C :=
  ⟨h.ub, h.ua, h.uc, fun c hc x hx => h.le c hc x (List.perm_append_comm.mem_iff.1 hx), ((List.Perm.append_left C (List.perm_append_comm (l₁ := b) (l₂ := a)))).trans h.perm⟩
theorem MInv.step {A B a b C : List B8} {x y : B8} (h : MInv A B (x :: a) (y :: b) C) (hc : ltB y x = false) : MInv A B a (y :: b) (C ++ [x]) := by
  have hxy : leT x y = true := by unfold leT; rw [hc]; rfl
  have hx : ∀ z ∈ a ++ y :: b, leT x z = true := fun z hz => by
    rcases List.mem_append.1 hz with hz | hz
    · exact (List.pairwise_cons.1 h.ua).1 z hz
    · rcases List.mem_cons.1 hz with rfl | hz
      · exact hxy
      · exact leT_trans _ _ _ hxy ((List.pairwise_cons.1 h.ub).1 z hz)
  refine ⟨(List.pairwise_cons.1 h.ua).2, h.ub, List.pairwise_append.2 ⟨h.uc, List.pairwise_singleton _ _, fun c hc z hz => ?_⟩, fun c hc z hz => ?_, ?_⟩
  · rw [List.mem_singleton.1 hz]
    exact h.le c hc x (by simp)
  · rcases List.mem_append.1 hc with hc | hc
    · exact h.le c hc z (by rw [List.cons_append]; exact List.mem_cons_of_mem _ hz)
    · rw [List.mem_singleton.1 hc]
      exact hx z hz
  · have := h.perm
    simpa using this
theorem MInv.fin {A B a C : List B8} (h : MInv A B a [] C) : C ++ a = sortT (A ++ B) := by
  refine sortT_of (by simpa using h.perm) (List.pairwise_append.2 ⟨h.uc, h.ua, fun c hc z hz => h.le c hc z (by simpa using hz)⟩)
theorem MInv.len {A B a b C : List B8} (h : MInv A B a b C) : C.length + (a.length + b.length) = A.length + B.length := by
  have := h.perm.length_eq
  simpa using this
theorem sort_halves (l : List B8) (k : Nat) : sortT (sortT (l.take k) ++ sortT (l.drop k)) = sortT l := by
  refine sortT_of ((sortT_perm _).trans ?_) (sortT_up _)
  have h : (l.take k ++ l.drop k).Perm l := by rw [List.take_append_drop]
  exact ((sortT_perm _).append (sortT_perm _)).trans h
theorem sort_small {l : List B8} (h : l.length < 2) : sortT l = l := by
  refine (sortT_of (List.Perm.refl _) ?_).symm
  match l, h with
  | [], _ => exact List.Pairwise.nil
  | [x], _ => exact List.pairwise_singleton _ _
theorem sortT_len (l : List B8) : (sortT l).length = l.length := (sortT_perm l).length_eq

/-! ### A text set into a list that rises -/
end Go.Proofs.YtfgdmlmfgnhpaaaGreatDoor

/-! bytes.Clone; fsim.files: make. Conditions: as each theorem states. -/
namespace Go.Proofs.YtfgdmlmfgnhpaaaGreatDoor
open Go Go.RowKit

def Nu (w w' : World) (k : Nat) : Prop := w.heap.size ≤ k ∧ k < w'.heap.size
theorem Nu.nw {R : Nat → Prop} {w w' : World} {k : Nat} (h : Nu w w' k) : Nw R w w' k := .inr h

theorem cellsAt3 {w : World} {g : Nat} {v0 v1 v2 : Value} {t : TypeId} {fr : Nat × Nat} (h : w.heap[g]? = some (.cells #[v0, v1, v2] t fr)) :
    w.cell? ⟨g, 0, none⟩ = some v0 ∧ w.cell? ⟨g, 1, none⟩ = some v1 ∧ w.cell? ⟨g, 2, none⟩ = some v2 := by
  simp [World.cell?, h]
theorem alloc_at1 (w : World) (p q : Obj) : ((w.alloc p).alloc q).heap[w.heap.size + 1]? = some q := by
  have := alloc_at (w.alloc p) q
  rwa [show (w.alloc p).heap.size = w.heap.size + 1 by simp] at this
theorem IsFiles.ext {R : Nat → Prop} {w w' : World} {b : Nat} {l : Files} (h : IsFiles R w b l) (hx : Ext w w') : IsFiles R w' b l := h.stay (hx.block b h.lt) (KeepR.of_keep (KeepB.of_ext hx))
theorem IsData.ext {R : Nat → Prop} {w w' : World} {v : Value} {l : B8} (h : IsData R w v l) (hx : Ext w w') : IsData R w' v l := h.keep (KeepB.of_ext hx)

def MakePost (R : Nat → Prop) (w : World) (gm : Nat) (l : Files) (e : Ending) (w' : World) : Prop := e = .returned (.tuple #[]) ∧ IsFiles R w' gm l ∧ w.grownBy w' (some gm)

end Go.Proofs.YtfgdmlmfgnhpaaaGreatDoor

/-! Maps of files gone through: copied, dir, Used. Conditions: as each theorem states. -/
namespace Go.Proofs.YtfgdmlmfgnhpaaaGreatDoor
open Go Go.RowKit

theorem key_inv {key : Value} {kl : Lit} (h : keyOf Tryz.prog 9 key = some kl) : ∃ x : ByteArray, key = .string x := by
  cases key <;> simp [keyOf, mapKey, Tryz.underlying9] at h
  exact ⟨_, rfl⟩
theorem key_lit {x : ByteArray} {kl : Lit} (h : keyOf Tryz.prog 9 (.string x) = some kl) : kl = .string x.data.toList := by
  simp [keyOf, mapKey, Tryz.underlying9] at h
  exact h.2.symm

/-- Each file's data lies in a slice. -/
def Sliced (sl : B8 → Value) (l : Files) : Prop := ∀ p f, look l p = some f → ∃ a c, sl p = .slice a f.data.length c

section
variable {ops : Array Oper} {rest : List Oper} {o : Oper} {a : Act} {Q : Exit → Act → World → Prop} {w : World}
end

end Go.Proofs.YtfgdmlmfgnhpaaaGreatDoor

/-! Files asked: Used, dir, Paths, Peek. Conditions: as each theorem states. -/
namespace Go.Proofs.YtfgdmlmfgnhpaaaGreatDoor
open Go Go.RowKit

def leftF (left : Lit → Bool) (l : Files) : Files := l.filter fun e => left (.string e.1)
def strike (left : Lit → Bool) (p : B8) : Lit → Bool := fun z => left z && !z.sameKey (.string p)
theorem same_str (a b : B8) : (Lit.string a).sameKey (.string b) = (a == b) := rfl

theorem strike_perm {left : Lit → Bool} {p : B8} {f : Fi} (hl : left (.string p) = true) : ∀ {l : Files}, Rising l → look l p = some f → (leftF left l).Perm ((p, f) :: leftF (strike left p) l)
  | [], _, hk => by simp [look] at hk
  | e :: l, hr, hk => by
    obtain ⟨h1, h2⟩ := List.pairwise_cons.1 hr
    by_cases he : e.1 = p
    · have hef : e = (p, f) := by
        have : look (e :: l) p = some e.2 := by unfold look; rw [List.find?_cons]; simp [he]
        rw [this] at hk
        rw [← Option.some.inj hk, ← he]
      subst hef
      have hrest : leftF (strike left p) l = leftF left l := by
        unfold leftF
        refine List.filter_congr fun x hx => ?_
        have hne : x.1 ≠ p := fun h => ltB_ne (h1 x hx) h.symm
        unfold strike
        rw [same_str]
        simp [hne]
      unfold leftF at *
      rw [List.filter_cons, if_pos hl, List.filter_cons]
      have hs : strike left p (.string p) = false := by unfold strike; rw [same_str]; simp
      rw [if_neg (by simp [hs]), hrest]
    · have hk' : look l p = some f := by
        have : look (e :: l) p = look l p := by
          unfold look
          rw [List.find?_cons]
          have : (e.1 == p) = false := by simpa using he
          rw [this]
        rwa [this] at hk
      have ih := strike_perm hl h2 hk'
      have hs : strike left p (.string e.1) = left (.string e.1) := by
        unfold strike; rw [same_str]; simp [he]
      unfold leftF at *
      rw [List.filter_cons, List.filter_cons, hs]
      split
      · exact (List.Perm.cons e ih).trans (List.Perm.swap _ _ _)
      · exact ih

theorem leftF_none {left : Lit → Bool} {l : Files} (h : ∀ k, left k = false) : leftF left l = [] := by
  unfold leftF; rw [List.filter_eq_nil_iff]; intro e _; simp [h]
theorem cellsAt9 {w : World} {g : Nat} {v0 v1 v2 v3 v4 v5 v6 v7 v8 : Value} {t : TypeId} {fr : Nat × Nat} (h : w.heap[g]? = some (.cells #[v0, v1, v2, v3, v4, v5, v6, v7, v8] t fr)) :
    w.cell? ⟨g, 0, none⟩ = some v0 ∧ w.cell? ⟨g, 1, none⟩ = some v1 ∧ w.cell? ⟨g, 2, none⟩ = some v2 ∧ w.cell? ⟨g, 3, none⟩ = some v3 ∧ w.cell? ⟨g, 4, none⟩ = some v4 ∧ w.cell? ⟨g, 5, none⟩ = some v5 ∧ w.cell? ⟨g, 6, none⟩ = some v6 ∧ w.cell? ⟨g, 7, none⟩ = some v7 ∧ w.cell? ⟨g, 8, none⟩ = some v8 := by
  simp [World.cell?, h]

def lenSum (l : Files) : Nat := (l.map fun e => e.2.data.length).sum
theorem prefix_any (s t : ByteArray) (w : World) : Calls Tryz.prog 123 #[.string s, .string t] w fun e w' => e = .returned (.bool (t.data.toList.isPrefixOf s.data.toList)) ∧ w' = w :=
  Tryz.strings_HasPrefix s t w

def dirB (l : Files) (path but : B8) : Bool := l.any fun e => !(e.1 == but) && isUnder path e.1

end Go.Proofs.YtfgdmlmfgnhpaaaGreatDoor

/-! names.Split, names.Parents; may a file stand at a path; fsim.wrong. Conditions: paths of at most 10000000 signs. -/
namespace Go.Proofs.YtfgdmlmfgnhpaaaGreatDoor
open Go Go.RowKit

theorem join_any (v : Value) (L : List B8) (sep : B8) (w : World) (hv : IsStrs w v L) (hl : (Lib.join L sep).length ≤ 140737488355328) :
    Calls Tryz.prog 185 #[v, S8 sep] w fun e w' => e = .returned (S8 (Lib.join L sep)) ∧ Ext w w' := by
  obtain ⟨a, cap, rfl, h1, h2, h3, h4⟩ := hv
  cases L with
  | nil => exact (Tryz.strings_Join_none a cap ⟨sep.toArray⟩ w).mono fun e w' ⟨he, hw⟩ => ⟨he, by rw [hw]; exact Ext.refl _⟩
  | cons x L =>
    obtain ⟨b, o, rfl, hc⟩ := h4 (by simp)
    have hm : (((x :: L).map fun l => (⟨l.toArray⟩ : ByteArray)).map (·.data.toList)) = x :: L := by
      rw [List.map_map]
      exact List.map_id _
    have h := Tryz.strings_Join b o cap ((x :: L).map fun l => (⟨l.toArray⟩ : ByteArray)) ⟨sep.toArray⟩ w (fun j y hy => hc j _ (by
      rw [List.getElem?_map] at hy ⊢
      obtain ⟨z, hz, rfl⟩ := Option.map_eq_some_iff.1 hy
      rw [hz]; rfl)) (by
        have := hc 0 _ rfl
        exact World.block_lt_of_cell? _ _ this) (by simpa using h3) (by simpa using h1) (by rw [hm]; exact hl)
    rw [hm, List.length_map] at h
    exact h

theorem join_len (sep : B8) : ∀ L : List B8, (Lib.join L sep).length ≤ (L.map List.length).sum + L.length * sep.length
  | [] => by simp [Lib.join_nil]
  | x :: L => by
    rw [Lib.join_cons]
    have : ∀ M : List B8, (Lib.joinTail sep M).length = (M.map List.length).sum + M.length * sep.length := by
      intro M
      induction M with
      | nil => simp [Lib.joinTail]
      | cons y M ih =>
        unfold Lib.joinTail at *
        simp only [List.map_cons, List.flatten_cons, List.length_append, List.sum_cons, List.length_cons, ih, Nat.add_mul]
        omega
    simp only [List.length_append, this, List.map_cons, List.sum_cons, List.length_cons, Nat.add_mul]
    omega

theorem take_sum_le : ∀ (L : List Nat) (k : Nat), (L.take k).sum ≤ L.sum
  | [], k => by simp
  | x :: L, 0 => by simp
  | x :: L, k + 1 => by have := take_sum_le L k; simp; omega

theorem join_take_le (l : B8) (k : Nat) : (Lib.join ((cut 47 l).take k) [47]).length ≤ 2 * l.length + 2 := by
  have h1 := join_len [47] ((cut 47 l).take k)
  have h2 := cut_total 47 l
  have h3 := cut_length 47 l
  have h4 := take_sum_le ((cut 47 l).map List.length) k
  rw [← List.map_take] at h4
  have h5 := List.length_take_le k (cut 47 l)
  have h6 : ((cut 47 l).take k).length ≤ (cut 47 l).length := List.length_take_le' k (cut 47 l)
  simp only [List.length_cons, List.length_nil] at h1
  omega

theorem IsStrs.take {w : World} {a : Option Addr} {L : List B8} {cap n : Nat} (h : IsStrs w (.slice a L.length cap) L) (hn : n ≤ L.length) : IsStrs w (.slice a n cap) (L.take n) := by
  obtain ⟨a', cap', he, h1, h2, h3, h4⟩ := h
  simp only [Value.slice.injEq, true_and] at he
  obtain ⟨rfl, rfl⟩ := he
  have hl : (L.take n).length = n := by rw [List.length_take]; omega
  refine ⟨a, cap, by rw [hl], by omega, h2, by omega, fun hne => ?_⟩
  obtain ⟨b, o, rfl, hc⟩ := h4 (by
    intro h0
    have : L = [] := by simpa using h0
    subst this
    simp at hne)
  refine ⟨b, o, rfl, fun i u hu => hc i u ?_⟩
  rw [List.getElem?_map] at hu ⊢
  obtain ⟨x, hx, rfl⟩ := Option.map_eq_some_iff.1 hu
  rw [List.getElem?_take] at hx
  split at hx
  · rw [hx]; rfl
  · simp at hx

def splitL (l : B8) : List B8 := if pathB l then cut 47 l else []

set_option maxRecDepth 100000 in
set_option maxHeartbeats 400000 in
theorem nsplit_any (l : B8) (w : World) (hE : Env w) (hl : l.length ≤ 10000000) :
    Calls Tryz.prog 30 #[S8 l] w fun e w' => (∃ v, e = .returned v ∧ IsStrs w' v (splitL l)) ∧ Ext w w' := by
  have HE : Hid _ := hE
  clear hE
  have hS : splitL l = if pathB l then cut 47 l else [] := rfl
  have HS : Hid _ := hS
  clear hS
  cases hp : pathB l with
  | true =>
    have HP : Hid _ := hp
    go_enter Tryz.func30, Tryz.ntmps30
    go_wp2_with (first
      | (go_at_call 114; go_must (refine (path_l l _ HE.out (by omega)).mono ?_; rintro e w2 ⟨rfl, hx2⟩))
      | (go_at_call 115; go_must (refine (split_any ⟨l.toArray⟩ 47 _ (HE.out.ext hx2) (Nat.lt_of_le_of_lt hl (by decide))).mono ?_; rintro e w3 ⟨v, rfl, hv, -, hx3⟩; have HV : Hid _ := hv; obtain ⟨a, c, rfl, -⟩ := id hv; clear hv)))
    go_ret
    exact ⟨⟨_, rfl, by rw [HS.out, if_pos HP.out]; exact HV.out⟩, hx2.trans hx3⟩
  | false =>
    have HP : Hid _ := hp
    go_enter Tryz.func30, Tryz.ntmps30
    go_wp2_with (go_at_call 114; go_must (refine (path_l l _ HE.out (by omega)).mono ?_; rintro e w2 ⟨rfl, hx2⟩))
    go_ret
    exact ⟨⟨_, rfl, by rw [HS.out, if_neg (by simp [HP.out])]; exact IsStrs.nil _⟩, hx2⟩

def parentsN (L : List B8) (k : Nat) : List B8 := (List.range k).map fun i => Lib.join (L.take (i + 1)) [47]
def parentsL (l : B8) : List B8 := parentsN (splitL l) ((splitL l).length - 1)
theorem parentsN_succ (L : List B8) (k : Nat) : parentsN L (k + 1) = parentsN L k ++ [Lib.join (L.take (k + 1)) [47]] := by
  unfold parentsN; rw [List.range_succ, List.map_append]; rfl
theorem parentsN_length (L : List B8) (k : Nat) : (parentsN L k).length = k := by simp [parentsN]

set_option maxRecDepth 100000 in
set_option maxHeartbeats 1000000 in
theorem parents_any (l : B8) (w : World) (hE : Env w) (hl : l.length ≤ 10000000) :
    Calls Tryz.prog 121 #[S8 l] w fun e w' => (∃ v, e = .returned v ∧ IsStrs w' v (parentsL l)) ∧ Ext w w' := by
  have HE : Hid _ := hE
  have hS : splitL l = [] ∨ splitL l = cut 47 l := by unfold splitL; split <;> simp
  have hlen : (splitL l).length ≤ 10000001 := by
    rcases hS with h | h
    · rw [h]; simp
    · rw [h]; have := (cut_length 47 l).2; omega
  have HJ : Hid (∀ k, (Lib.join ((splitL l).take k) [47]).length ≤ 140737488355328) := fun k => by
    rcases hS with h | h
    · rw [h, List.take_nil, Lib.join_nil]; simp
    · rw [h]; have := join_take_le l k; omega
  have HP : Hid (parentsL l = parentsN (splitL l) ((splitL l).length - 1)) := rfl
  generalize hL : splitL l = L at *
  have HL : Hid _ := hL
  clear hE hS hL
  go_enter Tryz.func121, Tryz.ntmps121
  go_wp2_with (go_at_call 30; go_must (refine (nsplit_any l _ HE.out hl).mono ?_; rw [HL.out]; rintro e w2 ⟨⟨v, rfl, hv⟩, hx2⟩; have HV : Hid _ := hv; obtain ⟨a, cap, rfl, h1, h2, h3, -⟩ := id hv; clear hv))
  go_loopw [4, 5] (fun v i wr => ∃ k : Nat, k ≤ L.length - 1 ∧ i = .int .i64 ((k + 1 : Nat) : Int) ∧ wr.ownsRow w2.heap.size 9 1 v k ((parentsN L k).map S8) ∧ Ext w2 wr) (fun _ i _ => L.length - (intOf i).toNat)
  case atStart => exact ⟨0, Nat.zero_le _, rfl, World.ownsRow_nil _ _ _ _, Ext.refl _⟩
  case round =>
    obtain ⟨k, hk, rfl, hown, hx⟩ := hrel
    have hsz := hx.size
    by_cases hlt : k + 1 < L.length
    · have i0 : (0 : Int) ≤ ((k + 1 : Nat) : Int) := by omega
      have i1 : ((k + 1 : Nat) : Int) ≤ (cap : Int) := by omega
      go_wp2_with (first
        | (go_at_call 185; go_must (refine (join_any _ (L.take (k + 1)) [47] _ (IsStrs.take (IsStrs.ext HV.out hx) (by omega)) (HJ.out _)).mono ?_; rintro e' w3 ⟨rfl, hx3⟩; have hown3 := owns_ext hown hx3; have hsz3 := hx3.size))
        | (at_builtin; go_must (refine app_str rfl _ _ rfl w2.heap.size _ k _ rfl (hown3.alloc _) w3.heap.size 1 1 [Lib.join (L.take (k + 1)) [47]] rfl rfl (alloc_at _ _) (by omega) (by simp; omega) ?_; intro v' w4 hown4 hg4)))
      go_roundw
      case rel => exact ⟨k + 1, by omega, by go_num, by rw [parentsN_succ]; exact hown4, owns_ext_app ((hx.trans hx3).alloc _) (hown3.alloc _) hg4⟩
      case measure => simp [intOf]; omega
    · have hkk : k = L.length - 1 := by omega
      have hres : IsStrs wr u4 (parentsL l) := by
        rw [HP.out, ← hkk]
        unfold IsStrs
        rw [parentsN_length]
        exact Row.of_owns hown (by omega)
      have HR : Hid _ := hres
      have hno : ¬ ((k + 1 : Nat) : Int) < (L.length : Int) := by omega
      clear hres hown hkk
      go_wp2
      go_ret
      exact ⟨⟨_, rfl, HR.out⟩, hx2.trans hx⟩

/-- May a file stand at a path, as the program asks? -/
def mayP (l : Files) (path but : B8) : Bool := !((parentsL path).any fun p => (look l p).isSome && !(p == but)) && !(dirB l path but)

end Go.Proofs.YtfgdmlmfgnhpaaaGreatDoor

/-! Patterns of paths, in plain Lean: the program's way and the document's say the same. No conditions. -/
namespace Go.Proofs.YtfgdmlmfgnhpaaaGreatDoor
open Go Go.RowKit

/-- A pattern without a sign for directories behind it. -/
def patS (p : B8) : B8 := Lib.trimSuffix p [47]
def patB (p : B8) : Bool := nameB (patS p) && (decide ((patS p).count 42 = 0) || (decide ((patS p).count 42 = 1) && (decide (1 < (patS p).length) && (decide ((patS p).head? = some 42) || decide ((patS p).getLast? = some 42)))))
def takesB (p s : B8) : Bool := if ([42] : B8).isPrefixOf p = true then (p.drop 1).isSuffixOf s else if ([42] : B8).isSuffixOf p = true then (p.take (p.length - 1)).isPrefixOf s else p == s
def patD (p : B8) : Bool := ([47] : B8).isSuffixOf p
/-- Does a pattern take one of a path's names? -/
def hitL (rest : B8) (dir : Bool) (l : List B8) : Bool := (l.zipIdx).any fun x => takesB rest x.1 && !(dir && decide (x.2 + 1 = l.length))
def ign1 (l : List B8) (p : B8) : Bool := patB p && hitL (patS p) (patD p) l
def ignB (pats : List B8) (s : B8) : Bool := pats.any (ign1 (splitL s))

/-! ### The document's way -/
def pat2 : List B8 → Option (B8 × Bool × B8)
  | [x] => some (x, false, [])
  | [a, b] => if (a ≠ [] ∧ b ≠ []) ∨ a ++ b = [] then none else some (a, true, b)
  | _ => none
def patR (p : B8) : Option (B8 × Bool × B8) := if nameB (patS p) = true then pat2 (cut 42 (patS p)) else none
def takesR (x : B8 × Bool × B8) (s : B8) : Bool := if x.2.1 = true then decide (x.1.length + x.2.2.length ≤ s.length) && ((s.take x.1.length == x.1) && (s.drop (s.length - x.2.2.length) == x.2.2)) else s == x.1
end Go.Proofs.YtfgdmlmfgnhpaaaGreatDoor
