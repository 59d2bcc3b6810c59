/- wire: merge, Sort, Unique. Conditions: lists of at most 1000000 texts. -/
import Derived.Test.YtalpfoomkhhgnaaGreatDoorZae
import Derived.Deep.MidRow
import Derived.Test.YtalpfoomkhhgnaaGreatDoorZad
import Derived.Defers
import Derived.Laws.Pointers
import Derived.Laws.LoneSync
import Derived.RegionCalls
import Derived.ChangeAlike
import Derived.Laws.NewBlocks
import Derived.Deep.DeepCutAuto
import Derived.Test.YtalpfoomkhhgnaaGreatDoorZab
import Derived.Deep.Upon
import Derived.OwnWalk
import Derived.BigQuiet

set_option linter.unusedVariables false
set_option linter.unusedSimpArgs false

/-! sha.Hasher.mix: a block is taken. Conditions: as each theorem states. -/
namespace Go.Proofs.YtalpfoomkhhgnaaGreatDoor
open Go Go.RowKit

/-- A hasher's cells; the constants' cells. -/
def hCells (cb : Nat) (st : List UInt32) (rest : Value) (n : Int) : Array Value := ((.pointer (some ⟨cb, 0, none⟩)) :: (st.map U32 ++ [rest, .int .i64 n])).toArray
def kCells (o : List Value) : Array Value := (o ++ (shaH.map U32 ++ shaK.map U32)).toArray
theorem list8 {l : List UInt32} (h : l.length = 8) : ∃ a0 a1 a2 a3 a4 a5 a6 a7, l = [a0, a1, a2, a3, a4, a5, a6, a7] := by
  match l, h with
  | [a0, a1, a2, a3, a4, a5, a6, a7], _ => exact ⟨a0, a1, a2, a3, a4, a5, a6, a7, rfl⟩

/-- What the rounds hold. -/
structure MixR (w wr : World) (gw gs : Nat) (V : Array Value) (st W : List UInt32) (k : Nat) (c : List UInt32) : Prop where
  ext : Ext w wr
  now : wr.heap[gw]? = some (.cells V 159 (0, 0))
  cur : wr.heap[gs]? = some (.cells (c.map U32).toArray 146 (0, 0))
  eq : rnds st W k = c
  low : w.heap.size ≤ gw ∧ gw < gs
theorem MixR.more {w wr w2 : World} {gw gs : Nat} {V : Array Value} {st W : List UInt32} {k : Nat} {c : List UInt32} (h : MixR w wr gw gs V st W k c) (hx : Ext wr w2) : MixR w w2 gw gs V st W k c :=
  ⟨h.ext.trans hx, Ext.row hx h.now, Ext.row hx h.cur, h.eq, h.low⟩
theorem MixR.put {w wr w2 : World} {gw gs : Nat} {V : Array Value} {st W : List UInt32} {k : Nat} {c new : List UInt32} (h : MixR w wr gw gs V st W k c) (hg : w2.heap[gs]? = some (.cells (new.map U32).toArray 146 (0, 0))) (hgr : wr.grownBy w2 (some gs)) (he : rnd c (shaK.getD k 0) (W.getD k 0) = new) : MixR w w2 gw gs V st W (k + 1) new :=
  ⟨Below.grown h.ext hgr h.ext.size (fun j hj => by cases hj; have := h.low; omega), (hgr.block _ (Array.getElem?_eq_some_iff.1 h.now).1 (by have := h.low; simp; omega)).trans h.now, hg, by show rnd (rnds st W k) _ _ = _; rw [h.eq]; exact he, h.low⟩

def partM (st fin : List UInt32) (k : Nat) : List UInt32 := (List.zipWith (· + ·) st fin).take k ++ st.drop k
theorem partM_len {st fin : List UInt32} {k : Nat} (hs : st.length = 8) (hf : fin.length = 8) (hk : k ≤ 8) : (partM st fin k).length = 8 := by
  unfold partM
  simp [hs, hf]
  omega
theorem partM_get {st fin : List UInt32} {k : Nat} (hs : st.length = 8) (hf : fin.length = 8) (hk : k < 8) : (partM st fin k).getD k 0 = st.getD k 0 := by
  unfold partM
  rw [List.getD_eq_getElem?_getD, List.getElem?_append_right (by simp [hs, hf]; omega), List.getD_eq_getElem?_getD]
  simp [hs, hf, show min k 8 = k by omega]
theorem partM_set {st fin : List UInt32} {k : Nat} (hs : st.length = 8) (hf : fin.length = 8) (hk : k < 8) : partM st fin (k + 1) = (partM st fin k).set k (st.getD k 0 + fin.getD k 0) := by
  obtain ⟨i0, i1, i2, i3, i4, i5, i6, i7, rfl⟩ := list8 hs
  obtain ⟨j0, j1, j2, j3, j4, j5, j6, j7, rfl⟩ := list8 hf
  match k, hk with
  | 0, _ => rfl
  | 1, _ => rfl
  | 2, _ => rfl
  | 3, _ => rfl
  | 4, _ => rfl
  | 5, _ => rfl
  | 6, _ => rfl
  | 7, _ => rfl
structure Mix2 (w wr : World) (hb cb : Nat) (st fin : List UInt32) (rest : Value) (n : Int) (k : Nat) : Prop where
  fr : Fr (fun j => j = hb) w wr
  cells : wr.heap[hb]? = some (.cells (hCells cb (partM st fin k) rest n) 164 (0, 0))
end Go.Proofs.YtalpfoomkhhgnaaGreatDoor

/-! sha.Hasher.Write: a piece is taken. Conditions: at most 10000000 bytes. -/
namespace Go.Proofs.YtalpfoomkhhgnaaGreatDoor
open Go Go.RowKit
set_option linter.unusedVariables false
set_option linter.unusedSimpArgs false
set_option linter.unusedSectionVars false

theorem hCells_9 {cb : Nat} {st : List UInt32} {rest : Value} {n : Int} (h : st.length = 8) : (hCells cb st rest n)[9]? = some rest ∧ (hCells cb st rest n)[10]? = some (Value.int .i64 n) := by
  obtain ⟨i0, i1, i2, i3, i4, i5, i6, i7, rfl⟩ := list8 h
  exact ⟨rfl, rfl⟩
/-- What Write's loop holds. -/
structure Wr (w wr : World) (hb cb : Nat) (goal : List UInt32 × B8) (n : Int) (st : List UInt32) (rv : Value) (r : B8) : Prop where
  fr : Fr (fun k => k = hb) w wr
  hst : st.length = 8
  cells : wr.heap[hb]? = some (.cells (hCells cb st rv n) 164 (0, 0))
  bytes : IsBytes wr rv r
  typ : TypB wr rv
  len : r.length ≤ 20000000
  goal : absorb st r = goal
/-- How long the hasher's rest is. -/
def restLen (w : World) (hb : Nat) : Nat := match w.cell? ⟨hb, 9, none⟩ with
  | some (.slice _ n _) => n
  | _ => 0
theorem Wr.restLen {w wr : World} {hb cb : Nat} {goal : List UInt32 × B8} {n : Int} {st : List UInt32} {rv : Value} {r : B8} (h : Wr w wr hb cb goal n st rv r) : restLen wr hb = r.length := by
  obtain ⟨a, cap, rfl, -⟩ := id h.bytes
  unfold Go.Proofs.YtalpfoomkhhgnaaGreatDoor.restLen
  rw [(cell_of_row _ _ 9 _ _ _ h.cells).trans (hCells_9 h.hst).1]

end Go.Proofs.YtalpfoomkhhgnaaGreatDoor

/-! sha.Hasher.Copy. Conditions: at most 10000000 bytes. -/
namespace Go.Proofs.YtalpfoomkhhgnaaGreatDoor
open Go Go.RowKit
set_option linter.unusedVariables false
set_option linter.unusedSimpArgs false
set_option linter.unusedSectionVars false

end Go.Proofs.YtalpfoomkhhgnaaGreatDoor

/-! sha.Hasher.Sum. Conditions: at most 10000000 bytes. -/
namespace Go.Proofs.YtalpfoomkhhgnaaGreatDoor
open Go Go.RowKit
set_option linter.unusedVariables false
set_option linter.unusedSimpArgs false
set_option linter.unusedSectionVars false

def slLen : Value → Nat
  | .slice _ n _ => n
  | _ => 0
theorem padZ_lt (n : Nat) : padZ n < 64 := by unfold padZ; omega
theorem padZ_at {n k : Nat} (hk : k ≤ padZ n) : (n + (1 + k)) % 64 = 56 ↔ k = padZ n := by
  unfold padZ at hk ⊢
  omega

/-- Sum's piece, so far. -/
def padL (n k : Nat) : B8 := 128 :: List.replicate (padZ n) 0 ++ (be8 (8 * n)).take k
theorem padL_full (n : Nat) : padL n 8 = padM n := rfl
theorem padL_snoc (n : Nat) {k : Nat} (h : k < 8) : padL n (k + 1) = padL n k ++ [UInt8.ofNat (8 * n / 2 ^ (56 - 8 * k))] := by
  unfold padL
  rw [List.append_assoc]
  congr 1
  rcases (by omega : k = 0 ∨ k = 1 ∨ k = 2 ∨ k = 3 ∨ k = 4 ∨ k = 5 ∨ k = 6 ∨ k = 7) with rfl | rfl | rfl | rfl | rfl | rfl | rfl | rfl <;> rfl
theorem padL_len (n : Nat) {k : Nat} (h : k ≤ 8) : (padL n k).length = 1 + padZ n + k := by
  unfold padL
  rw [List.length_append, List.length_cons, List.length_replicate, List.length_take, show (be8 (8 * n)).length = 8 from rfl]
  omega

end Go.Proofs.YtalpfoomkhhgnaaGreatDoor

/-! sync.Once in a block of its own; sha.New. Conditions: one goroutine. -/
namespace Go.Proofs.YtalpfoomkhhgnaaGreatDoor
open Go Go.RowKit
set_option linter.unusedVariables false
set_option linter.unusedSimpArgs false
set_option linter.unusedSectionVars false

/-- The roots of the primes stand where the program laid them. -/
structure EnvS (w : World) : Prop where
  sq : ∃ fr, w.heap[0]? = some (.cells (shaH.map U32).toArray 146 fr)
  cu : ∃ fr, w.heap[1]? = some (.cells (shaK.map U32).toArray 159 fr)
theorem EnvS.fr {O : Nat → Prop} {w w' : World} (h : EnvS w) (hf : Fr O w w') (ho : ∀ k, O k → 2 ≤ k) : EnvS w' := by
  obtain ⟨f0, h0⟩ := h.sq
  obtain ⟨f1, h1⟩ := h.cu
  exact ⟨⟨f0, hf.row h0 (fun hh => by have := ho _ hh; revert this; decide)⟩, ⟨f1, hf.row h1 (fun hh => by have := ho _ hh; revert this; decide)⟩⟩
theorem EnvS.ext {w w' : World} (h : EnvS w) (hx : Ext w w') : EnvS w' := h.fr (O := fun _ => False) (Fr.of_ext hx) (fun _ hh => hh.elim)
theorem EnvS.two {w : World} (h : EnvS w) : 2 ≤ w.heap.size := by
  obtain ⟨f1, h1⟩ := h.cu
  obtain ⟨f0, h0⟩ := h.sq
  have g1 := (Array.getElem?_eq_some_iff.1 h1).1
  have g0 := (Array.getElem?_eq_some_iff.1 h0).1
  omega
/-- A Once's own cells; a constants' block that is not yet filled, or is. -/
def oCells (d m s : Int) : List Value := [.int .u32 d, .int .i32 m, .int .u32 s]
def eCells (o X : List Value) : Array Value := (o ++ X).toArray

end Go.Proofs.YtalpfoomkhhgnaaGreatDoor

/-! sha.New, Sum, ID. Conditions: at most 100000 bytes; the roots of the primes as laid. -/
namespace Go.Proofs.YtalpfoomkhhgnaaGreatDoor
open Go Go.RowKit
set_option linter.unusedVariables false
set_option linter.unusedSimpArgs false
set_option linter.unusedSectionVars false

def zX : List Value := List.replicate 72 (.int .u32 0)

end Go.Proofs.YtalpfoomkhhgnaaGreatDoor

/-! obj: what may be. Conditions: as each theorem states. -/
namespace Go.Proofs.YtalpfoomkhhgnaaGreatDoor
open Go Go.RowKit Go.Sort
set_option linter.unusedVariables false
set_option linter.unusedSimpArgs false
set_option linter.unusedSectionVars false

def okC (c : UInt8) : Bool := decide (32 ≤ c.toNat) && decide (c.toNat ≤ 126)
/-! ### Parents -/
/-- What was read so far is fine: hashes that rise. -/
def parT (l : List B8) (k : Nat) : Bool := (l.take k).all validB && risesB (l.take k)
theorem leT_cases (x y : B8) : (ltB y x = true ∧ Op.bytesLess x y = false ∧ (x == y) = false) ∨ (ltB y x = false ∧ Op.bytesLess x y = true) ∨ (ltB y x = false ∧ Op.bytesLess x y = false ∧ (x == y) = true) := by
  rw [less_ltB]
  cases h1 : ltB y x with
  | true =>
    refine .inl ⟨rfl, ltB_asymm h1, ?_⟩
    rw [beq_eq_false_iff_ne]
    exact fun e => (ltB_ne h1) e.symm
  | false =>
    by_cases he : x = y
    · subst he
      exact .inr (.inr ⟨rfl, by rw [h1], by simp⟩)
    · exact .inr (.inl ⟨rfl, ltB_total h1 (fun e => he e.symm)⟩)
/-! ### An object as a value -/
def itC (x : Itm) : List Value := [.int .i64 x.mode, S8 x.name, S8 x.id]
/-- The slice holds these rows. -/
def IsItms (w : World) (v : Value) (l : List Itm) : Prop := Row w v l.length (l.flatMap itC)
abbrev obV (o : Ob) (vd vi vp : Value) : Value := .agg #[.int .i64 o.kind, vd, vi, S8 o.tree, vp, .int .i64 o.stamp, .int .i64 o.author, S8 o.msg]
def IsOb (w : World) (v : Value) (o : Ob) : Prop := ∃ vd vi vp, v = obV o vd vi vp ∧ IsBytes w vd o.data ∧ IsItms w vi o.items ∧ IsStrs w vp o.parents
theorem IsItms.ext {w w' : World} {v : Value} {l : List Itm} (h : IsItms w v l) (hx : Ext w w') : IsItms w' v l := Row.ext h hx
theorem IsOb.ext {w w' : World} {v : Value} {o : Ob} (h : IsOb w v o) (hx : Ext w w') : IsOb w' v o := by
  obtain ⟨vd, vi, vp, rfl, h1, h2, h3⟩ := h
  exact ⟨vd, vi, vp, rfl, h1.ext hx, h2.ext hx, h3.ext hx⟩
theorem flat_it : ∀ (l : List Itm) (k : Nat) (x : Itm), l[k]? = some x → (l.flatMap itC)[3 * k]? = some (.int .i64 x.mode) ∧ (l.flatMap itC)[3 * k + 1]? = some (S8 x.name) ∧ (l.flatMap itC)[3 * k + 2]? = some (S8 x.id)
  | [], k, x, h => by simp at h
  | y :: l, 0, x, h => by
    simp only [List.getElem?_cons_zero, Option.some.injEq] at h
    subst h
    exact ⟨rfl, rfl, rfl⟩
  | y :: l, k + 1, x, h => by
    simp only [List.getElem?_cons_succ] at h
    have ih := flat_it l k x h
    rw [List.flatMap_cons]
    have e : itC y = [.int .i64 y.mode, S8 y.name, S8 y.id] := rfl
    rw [e, show 3 * (k + 1) = 3 * k + 1 + 1 + 1 by omega]
    exact ih
theorem IsItms.get {w : World} {v : Value} {l : List Itm} (h : IsItms w v l) : ∃ a c, v = .slice a l.length c ∧ l.length ≤ c ∧ l.length ≤ 140737488355328 ∧ c ≤ 9223372036854775807 ∧
    ∀ k x, l[k]? = some x → ∃ b o, a = some ⟨b, o, none⟩ ∧ w.cell? ⟨b, o + k * 3, none⟩ = some (.int .i64 x.mode) ∧ w.cell? ⟨b, o + k * 3 + 1, none⟩ = some (S8 x.name) ∧ w.cell? ⟨b, o + k * 3 + 2, none⟩ = some (S8 x.id) := by
  obtain ⟨a, c, rfl, h1, h2, h3, h4⟩ := h
  refine ⟨a, c, rfl, h1, h3, h2, fun k x hk => ?_⟩
  obtain ⟨f0, f1, f2⟩ := flat_it l k x hk
  obtain ⟨b, o, rfl, hc⟩ := h4 (by intro e; rw [e] at f0; simp at f0)
  refine ⟨b, o, rfl, ?_, ?_, ?_⟩
  · have := hc _ _ f0; rwa [Nat.mul_comm] at this
  · have := hc _ _ f1; rwa [Nat.mul_comm, ← Nat.add_assoc] at this
  · have := hc _ _ f2; rwa [Nat.mul_comm, ← Nat.add_assoc] at this

end Go.Proofs.YtalpfoomkhhgnaaGreatDoor

/-! marref16.May: what may be a table. Conditions: as each theorem states. -/
namespace Go.Proofs.YtalpfoomkhhgnaaGreatDoor
open Go Go.RowKit Go.Sort
set_option linter.unusedVariables false
set_option linter.unusedSimpArgs false
set_option linter.unusedSectionVars false

theorem r0_no {l : List Rw} {k : Nat} {x : Rw} {r b : Bool} (h : mayR0 l k x = !r) (hb : mayR0 l k x = false) : r = true := by
  rw [hb] at h
  cases r
  · cases h
  · rfl
theorem r0_yes {l : List Rw} {k : Nat} {x : Rw} {r : Bool} (h : mayR0 l k x = !r) (hb : mayR0 l k x = true) : r = false := by
  rw [hb] at h
  cases r
  · rfl
  · cases h
theorem r0_of {l : List Rw} {k : Nat} {x : Rw} {a b c d e : Bool} (ha : pathB (dirW ++ x.path) = a) (hb : decide (1 ≤ x.mode) = b) (hc : decide (x.mode ≤ 3) = c) (hd : validB x.id = d) (he : (decide (k = 0) || ltB (l.getD (k - 1) zRw).path x.path) = e) : mayR0 l k x = (a && (b && (c && (d && e)))) := by
  unfold mayR0
  rw [ha, hb, hc, hd, he]
end Go.Proofs.YtalpfoomkhhgnaaGreatDoor

/-! wire: merge, Sort, Unique. Conditions: lists of at most 1000000 texts. -/
namespace Go.Proofs.YtalpfoomkhhgnaaGreatDoor
open Go Go.RowKit
set_option linter.unusedVariables false
set_option linter.unusedSimpArgs false
set_option linter.unusedSectionVars false

theorem bytesLess_ltB : ∀ a b : B8, Op.bytesLess a b = ltB a b
  | [], [] => by simp [Op.bytesLess, ltB]
  | [], _ :: _ => by simp [Op.bytesLess, ltB]
  | _ :: _, [] => by simp [Op.bytesLess, ltB]
  | a :: r, b :: s => by
    rw [Op.bytesLess, bytesLess_ltB r s]
    unfold ltB
    rw [Bool.eq_iff_iff]
    simp [List.cons_lt_cons_iff]
theorem IsStrs.tail {w : World} {a : Option Addr} {cap : Nat} {l : List B8} (k : Nat) (h : IsStrs w (.slice a l.length cap) l) (hk : k ≤ l.length) :
    ∀ a', (a = none → a' = none) → (cap ≠ k → ∀ b o, a = some ⟨b, o, none⟩ → a' = some ⟨b, o + k, none⟩) → IsStrs w (.slice a' (l.length - k) (cap - k)) (l.drop k) := by
  obtain ⟨a2, cap2, he, h1, h2, h3, h4⟩ := h
  simp only [Value.slice.injEq, true_and] at he
  obtain ⟨rfl, rfl⟩ := he
  intro a' hn hs
  have hlen : (l.drop k).length = l.length - k := List.length_drop
  unfold IsStrs
  rw [hlen]
  refine ⟨a', cap - k, rfl, by omega, by omega, by omega, fun hne => ?_⟩
  have hlt : k < l.length := by
    rcases Nat.lt_or_ge k l.length with h | h
    · exact h
    · rw [List.drop_eq_nil_of_le h] at hne; simp at hne
  obtain ⟨b, o, rfl, hc⟩ := h4 (by intro h0; rw [List.map_eq_nil_iff] at h0; subst h0; simp at hlt)
  refine ⟨b, o + k, hs (by omega) b o rfl, fun i u hu => ?_⟩
  rw [List.getElem?_map, List.getElem?_drop] at hu
  have := hc (k + i) u (by rw [List.getElem?_map]; exact hu)
  rwa [← Nat.add_assoc] at this
theorem IsStrs.head {w : World} {a : Option Addr} {cap : Nat} {l : List B8} (k : Nat) (h : IsStrs w (.slice a l.length cap) l) (hk : k ≤ l.length) : IsStrs w (.slice a k cap) (l.take k) := by
  obtain ⟨a2, cap2, he, h1, h2, h3, h4⟩ := h
  simp only [Value.slice.injEq, true_and] at he
  obtain ⟨rfl, rfl⟩ := he
  have hlen : (l.take k).length = k := by rw [List.length_take]; omega
  unfold IsStrs
  rw [hlen]
  refine ⟨a, cap, rfl, by omega, by omega, by omega, fun hne => ?_⟩
  obtain ⟨b, o, rfl, hc⟩ := h4 (by intro h0; rw [List.map_eq_nil_iff] at h0; subst h0; simp at hne)
  refine ⟨b, o, rfl, fun i u hu => hc i u ?_⟩
  rw [List.getElem?_map, List.getElem?_take] at hu
  split at hu
  · rw [List.getElem?_map]; exact hu
  · cases hu
theorem ltB_irr (a : B8) : ltB a a = false := by
  unfold ltB
  rw [decide_eq_false_iff_not]
  exact List.lt_irrefl a
def cmpI (a b : B8) : Int := if ltB a b = true then -1 else if ltB b a = true then 1 else 0
set_option maxRecDepth 100000 in
theorem compare_any (a b : B8) (w : World) : Calls Tryz.prog 35 #[S8 a, S8 b] w fun e w' => e = .returned (.int .i64 (cmpI a b)) ∧ w' = w := by
  obtain ⟨x, hx⟩ : ∃ x, ltB a b = x := ⟨_, rfl⟩
  have h1 : Op.bytesLess a b = x := by rw [bytesLess_ltB]; exact hx
  cases x with
  | true =>
    have hr : cmpI a b = -1 := by unfold cmpI; rw [hx]; rfl
    rw [hr]
    clear hr hx
    go_enter Tryz.func35, Tryz.ntmps35
    go_wp2
    go_ret
    exact ⟨rfl, rfl⟩
  | false =>
    obtain ⟨y, hy⟩ : ∃ y, ltB b a = y := ⟨_, rfl⟩
    have h2 : (a == b) = !y := by
      cases y with
      | true => simpa using fun e : a = b => by rw [e, ltB_irr] at hy; cases hy
      | false => simpa using leT_anti (a := a) (b := b) (by unfold leT; rw [hy]; rfl) (by unfold leT; rw [hx]; rfl)
    have hr : cmpI a b = if y = true then 1 else 0 := by unfold cmpI; rw [hx, hy]; rfl
    rw [hr]
    clear hr hx hy
    cases y with
    | true =>
      have h3 : (a == b) = false := h2
      clear h2
      go_enter Tryz.func35, Tryz.ntmps35
      go_wp2
      go_ret
      exact ⟨rfl, rfl⟩
    | false =>
      have h3 : (a == b) = true := h2
      clear h2
      go_enter Tryz.func35, Tryz.ntmps35
      go_wp2
      go_ret
      exact ⟨rfl, rfl⟩

def lenV : Value → Nat
  | .slice _ n _ => n
  | _ => 0
set_option maxRecDepth 100000 in
set_option maxHeartbeats 4000000 in
theorem wmerge_any (va vb : Value) (A B : List B8) (w : World) (hA : IsStrs w va A) (hB : IsStrs w vb B) (ua : upL A) (ub : upL B) (hl : A.length + B.length ≤ 2000000) :
    Calls Tryz.prog 86 #[va, vb] w fun e w' => (∃ v, e = .returned v ∧ w'.ownsRow w.heap.size 9 1 v (A.length + B.length) ((sortT (A ++ B)).map S8)) ∧ Ext w w' := by
  obtain ⟨a0, ac, rfl, la1, la2, la3, -⟩ := hA.get
  obtain ⟨b0, bc, rfl, lb1, lb2, lb3, -⟩ := hB.get
  have HA : Hid (IsStrs w (.slice a0 A.length ac) A) := hA
  have HB : Hid (IsStrs w (.slice b0 B.length bc) B) := hB
  have HM : Hid (MInv A B A B []) := MInv.start ua ub
  obtain ⟨i0, hi, hz0, hz1, hz2⟩ := info_parts info_str
  clear hA hB ua ub
  go_enter Tryz.func86, Tryz.ntmps86
  go_wp2_with (at_make; go_must (refine wpList_make_own _ rfl _ _ 33 rfl w.heap.size 9 i0 _ 1 Tryz.underlying33 hi hz0 hz1 _ _ _ (A.length + B.length) rfl rfl (by omega) (by rw [hz2]; omega) (by unfold maxLen; omega) (Nat.le_refl _) ?_; intro w1 hown1 hg1))
  have HX1 : Hid (Ext w w1) := Below.grown (Ext.refl w) hg1 (Nat.le_refl _) (fun k hk => by cases hk)
  clear hg1
  go_loopw [0, 1, 5] (fun xa xb v wr => ∃ (a b C : List B8), Hid (MInv A B a b C) ∧ Hid (IsStrs w xa a) ∧ Hid (IsStrs w xb b) ∧ wr.ownsRow w.heap.size 9 1 v C.length (C.map S8) ∧ Hid (Ext w wr)) (fun xa xb _ _ => lenV xa + lenV xb)
  case atStart => exact ⟨A, B, [], HM, HA, HB, hown1, HX1⟩
  case round =>
  clear hown1
  obtain ⟨a, b, C, HI, HXA, HXB, hown, HX⟩ := hrel
  have hln := HI.out.len
  have HA1 : Hid (IsStrs wr _ a) := IsStrs.ext HXA.out HX.out
  have HB1 : Hid (IsStrs wr _ b) := IsStrs.ext HXB.out HX.out
  obtain ⟨aa, ca, rfl, ka1, ka2, ka3, hga⟩ := HA1.out.get
  obtain ⟨ab, cb, rfl, kb1, kb2, kb3, hgb⟩ := HB1.out.get
  have HGA : Hid _ := hga
  have HGB : Hid _ := hgb
  clear hga hgb
  have hsz := HX.out.size
  cases a with
  | nil =>
    have HF : Hid (C ++ ([] ++ b) = sortT (A ++ B)) := HI.out.swap.fin
    have hcl : C.length + 0 + b.length = A.length + B.length := by simpa using hln
    clear HGA HGB
    go_wp2_with first | (at_builtin; (have hq9 := HB4.out); go_must (refine appS_op _ _ _ 1 16 Tryz.underlying33 info_str rfl (by omega) rfl (.tmp 40) (.tmp 41) rfl rfl w.heap.size _ _ _ rfl hown4 _ b.length (b.map S8) rfl HB4.out (by simp) (by intro u hu; first | (obtain ⟨_, _, rfl⟩ := List.mem_map.1 hu; rfl) | cases hu) (by omega) (by omega) hsz4 ?_; intro v5 w5 hown5 hg5; have hx5 : Ext w w5 := owns_ext_app hx4 hown4 hg5)) | (at_builtin; go_must (refine appS_op _ _ _ 1 16 Tryz.underlying33 info_str rfl (by omega) rfl (.tmp 38) (.tmp 39) rfl rfl w.heap.size _ C.length (C.map S8) rfl hown _ 0 [] rfl HA1.out (by simp) (by intro u hu; first | (obtain ⟨_, _, rfl⟩ := List.mem_map.1 hu; rfl) | cases hu) (by omega) (by omega) hsz ?_; intro v4 w4 hown4 hg4; have hx4 : Ext w w4 := owns_ext_app HX.out hown hg4; have hsz4 := hx4.size; have HB4 : Hid (IsStrs w4 _ _) := IsStrs.ext HXB.out hx4))
    go_ret
    refine ⟨⟨_, rfl, ?_⟩, hx5⟩
    rw [← HF.out]
    have h9 := hown5
    rw [hcl] at h9
    simpa using h9
  | cons x a =>
    cases b with
    | nil =>
      have HF : Hid (C ++ ((x :: a) ++ []) = sortT (A ++ B)) := by have h9 := HI.out.fin; unfold Hid; rw [List.append_nil]; exact h9
      have hcl : C.length + (a.length + 1) + 0 = A.length + B.length := by simpa using hln
      clear HGA HGB
      go_wp2_with first | (at_builtin; (have hq9 := HB4.out); go_must (refine appS_op _ _ _ 1 16 Tryz.underlying33 info_str rfl (by omega) rfl (.tmp 40) (.tmp 41) rfl rfl w.heap.size _ _ _ rfl hown4 _ 0 [] rfl HB4.out (by simp) (by intro u hu; first | (obtain ⟨_, _, rfl⟩ := List.mem_map.1 hu; rfl) | cases hu) (by omega) (by omega) hsz4 ?_; intro v5 w5 hown5 hg5; have hx5 : Ext w w5 := owns_ext_app hx4 hown4 hg5)) | (at_builtin; go_must (refine appS_op _ _ _ 1 16 Tryz.underlying33 info_str rfl (by omega) rfl (.tmp 38) (.tmp 39) rfl rfl w.heap.size _ C.length (C.map S8) rfl hown _ (a.length + 1) ((x :: a).map S8) rfl HA1.out (by simp) (by intro u hu; first | (obtain ⟨_, _, rfl⟩ := List.mem_map.1 hu; rfl) | cases hu) (by omega) (by omega) hsz ?_; intro v4 w4 hown4 hg4; have hx4 : Ext w w4 := owns_ext_app HX.out hown hg4; have hsz4 := hx4.size; have HB4 : Hid (IsStrs w4 _ _) := IsStrs.ext HXB.out hx4))
      go_ret
      refine ⟨⟨_, rfl, ?_⟩, hx5⟩
      rw [← HF.out]
      have h9 := hown5
      rw [hcl] at h9
      simpa using h9
    | cons y b =>
      obtain ⟨ba, oa, rfl, hca⟩ := HGA.out 0 (by simp)
      obtain ⟨bb, ob, rfl, hcb⟩ := HGB.out 0 (by simp)
      have y1 : wr.cell? ⟨ba, oa, none⟩ = some (S8 x) := hca 0 (by simp)
      have y2 : wr.cell? ⟨bb, ob, none⟩ = some (S8 y) := hcb 0 (by simp)
      clear hca hcb HGA HGB HA1 HB1
      simp only [List.length_cons] at hln ka1 ka2 kb1 kb2
      obtain ⟨c, hc⟩ : ∃ c, cmpI y x = c := ⟨_, rfl⟩
      have HC : Hid _ := hc
      cases hq : ltB y x with
      | false =>
        have HQ : Hid (MInv A B a (y :: b) (C ++ [x])) := HI.out.step hq
        have hcn : ¬ c < 0 := by
          rw [← hc]
          unfold cmpI
          rw [hq]
          cases ltB x y <;> simp
        clear hc hq
        go_upto_region 3 with fail
        apply wp_region_mix 8 [_, _, S8 y, _, _, S8 x, .int .i64 c, .bool false] [none, none, none, none, none, none, none, none] [[], [0], [1], [], [3], [4], [2, 5], [6]] (by kernel_rfl) (by kernel_rfl) (by simp [mixV])
        · trivial
        · simp (maxSteps := 1000000) only [List.take_succ_cons, List.take_zero, oblFrom, stepObl, fillFrom, Act.put, List.setIfInBounds_toArray, List.set_cons_zero, List.set_cons_succ, knows, getV, mixV, List.getD_cons_zero, List.getD_cons_succ, and_true, true_and, forall_const]
          refine ⟨?_, ?_, ?_, ?_, ?_, ?_, ?_, ?_⟩
          · intro xs wq hq R hR
            have f1 := hq.cell y1; have f2 := hq.cell y2
            go_simp
            exact hR _ _ (Ext.refl _) rfl
          · intro xs wq hq hk R hR
            have f1 := hq.cell y1; have f2 := hq.cell y2
            go_simp
            exact hR _ _ (Ext.refl _) rfl
          · intro xs wq hq hk R hR
            have f1 := hq.cell y1; have f2 := hq.cell y2
            go_simp
            exact hR _ _ (Ext.refl _) rfl
          · intro xs wq hq R hR
            have f1 := hq.cell y1; have f2 := hq.cell y2
            go_simp
            exact hR _ _ (Ext.refl _) rfl
          · intro xs wq hq hk R hR
            have f1 := hq.cell y1; have f2 := hq.cell y2
            go_simp
            exact hR _ _ (Ext.refl _) rfl
          · intro xs wq hq hk R hR
            have f1 := hq.cell y1; have f2 := hq.cell y2
            go_simp
            exact hR _ _ (Ext.refl _) rfl
          · intro xs wq hq hk R hR
            obtain ⟨hk0, hk1⟩ := hk
            go_simp
            exact (compare_any y x _).mono (by rw [HC.out]; rintro e' w4 ⟨rfl, rfl⟩; exact ⟨_, rfl, hR _ _ (Ext.refl _) rfl⟩)
          · intro xs wq hq hk R hR
            have f1 := hq.cell y1; have f2 := hq.cell y2
            go_simp
            exact hR _ _ (Ext.refl _) rfl
        intro xs w2 hx2 hk
        simp only [heldV, Nat.zero_add, Nat.reduceAdd, and_true] at hk
        obtain ⟨q0, q1, q2, q3, q4, q5, q6, q7⟩ := hk
        simp (maxSteps := 1000000) only [List.take_succ_cons, List.take_zero, List.drop_succ_cons, List.drop_zero, fillFrom, Act.put, List.setIfInBounds_toArray, List.set_cons_zero, List.set_cons_succ, Nat.zero_add, Nat.reduceAdd, q0, q1, q2, q3, q4, q5, q6, q7]
        clear q0 q1 q2 q3 q4 q5 q6 q7
        have y3 := hx2.cell y1
        have hown2 := owns_ext hown hx2
        have hsz2 := hx2.size
        have HX2 : Hid (Ext w w2) := HX.out.trans hx2
        have HT : Hid (IsStrs w (.slice (if ca = 1 then some ⟨ba, oa, none⟩ else some ⟨ba, oa + 1, none⟩) a.length (ca - 1)) a) := IsStrs.tail (l := x :: a) 1 HXA.out (by simp) (if ca = 1 then some ⟨ba, oa, none⟩ else some ⟨ba, oa + 1, none⟩) (fun h => by cases h) (fun h b o e => by rw [if_neg h]; cases e; rfl)
        clear hx2 y1 y2
        go_wp2_with (at_builtin; go_must (refine app_str rfl _ _ rfl w.heap.size _ C.length _ rfl (hown2.alloc _) w2.heap.size 1 1 [x] rfl rfl (alloc_at _ _) (by omega) (by simp; omega) ?_; intro v' w3 hown3 hg3))
        go_roundw
        case rel => exact ⟨a, y :: b, C ++ [x], HQ, HT, HXB, by rw [List.length_append]; exact hown3, owns_ext_app (HX2.out.alloc _) (hown2.alloc _) hg3⟩
        case measure => simp [lenV]
      | true =>
        have hxy : ltB x y = false := by
          cases h9 : ltB x y with
          | false => rfl
          | true =>
            have := ltB_trans hq h9
            rw [ltB_irr] at this
            cases this
        have HQ : Hid (MInv A B b (x :: a) (C ++ [y])) := HI.out.swap.step hxy
        have hcn : c < 0 := by
          rw [← hc]
          unfold cmpI
          rw [hxy, hq]
          decide
        clear hc hq hxy
        go_upto_region 3 with fail
        apply wp_region_mix 8 [_, _, S8 y, _, _, S8 x, .int .i64 c, .bool true] [none, none, none, none, none, none, none, none] [[], [0], [1], [], [3], [4], [2, 5], [6]] (by kernel_rfl) (by kernel_rfl) (by simp [mixV])
        · trivial
        · simp (maxSteps := 1000000) only [List.take_succ_cons, List.take_zero, oblFrom, stepObl, fillFrom, Act.put, List.setIfInBounds_toArray, List.set_cons_zero, List.set_cons_succ, knows, getV, mixV, List.getD_cons_zero, List.getD_cons_succ, and_true, true_and, forall_const]
          refine ⟨?_, ?_, ?_, ?_, ?_, ?_, ?_, ?_⟩
          · intro xs wq hq R hR
            have f1 := hq.cell y1; have f2 := hq.cell y2
            go_simp
            exact hR _ _ (Ext.refl _) rfl
          · intro xs wq hq hk R hR
            have f1 := hq.cell y1; have f2 := hq.cell y2
            go_simp
            exact hR _ _ (Ext.refl _) rfl
          · intro xs wq hq hk R hR
            have f1 := hq.cell y1; have f2 := hq.cell y2
            go_simp
            exact hR _ _ (Ext.refl _) rfl
          · intro xs wq hq R hR
            have f1 := hq.cell y1; have f2 := hq.cell y2
            go_simp
            exact hR _ _ (Ext.refl _) rfl
          · intro xs wq hq hk R hR
            have f1 := hq.cell y1; have f2 := hq.cell y2
            go_simp
            exact hR _ _ (Ext.refl _) rfl
          · intro xs wq hq hk R hR
            have f1 := hq.cell y1; have f2 := hq.cell y2
            go_simp
            exact hR _ _ (Ext.refl _) rfl
          · intro xs wq hq hk R hR
            obtain ⟨hk0, hk1⟩ := hk
            go_simp
            exact (compare_any y x _).mono (by rw [HC.out]; rintro e' w4 ⟨rfl, rfl⟩; exact ⟨_, rfl, hR _ _ (Ext.refl _) rfl⟩)
          · intro xs wq hq hk R hR
            have f1 := hq.cell y1; have f2 := hq.cell y2
            go_simp
            exact hR _ _ (Ext.refl _) rfl
        intro xs w2 hx2 hk
        simp only [heldV, Nat.zero_add, Nat.reduceAdd, and_true] at hk
        obtain ⟨q0, q1, q2, q3, q4, q5, q6, q7⟩ := hk
        simp (maxSteps := 1000000) only [List.take_succ_cons, List.take_zero, List.drop_succ_cons, List.drop_zero, fillFrom, Act.put, List.setIfInBounds_toArray, List.set_cons_zero, List.set_cons_succ, Nat.zero_add, Nat.reduceAdd, q0, q1, q2, q3, q4, q5, q6, q7]
        clear q0 q1 q2 q3 q4 q5 q6 q7
        have y3 := hx2.cell y2
        have hown2 := owns_ext hown hx2
        have hsz2 := hx2.size
        have HX2 : Hid (Ext w w2) := HX.out.trans hx2
        have HT : Hid (IsStrs w (.slice (if cb = 1 then some ⟨bb, ob, none⟩ else some ⟨bb, ob + 1, none⟩) b.length (cb - 1)) b) := IsStrs.tail (l := y :: b) 1 HXB.out (by simp) (if cb = 1 then some ⟨bb, ob, none⟩ else some ⟨bb, ob + 1, none⟩) (fun h => by cases h) (fun h b o e => by rw [if_neg h]; cases e; rfl)
        clear hx2 y1 y2
        go_wp2_with (at_builtin; go_must (refine app_str rfl _ _ rfl w.heap.size _ C.length _ rfl (hown2.alloc _) w2.heap.size 1 1 [y] rfl rfl (alloc_at _ _) (by omega) (by simp; omega) ?_; intro v' w3 hown3 hg3))
        go_roundw
        case rel => exact ⟨b, x :: a, C ++ [y], HQ, HT, HXA, by rw [List.length_append]; exact hown3, owns_ext_app (HX2.out.alloc _) (hown2.alloc _) hg3⟩
        case measure => simp [lenV]; omega

end Go.Proofs.YtalpfoomkhhgnaaGreatDoor
