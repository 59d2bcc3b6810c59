/- What the contracts of this seat speak of: rows of cells, texts, lists of texts; a world in which the library's variables lie; the library's contracts in one form. Conditions: as each theorem states. -/
import Derived.Test.YthfkohppillflaaDoorRg
import Derived.Test.YthfkohppillflaaDoorShelf
import Derived.WalkSpells
import Derived.WalkLawsBesides
import Derived.Lib.Hide
import Derived.Lib.SmallJoins
import Derived.Deep.QuietTactic
import Derived.BigQuiet
namespace Go.Proofs.YthfkohppillflaaDoor
open Go Go.RowKit

abbrev B8 := List UInt8
/-- A text as a value. -/
abbrev S8 (l : B8) : Value := .string ⟨l.toArray⟩

theorem ret_b {a b : Bool} (h : a = b) : Ending.returned (.bool a) = .returned (.bool b) := by rw [h]
theorem ret_i {k : IntKind} {a b : Int} (h : a = b) : Ending.returned (.int k a) = .returned (.int k b) := by rw [h]
theorem ret_s {a b : B8} (h : a = b) : Ending.returned (S8 a) = .returned (S8 b) := by rw [h]

/-! ### Worlds that go on -/
theorem Ext.refl (w : World) : Ext w w := Below.refl _ _
theorem Ext.drew {a w : World} (h : Ext a w) : Ext a w.drew := Below.drew h
theorem Ext.alloc {a w : World} (h : Ext a w) (o : Obj) : Ext a (w.alloc o) := Below.alloc h h.size o
theorem Ext.grown {w w' : World} (h : Ext w w') : w.grownBy w' none := ⟨h.os, h.tape, h.output, h.size, fun k hk _ => h.block k hk⟩
theorem Ext.cell {w w' : World} (h : Ext w w') {a : Addr} {v : Value} (hc : w.cell? a = some v) : w'.cell? a = some v := cell_later h hc
theorem Ext.of_grow {w : World} (k : Nat) (os : Array Obj) : Ext w (Go.Sort.grow (w.drewN k) os) := by
  refine ⟨rfl, rfl, rfl, by simp [Go.Sort.grow, World.drewN], fun i hi => ?_⟩
  have : i < (w.drewN k).heap.size := hi
  show ((w.drewN k).heap ++ os)[i]? = _
  rw [Array.getElem?_append_left this]
  rfl

theorem alloc_at (w : World) (o : Obj) : (w.alloc o).heap[w.heap.size]? = some o := by
  show (w.heap.push o)[w.heap.size]? = some o
  simp

/-! ### Rows of cells -/
/-- The slice v has n elements, whose cells hold cs. -/
def Row (w : World) (v : Value) (n : Nat) (cs : List Value) : Prop :=
  ∃ a cap, v = .slice a n cap ∧ n ≤ cap ∧ cap ≤ 9223372036854775807 ∧ n ≤ 140737488355328 ∧ (cs ≠ [] → ∃ b o, a = some ⟨b, o, none⟩ ∧ ∀ i u, cs[i]? = some u → w.cell? ⟨b, o + i, none⟩ = some u)

theorem Row.ext {w w' : World} {v : Value} {n : Nat} {cs : List Value} (h : Row w v n cs) (he : Ext w w') : Row w' v n cs := by
  obtain ⟨a, cap, hv, h1, h2, h3, h4⟩ := h
  refine ⟨a, cap, hv, h1, h2, h3, fun hn => ?_⟩
  obtain ⟨b, o, ha, hc⟩ := h4 hn
  exact ⟨b, o, ha, fun i u hu => he.cell (hc i u hu)⟩

theorem Row.nil (w : World) : Row w (.slice none 0 0) 0 [] := ⟨none, 0, rfl, Nat.le_refl _, by omega, by omega, fun h => absurd rfl h⟩

theorem Row.len {w : World} {v : Value} {n : Nat} {cs : List Value} (h : Row w v n cs) : n ≤ 140737488355328 := by
  obtain ⟨_, _, _, _, _, h3, _⟩ := h
  exact h3

theorem Row.of_owns {w : World} {base : Nat} {e : TypeId} {size : Nat} {v : Value} {n : Nat} {xs : List Value} (h : w.ownsRow base e size v n xs) (hn : n ≤ 140737488355328) : Row w v n xs := by
  obtain ⟨hl, ⟨rfl, rfl⟩ | ⟨g, cap, cur, rfl, _, hg, hc, hm, hs, hx⟩⟩ := h
  · have : xs = [] := List.eq_nil_of_length_eq_zero (by simpa using hl)
    subst this
    exact Row.nil w
  · refine ⟨_, cap, rfl, hc, by unfold maxLen at hm; omega, hn, fun _ => ⟨g, 0, rfl, fun i u hu => ?_⟩⟩
    subst hx
    have hi := (List.getElem?_eq_some_iff.1 hu).1
    simp only [List.length_take, Array.length_toList] at hi
    rw [List.getElem?_take_of_lt (by omega)] at hu
    simpa [World.cell?, hg] using hu

theorem owns_ext {w w' : World} {base : Nat} {e : TypeId} {size : Nat} {v : Value} {n : Nat} {xs : List Value} (h : w.ownsRow base e size v n xs) (he : Ext w w') : w'.ownsRow base e size v n xs :=
  h.kept he.grown (by cases hv : v.ownBlock with | none => exact .inl rfl | some g => exact .inr (by simp))

/-- A new block of one row. -/
theorem Row.new {w : World} {n : Nat} {cs : Array Value} {t : TypeId} {fr : Nat × Nat} {g : Nat} (hb : w.heap[g]? = some (.cells cs t fr)) (hn : n ≤ 140737488355328) (l : List Value) (hl : cs.toList = l) : Row w (.slice (some ⟨g, 0, none⟩) n n) n l :=
  ⟨_, n, rfl, Nat.le_refl _, by omega, hn, fun _ => ⟨g, 0, rfl, fun i u hu => by subst hl; simpa [World.cell?, hb] using hu⟩⟩

/-- The slice does not lie in block g; it lies in a block from B on. -/
def Off (g : Nat) (v : Value) : Prop := ∀ a n c, v = .slice (some a) n c → a.block ≠ g
def Fresh (B : Nat) (v : Value) : Prop := ∀ a n c, v = .slice (some a) n c → B ≤ a.block
theorem Fresh.off {B g : Nat} {v : Value} (h : Fresh B v) (hg : g < B) : Off g v := fun a n c e => by have := h a n c e; omega
theorem Fresh.mono {B B' : Nat} {v : Value} (h : Fresh B v) (hg : B' ≤ B) : Fresh B' v := fun a n c e => by have := h a n c e; omega
theorem Fresh.nil (B n c : Nat) : Fresh B (.slice none n c) := fun a n c e => by simp at e
theorem Fresh.at {B g o n c : Nat} (h : B ≤ g) : Fresh B (.slice (some ⟨g, o, none⟩) n c) := fun a n c e => by simp at e; rw [← e.1]; exact h
theorem Fresh.of_owns {w : World} {base : Nat} {e : TypeId} {size : Nat} {v : Value} {n : Nat} {xs : List Value} (h : w.ownsRow base e size v n xs) : Fresh base v := by
  obtain ⟨_, ⟨rfl, _⟩ | ⟨g, cap, cur, rfl, hb, _⟩⟩ := h
  · exact Fresh.nil _ _ _
  · exact Fresh.at hb

theorem Row.but {w w' : World} {v : Value} {n g : Nat} {cs : List Value} (h : Row w v n cs) (hg : w.grownBy w' (some g)) (ho : Off g v) : Row w' v n cs := by
  obtain ⟨a, cap, rfl, h1, h2, h3, h4⟩ := h
  refine ⟨a, cap, rfl, h1, h2, h3, fun hn => ?_⟩
  obtain ⟨b, o, rfl, hc⟩ := h4 hn
  refine ⟨b, o, rfl, fun i u hu => ?_⟩
  have hcu := hc i u hu
  have hb := World.block_lt_of_cell? _ _ hcu
  rw [World.cell?_of_block (w := w) (w' := w') (hg.block b hb (fun e => ho _ _ _ rfl (by simpa using e)))]
  exact hcu

/-- The slice, if it has an address, lies in a block of elements of type e. -/
def Typed (e : TypeId) (w : World) (v : Value) : Prop := ∀ a n c, v = .slice (some a) n c → ∃ cs fr, w.heap[a.block]? = some (.cells cs e fr)
/-- All blocks of elements of type e are as they were. -/
def Keep (e : TypeId) (w w' : World) : Prop := w.heap.size ≤ w'.heap.size ∧ ∀ (k : Nat) cs fr, w.heap[k]? = some (.cells cs e fr) → w'.heap[k]? = some (.cells cs e fr)
theorem Keep.refl (e : TypeId) (w : World) : Keep e w w := ⟨Nat.le_refl _, fun _ _ _ h => h⟩
theorem Keep.trans {e : TypeId} {a b c : World} (h : Keep e a b) (k : Keep e b c) : Keep e a c := ⟨Nat.le_trans h.1 k.1, fun i cs fr hi => k.2 i cs fr (h.2 i cs fr hi)⟩
theorem Keep.of_ext {e : TypeId} {w w' : World} (h : Ext w w') : Keep e w w' := ⟨h.size, fun k cs fr hk => (h.block k (Array.getElem?_eq_some_iff.1 hk).1).trans hk⟩
theorem Keep.of_grown {e t : TypeId} {w w' : World} {g : Nat} {cs : Array Value} {fr : Nat × Nat} (h : w.grownBy w' (some g)) (hb : w.heap[g]? = some (.cells cs t fr)) (hne : t ≠ e) : Keep e w w' :=
  ⟨h.size, fun k cs' fr' hk => (h.block k (Array.getElem?_eq_some_iff.1 hk).1 (by
    rintro heq
    simp at heq
    subst heq
    rw [hb] at hk
    simp at hk
    exact hne hk.2.1)).trans hk⟩
theorem Keep.of_owns {e t : TypeId} {w w' : World} {base size : Nat} {v : Value} {n : Nat} {xs : List Value} (hown : w.ownsRow base t size v n xs) (h : w.grownBy w' v.ownBlock) (hne : t ≠ e) : Keep e w w' := by
  obtain ⟨_, ⟨rfl, _⟩ | ⟨g, cap, cur, rfl, _, hk, _⟩⟩ := hown
  · exact ⟨h.size, fun k cs fr hk => (h.block k (Array.getElem?_eq_some_iff.1 hk).1 (by simp [Value.ownBlock])).trans hk⟩
  · exact Keep.of_grown h hk hne
theorem Typed.keep {e : TypeId} {w w' : World} {v : Value} (h : Typed e w v) (hk : Keep e w w') : Typed e w' v := fun a n c he => by
  obtain ⟨cs, fr, hb⟩ := h a n c he
  exact ⟨cs, fr, hk.2 _ _ _ hb⟩
theorem Typed.nil (e : TypeId) (w : World) (n c : Nat) : Typed e w (.slice none n c) := fun a n c he => by simp at he
theorem Typed.at {e : TypeId} {w : World} {g o n c : Nat} {cs : Array Value} {fr : Nat × Nat} (h : w.heap[g]? = some (.cells cs e fr)) : Typed e w (.slice (some ⟨g, o, none⟩) n c) := fun a n c he => by
  simp at he
  rw [← he.1]
  exact ⟨cs, fr, h⟩
theorem Typed.of_owns {w : World} {base : Nat} {e : TypeId} {size : Nat} {v : Value} {n : Nat} {xs : List Value} (h : w.ownsRow base e size v n xs) : Typed e w v := by
  obtain ⟨_, ⟨rfl, _⟩ | ⟨g, cap, cur, rfl, _, hk, _⟩⟩ := h
  · exact Typed.nil _ _ _ _
  · exact Typed.at hk
theorem Row.keep {e : TypeId} {w w' : World} {v : Value} {n : Nat} {cs : List Value} (h : Row w v n cs) (ht : Typed e w v) (hk : Keep e w w') : Row w' v n cs := by
  obtain ⟨a, cap, rfl, h1, h2, h3, h4⟩ := h
  refine ⟨a, cap, rfl, h1, h2, h3, fun hn => ?_⟩
  obtain ⟨b, o, rfl, hc⟩ := h4 hn
  obtain ⟨xs, fr, hb⟩ := ht _ _ _ rfl
  refine ⟨b, o, rfl, fun i u hu => ?_⟩
  have hcu := hc i u hu
  rw [World.cell?_of_block (w := w) (w' := w') (a := ⟨b, o + i, none⟩) ((hk.2 _ _ _ hb).trans hb.symm)]
  exact hcu

/-- The slice holds these bytes. -/
def IsBytes (w : World) (v : Value) (l : B8) : Prop := Row w v l.length (l.map fun x => .int .u8 x.toNat)
/-- The slice holds these texts. -/
def IsStrs (w : World) (v : Value) (l : List B8) : Prop := Row w v l.length (l.map S8)
/-- The slice holds these numbers. -/
def IsInts (w : World) (v : Value) (l : List Int) : Prop := Row w v l.length (l.map fun x => .int .i64 x)

theorem IsBytes.ext {w w' : World} {v : Value} {l : B8} (h : IsBytes w v l) (he : Ext w w') : IsBytes w' v l := Row.ext h he
theorem IsStrs.ext {w w' : World} {v : Value} {l : List B8} (h : IsStrs w v l) (he : Ext w w') : IsStrs w' v l := Row.ext h he
theorem IsInts.ext {w w' : World} {v : Value} {l : List Int} (h : IsInts w v l) (he : Ext w w') : IsInts w' v l := Row.ext h he

theorem IsBytes.nil (w : World) : IsBytes w (.slice none 0 0) [] := Row.nil w
theorem IsStrs.nil (w : World) : IsStrs w (.slice none 0 0) [] := Row.nil w
theorem IsInts.nil (w : World) : IsInts w (.slice none 0 0) [] := Row.nil w

theorem IsStrs.get {w : World} {v : Value} {l : List B8} (h : IsStrs w v l) : ∃ a cap, v = .slice a l.length cap ∧ l.length ≤ cap ∧ l.length ≤ 140737488355328 ∧ cap ≤ 9223372036854775807 ∧
    ∀ k, k < l.length → ∃ b o, a = some ⟨b, o, none⟩ ∧ (∀ i, i < l.length → w.cell? ⟨b, o + i, none⟩ = some (S8 (l.getD i []))) := by
  obtain ⟨a, cap, rfl, h1, h2, h3, h4⟩ := h
  refine ⟨a, cap, rfl, h1, h3, h2, fun k hk => ?_⟩
  obtain ⟨b, o, ha, hc⟩ := h4 (by simp; intro h; subst h; simp at hk)
  exact ⟨b, o, ha, fun i hi => hc i _ (by simp [hi])⟩

theorem IsBytes.get {w : World} {v : Value} {l : B8} (h : IsBytes w v l) : ∃ a cap, v = .slice a l.length cap ∧ l.length ≤ cap ∧ l.length ≤ 140737488355328 ∧ cap ≤ 9223372036854775807 ∧
    ∀ k, k < l.length → ∃ b o, a = some ⟨b, o, none⟩ ∧ (∀ i, i < l.length → w.cell? ⟨b, o + i, none⟩ = some (.int .u8 (l.getD i 0).toNat)) := by
  obtain ⟨a, cap, rfl, h1, h2, h3, h4⟩ := h
  refine ⟨a, cap, rfl, h1, h3, h2, fun k hk => ?_⟩
  obtain ⟨b, o, ha, hc⟩ := h4 (by simp; intro h; subst h; simp at hk)
  exact ⟨b, o, ha, fun i hi => hc i _ (by simp [hi])⟩

theorem IsInts.get {w : World} {v : Value} {l : List Int} (h : IsInts w v l) : ∃ a cap, v = .slice a l.length cap ∧ l.length ≤ cap ∧ l.length ≤ 140737488355328 ∧ cap ≤ 9223372036854775807 ∧
    ∀ k, k < l.length → ∃ b o, a = some ⟨b, o, none⟩ ∧ (∀ i, i < l.length → w.cell? ⟨b, o + i, none⟩ = some (.int .i64 (l.getD i 0))) := by
  obtain ⟨a, cap, rfl, h1, h2, h3, h4⟩ := h
  refine ⟨a, cap, rfl, h1, h3, h2, fun k hk => ?_⟩
  obtain ⟨b, o, ha, hc⟩ := h4 (by simp; intro h; subst h; simp at hk)
  exact ⟨b, o, ha, fun i hi => hc i _ (by simp [hi])⟩

/-! ### The library's variables -/
structure Env (w : World) : Prop where
  maxl : ∃ m, w.cell? ⟨0, 0, none⟩ = some (.int .i64 m)
  pow10 : Lib.TabIs Tryd.prog w "internal/strconv.uint64pow10" .u64 Lib.pow10Tab
  syn : ∃ ev, w.cell? ⟨4, 0, none⟩ = some ev ∧ (ev = .nilIface ∨ ∃ te pe, ev = .iface te pe)
  rng : ∃ ev, w.cell? ⟨5, 0, none⟩ = some ev ∧ (ev = .nilIface ∨ ∃ te pe, ev = .iface te pe)

theorem Env.ext {w w' : World} (h : Env w) (he : Ext w w') : Env w' := by
  obtain ⟨⟨m, hm⟩, hp, ⟨e1, h1, k1⟩, ⟨e2, h2, k2⟩⟩ := h
  exact ⟨⟨m, he.cell hm⟩, Go.Joins.tab_stays (by kernel_rfl : Tryd.prog.globalNamed "internal/strconv.uint64pow10" = some 1) hp he (Nat.le_refl _), ⟨e1, he.cell h1, k1⟩, ⟨e2, he.cell h2, k2⟩⟩

/-! ### The library's contracts, in one form -/
theorem itoa_any (n : Int) (w : World) (hE : Env w) (h0 : -9223372036854775808 ≤ n) (h1 : n ≤ 9223372036854775807) :
    Calls Tryd.prog 30 #[.int .i64 n] w fun e w' => e = .returned (S8 (Lib.itoa n)) ∧ Ext w w' :=
  (Tryd.strconv_Itoa n h0 h1 w hE.pow10).mono fun e w' ⟨he, k, os, hw⟩ => ⟨he, by rw [hw]; exact Ext.of_grow k os⟩

theorem bytesWorld_ext (w : World) (e : TypeId) (s : ByteArray) : Ext w (Lib.bytesWorld w e s) := Lib.bytesWorld_below _ _ _

def numV (l : B8) : Int := match Lib.atoiAll l with | .ok v => v | Lib.NumEnd.syntax => 0 | .range => Lib.atoiSat l

theorem atoi_any (s : ByteArray) (w : World) (hE : Env w) (hs : s.size ≤ 140737488355328) :
    Calls Tryd.prog 64 #[.string s] w fun e w' => (∃ u, e = .returned (.tuple #[.int .i64 (numV s.data.toList), u])) ∧ Ext w w' := by
  rcases h : Lib.atoiAll s.data.toList with v | _ | _
  · refine (Tryd.strconv_Atoi_ok s (by omega) v h w).mono fun e w' ⟨he, hw⟩ => ⟨⟨_, he.trans (by simp only [numV, h]; rfl)⟩, ?_⟩
    rcases hw with rfl | ⟨t, rfl⟩
    · exact Ext.refl _
    · exact bytesWorld_ext _ _ _
  · obtain ⟨ev, hv, hk⟩ := hE.syn
    exact (Tryd.strconv_Atoi_syntax s (by omega) h ev w hv hk).mono fun e w' ⟨N, he, _, _, hb⟩ => ⟨⟨_, he.trans (by simp only [numV, h]; rfl)⟩, hb⟩
  · obtain ⟨ev, hv, hk⟩ := hE.rng
    exact (Tryd.strconv_Atoi_range s (by omega) h ev w hv hk).mono fun e w' ⟨N, he, _, _, hb⟩ => ⟨⟨_, he.trans (by simp only [numV, h]; rfl)⟩, hb⟩

end Go.Proofs.YthfkohppillflaaDoor
