/- Acts and events: how they lie in memory; strings.Join in one form. Conditions: as each theorem states. -/
import Derived.Test.YthfkohppillflaaDoorUndig
namespace Go.Proofs.YthfkohppillflaaDoor
open Go Go.RowKit

def I64 (n : Int) : Prop := -9223372036854775808 ≤ n ∧ n ≤ 9223372036854775807

structure Ev where
  (t kind mode keep torn : Int)
  (path data : B8)
structure Ac where
  (kind a b n : Int)
  (path data : B8)
  (fates : List Int)
  (events : List Ev)

def Ev.ok (e : Ev) : Prop := I64 e.t ∧ I64 e.kind ∧ I64 e.mode ∧ I64 e.keep ∧ I64 e.torn
def Ac.ok (x : Ac) : Prop := I64 x.kind ∧ I64 x.a ∧ I64 x.b ∧ I64 x.n ∧ (∀ f ∈ x.fates, I64 f) ∧ ∀ e ∈ x.events, e.ok

/-- The cells of an event. -/
def IsEv (w : World) (cs : List Value) (e : Ev) : Prop := ∃ vd, cs = [.int .i64 e.t, .int .i64 e.kind, .int .i64 e.mode, .int .i64 e.keep, .int .i64 e.torn, S8 e.path, vd] ∧ IsBytes w vd e.data
def IsEvs (w : World) (v : Value) (es : List Ev) : Prop := ∃ css : List (List Value), Row w v es.length css.flatten ∧ css.length = es.length ∧ ∀ (i : Nat) c e, css[i]? = some c → es[i]? = some e → IsEv w c e
/-- The cells of an act. -/
def IsAc (w : World) (cs : List Value) (x : Ac) : Prop := ∃ vd vf ve, cs = [.int .i64 x.kind, .int .i64 x.a, .int .i64 x.b, .int .i64 x.n, S8 x.path, vd, vf, ve] ∧ IsBytes w vd x.data ∧ IsInts w vf x.fates ∧ IsEvs w ve x.events

theorem IsEv.ext {w w' : World} {cs : List Value} {e : Ev} (h : IsEv w cs e) (he : Ext w w') : IsEv w' cs e := by
  obtain ⟨vd, h1, h2⟩ := h
  exact ⟨vd, h1, h2.ext he⟩
theorem IsEvs.ext {w w' : World} {v : Value} {es : List Ev} (h : IsEvs w v es) (he : Ext w w') : IsEvs w' v es := by
  obtain ⟨css, h1, h2, h3⟩ := h
  exact ⟨css, h1.ext he, h2, fun i c e hc hv => (h3 i c e hc hv).ext he⟩
theorem IsAc.ext {w w' : World} {cs : List Value} {x : Ac} (h : IsAc w cs x) (he : Ext w w') : IsAc w' cs x := by
  obtain ⟨vd, vf, ve, h1, h2, h3, h4⟩ := h
  exact ⟨vd, vf, ve, h1, h2.ext he, h3.ext he, h4.ext he⟩
theorem IsEvs.nil (w : World) : IsEvs w (.slice none 0 0) [] := ⟨[], Row.nil w, rfl, fun i c e hc _ => by simp at hc⟩

theorem flat_get (m : Nat) : ∀ (css : List (List Value)) (k j : Nat) (c : List Value) (u : Value), (∀ c ∈ css, c.length = m) → css[k]? = some c → c[j]? = some u → css.flatten[m * k + j]? = some u
  | [], k, j, c, u, _, hc, _ => by simp at hc
  | d :: css, 0, j, c, u, hl, hc, hu => by
    have : d = c := by simpa using hc
    subst this
    simp only [List.flatten_cons, Nat.mul_zero, Nat.zero_add]
    rw [List.getElem?_append_left (List.getElem?_eq_some_iff.1 hu).1]
    exact hu
  | d :: css, k + 1, j, c, u, hl, hc, hu => by
    have hd := hl d (by simp)
    have ih := flat_get m css k j c u (fun c h => hl c (by simp [h])) (by simpa using hc) hu
    simp only [List.flatten_cons]
    rw [List.getElem?_append_right (by rw [hd, Nat.mul_add]; omega), hd]
    rw [show m * (k + 1) + j - m = m * k + j by rw [Nat.mul_add]; omega]
    exact ih

theorem IsEvs.get {w : World} {v : Value} {es : List Ev} (h : IsEvs w v es) : ∃ a cap, v = .slice a es.length cap ∧ es.length ≤ cap ∧ es.length ≤ 140737488355328 ∧ cap ≤ 9223372036854775807 ∧
    ∀ (k : Nat) e, es[k]? = some e → ∃ b o vd, a = some ⟨b, o, none⟩ ∧ IsBytes w vd e.data ∧ w.cell? ⟨b, o + k * 7, none⟩ = some (.int .i64 e.t) ∧ w.cell? ⟨b, o + k * 7 + 1, none⟩ = some (.int .i64 e.kind) ∧ w.cell? ⟨b, o + k * 7 + 2, none⟩ = some (.int .i64 e.mode) ∧
      w.cell? ⟨b, o + k * 7 + 3, none⟩ = some (.int .i64 e.keep) ∧ w.cell? ⟨b, o + k * 7 + 4, none⟩ = some (.int .i64 e.torn) ∧ w.cell? ⟨b, o + k * 7 + 5, none⟩ = some (S8 e.path) ∧ w.cell? ⟨b, o + k * 7 + 6, none⟩ = some vd := by
  obtain ⟨css, ⟨a, cap, rfl, h1, h2, h3, h4⟩, h5, h6⟩ := h
  refine ⟨a, cap, rfl, h1, h3, h2, fun k e he => ?_⟩
  have hk : k < css.length := by rw [h5]; exact (List.getElem?_eq_some_iff.1 he).1
  have hc : css[k]? = some css[k] := List.getElem?_eq_getElem hk
  obtain ⟨vd, hcs, hd⟩ := h6 k _ e hc he
  have hlen : ∀ c ∈ css, c.length = 7 := by
    intro c hm
    obtain ⟨i, hi, rfl⟩ := List.mem_iff_getElem.1 hm
    have hi2 : i < es.length := by omega
    obtain ⟨_, hx, _⟩ := h6 i css[i] es[i] (List.getElem?_eq_getElem hi) (List.getElem?_eq_getElem hi2)
    rw [hx]; rfl
  rw [hcs] at hc
  have hf := fun j u hu => flat_get 7 css k j _ u hlen hc hu
  obtain ⟨b, o, rfl, hcell⟩ := h4 (by
    intro hn
    have := hf 0 _ rfl
    rw [hn] at this
    simp at this)
  refine ⟨b, o, vd, rfl, hd, ?_, ?_, ?_, ?_, ?_, ?_, ?_⟩
  · have := hcell _ _ (hf 0 _ rfl); rw [Nat.mul_comm]; simpa using this
  all_goals
    rw [Nat.add_assoc, Nat.mul_comm]
    exact hcell _ _ (hf _ _ rfl)

theorem join_any (v : Value) (L : List B8) (sep : B8) (w : World) (hv : IsStrs w v L) (hl : (Lib.join L sep).length ≤ 140737488355328) :
    Calls Tryd.prog 32 #[v, S8 sep] w fun e w' => e = .returned (S8 (Lib.join L sep)) ∧ Ext w w' := by
  obtain ⟨a, cap, rfl, h1, h2, h3, h4⟩ := hv
  cases L with
  | nil => exact (Tryd.strings_Join_none a cap ⟨sep.toArray⟩ w).mono fun e w' ⟨he, hw⟩ => ⟨he, by rw [hw]; exact Ext.refl _⟩
  | cons x L =>
    obtain ⟨b, o, rfl, hc⟩ := h4 (by simp)
    have hm : (((x :: L).map fun l => (⟨l.toArray⟩ : ByteArray)).map (·.data.toList)) = x :: L := by
      rw [List.map_map]
      exact List.map_id _
    have h := Tryd.strings_Join b o cap ((x :: L).map fun l => (⟨l.toArray⟩ : ByteArray)) ⟨sep.toArray⟩ w (fun j y hy => hc j _ (by
      rw [List.getElem?_map] at hy ⊢
      obtain ⟨z, hz, rfl⟩ := Option.map_eq_some_iff.1 hy
      rw [hz]; rfl)) (by
        have := hc 0 _ rfl
        exact World.block_lt_of_cell? _ _ this) (by simpa using h3) (by simpa using h1) (by rw [hm]; exact hl)
    rw [hm, List.length_map] at h
    exact h

end Go.Proofs.YthfkohppillflaaDoor
