/- What a line of the document says of an act that prints as it: in plain Lean. Conditions: as each theorem states. -/
import Derived.Test.YthfkohppillflaaDoorPureBack
import Derived.Test.YthfkohppillflaaDoorRevent
namespace Go.Proofs.YthfkohppillflaaDoor
open Go Go.RowKit

theorem three {α : Type} : ∀ l : List α, l.length = 3 → ∃ a b c, l = [a, b, c]
  | [a, b, c], _ => ⟨a, b, c, rfl⟩
theorem cellsAt3 {w : World} {g : Nat} {v0 v1 v2 : Value} {t : TypeId} {fr : Nat × Nat} (h : w.heap[g]? = some (.cells #[v0, v1, v2] t fr)) :
    w.cell? ⟨g, 0, none⟩ = some v0 ∧ w.cell? ⟨g, 1, none⟩ = some v1 ∧ w.cell? ⟨g, 2, none⟩ = some v2 := by
  simp [World.cell?, h]

theorem tells_of {x : Ac} {s : B8} (h : s = printL x) (h8 : 8 ≤ (cut 32 s).length) : tellsB x = true := by
  cases ht : tellsB x with
  | true => rfl
  | false =>
    have : printL x = [63] := by unfold printL; rw [ht]; rfl
    rw [this] at h
    subst h
    exact absurd h8 (by decide)

theorem line_num {x : Ac} {k : Nat} {m : Int} (h : [x.a, x.b, x.n][k]? = some m) : (lineL x).getD (k + 1) [] = Lib.itoa m := by
  rcases k with _ | _ | _ | k
  · cases h; rfl
  · cases h; rfl
  · cases h; rfl
  · simp at h
theorem line_ok {x : Ac} (hx : x.ok) {k : Nat} {m : Int} (h : [x.a, x.b, x.n][k]? = some m) : I64 m := by
  obtain ⟨-, h1, h2, h3, -⟩ := hx
  rcases k with _ | _ | _ | k
  · cases h; exact h1
  · cases h; exact h2
  · cases h; exact h3
  · simp at h

theorem told_all {x : Ac} (ht : tellsB x = true) : ∀ e ∈ x.events, evTold e = true := by
  unfold tellsB at ht
  simp only [Bool.and_eq_true, List.all_eq_true] at ht
  exact ht.1
theorem told_path {x : Ac} (ht : tellsB x = true) : x.path ≠ [45] := by
  unfold tellsB at ht
  simp only [Bool.and_eq_true, List.all_eq_true, decide_eq_true_eq] at ht
  exact (plain_chars ht.2.2.2).1
theorem line_fates (x : Ac) : listL (orL (Lib.join (x.fates.map Lib.itoa) [44])) = x.fates.map Lib.itoa := by
  refine list_back (fun l hl => ?_) (fun l hl => ?_)
  · obtain ⟨f, -, rfl⟩ := List.mem_map.1 hl
    exact itoa_no (by decide) (by decide)
  · obtain ⟨f, -, rfl⟩ := List.mem_map.1 hl
    exact itoa_ne f
theorem line_events {x : Ac} (ht : tellsB x = true) : listL (orL (Lib.join (x.events.map evS) [44])) = x.events.map evS := by
  have hev := told_all ht
  refine list_back (fun l hl => ?_) (fun l hl => ?_)
  · obtain ⟨e, he, rfl⟩ := List.mem_map.1 hl
    exact ev_no (by decide) (by decide) (by decide) (told_chars (hev e he)).2.2.2 (by decide)
  · obtain ⟨e, he, rfl⟩ := List.mem_map.1 hl
    exact ev_ne (hev e he)

/-- What the readers of a line's words are complete on. -/
def Says (s : B8) (x : Ac) : Prop := x.ok ∧ tellsB x = true ∧ s = printL x
theorem Says.line {s : B8} {x : Ac} (h : Says s x) : cut 32 s = lineL x := by
  obtain ⟨h1, h2, rfl⟩ := h
  exact cut_print h1 h2
theorem Says.parse {s : B8} {x : Ac} (h : Says s x) : parseL s = (x, 0) := by
  obtain ⟨h1, h2, rfl⟩ := h
  exact print_parse h1 h2
theorem Says.fate {s p : B8} {x : Ac} {k : Nat} (h : Says s x) (hk : (listL ((cut 32 s).getD 6 []))[k]? = some p) : ∃ f, x.fates[k]? = some f ∧ p = Lib.itoa f ∧ I64 f := by
  rw [h.line, show (lineL x).getD 6 [] = orL (Lib.join (x.fates.map Lib.itoa) [44]) from rfl, line_fates, List.getElem?_map] at hk
  obtain ⟨f, hf, rfl⟩ := Option.map_eq_some_iff.1 hk
  exact ⟨f, hf, rfl, h.1.2.2.2.2.1 f (List.mem_of_getElem? hf)⟩
theorem Says.event {s p : B8} {x : Ac} {k : Nat} (h : Says s x) (hk : (listL ((cut 32 s).getD 7 []))[k]? = some p) : ∃ e, x.events[k]? = some e ∧ p = evS e ∧ e.ok ∧ evTold e = true := by
  rw [h.line, show (lineL x).getD 7 [] = orL (Lib.join (x.events.map evS) [44]) from rfl, line_events h.2.1, List.getElem?_map] at hk
  obtain ⟨e, he, rfl⟩ := Option.map_eq_some_iff.1 hk
  have hm := List.mem_of_getElem? he
  exact ⟨e, he, rfl, h.1.2.2.2.2.2 e hm, told_all h.2.1 e hm⟩
theorem Says.fates_len {s : B8} {x : Ac} (h : Says s x) : (listL ((cut 32 s).getD 6 [])).length = x.fates.length := by
  rw [h.line, show (lineL x).getD 6 [] = orL (Lib.join (x.fates.map Lib.itoa) [44]) from rfl, line_fates, List.length_map]
theorem Says.events_len {s : B8} {x : Ac} (h : Says s x) : (listL ((cut 32 s).getD 7 [])).length = x.events.length := by
  rw [h.line, show (lineL x).getD 7 [] = orL (Lib.join (x.events.map evS) [44]) from rfl, line_events h.2.1, List.length_map]
theorem Says.word {s : B8} {x : Ac} (h : Says s x) : (kindOf ((cut 32 s).getD 0 []) : Int) = x.kind ∧ noneL ((cut 32 s).getD 4 []) = x.path ∧ (cut 32 s).getD 5 [] = orL (hexL x.data) := by
  have hp := h.parse
  refine ⟨?_, ?_, ?_⟩
  · unfold parseL at hp
    simp only at hp
    split at hp
    · cases hp
    · split at hp
      · cases hp
      · split at hp
        · have := congrArg (fun q : Ac × Int => q.1.kind) hp
          exact this
        · cases hp
  · rw [h.line]
    exact none_or (told_path h.2.1)
  · rw [h.line]
    rfl

theorem readL_okk {kind : Int} {L : List B8} (hk : I64 kind) : (readL kind L).ok := by
  refine ⟨hk, atoiSat_I64 _, atoiSat_I64 _, atoiSat_I64 _, ?_, ?_⟩
  · intro f hf
    obtain ⟨x, _, rfl⟩ := List.mem_map.1 hf
    exact atoiSat_I64 _
  · intro e he
    obtain ⟨x, _, rfl⟩ := List.mem_map.1 he
    exact (readEvL_ok x).1

/-- The end of a reading: what was read, if it prints as the line and all was well, is what the line says; else the line says nothing. -/
theorem parse_end {s : B8} {x : Ac} {good : Bool} (hx : x.ok) (h8 : 8 ≤ (cut 32 s).length) (hk : kindOf ((cut 32 s).getD 0 []) ≠ 0) (hc : ∀ y, Says s y → good = true ∧ x = y) :
    parseL s = if good = true ∧ printL x = s then (x, 0) else (zeroA, 4) := by
  by_cases h : good = true ∧ printL x = s
  · rw [if_pos h]
    exact Says.parse ⟨hx, tells_of h.2.symm h8, h.2.symm⟩
  · rw [if_neg h]
    unfold parseL
    simp only
    rw [if_neg hk, if_neg (by omega)]
    split
    · rename_i hp
      exfalso
      have hy : Says s (readL (kindOf ((cut 32 s).getD 0 [])) (cut 32 s)) := by
        refine ⟨?_, tells_of hp.symm h8, hp.symm⟩
        have : I64 ((kindOf ((cut 32 s).getD 0 []) : Nat) : Int) := by have := kindUpto_le ((cut 32 s).getD 0 []) 8; unfold kindOf I64; omega
        exact readL_okk this
      obtain ⟨h1, h2⟩ := hc _ hy
      exact h ⟨h1, by rw [h2]; exact hp⟩
    · rfl
theorem take_more {α : Type} {l m : List α} {k : Nat} {x y : α} (h : m = l.take k) (hx : l[k]? = some x) (he : y = x) : m ++ [y] = l.take (k + 1) := by
  rw [List.take_add_one, hx, h, he]
  rfl

end Go.Proofs.YthfkohppillflaaDoor
