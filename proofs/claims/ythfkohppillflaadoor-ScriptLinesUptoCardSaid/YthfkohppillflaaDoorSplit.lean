/- Texts cut at a sign, in plain Lean; the library's Split at one sign. No conditions of its own. -/
import Derived.Test.YthfkohppillflaaDoorBase
import Derived.Lib.Split
import Derived.Lib.SplitLaws
namespace Go.Proofs.YthfkohppillflaaDoor
open Go Go.RowKit

/-- A text cut at every such sign: one piece at least. -/
def cut (c : UInt8) : B8 → List B8
  | [] => [[]]
  | x :: l => if x == c then [] :: cut c l else match cut c l with
    | h :: t => (x :: h) :: t
    | [] => [[x]]

theorem cut_ne (c : UInt8) (l : B8) : cut c l ≠ [] := by
  cases l with
  | nil => simp [cut]
  | cons x l => unfold cut; split
                · simp
                · split <;> simp

theorem index_one_ne (b c : UInt8) (l : B8) (h : b ≠ c) : Lib.index (b :: l) [c] = if Lib.index l [c] == -1 then -1 else Lib.index l [c] + 1 := by
  have hp : ([c] : B8).isPrefixOf (b :: l) = false := by simp [List.isPrefixOf, Ne.symm h]
  rw [Lib.index, hp]; simp

theorem splitK_cut (c : UInt8) : ∀ l : B8, Lib.splitK [c] 0 (Lib.count l [c]) l = cut c l
  | [] => by rw [Lib.count_miss (by simp [Lib.index])]; rfl
  | x :: l => by
    have ih := splitK_cut c l
    by_cases h : x = c
    · subst h
      have hix : Lib.index (x :: l) [x] = ((0 : Nat) : Int) := by rw [Lib.index]; simp [List.isPrefixOf]
      rw [Lib.count_cons_eq, Nat.add_comm, Lib.splitK, hix]
      simp [cut, ih]
    · rw [Lib.count_cons_ne x c l h]
      unfold cut
      rw [if_neg (by simpa using h), ← ih]
      by_cases hm : Lib.index l [c] = -1
      · rw [Lib.count_miss hm]
        simp [Lib.splitK]
      · have hge := Lib.index_ge l [c]
        obtain ⟨j, hj⟩ : ∃ j : Nat, Lib.index l [c] = j := ⟨(Lib.index l [c]).toNat, by omega⟩
        have hj2 : ¬ (Lib.index l [c] == -1) = true := fun e => by have := beq_iff_eq.1 e; omega
        have hix : Lib.index (x :: l) [c] = ((j + 1 : Nat) : Int) := by rw [index_one_ne x c l h, if_neg hj2, hj]; omega
        have hix2 : ¬ (Lib.index (x :: l) [c] == -1) = true := fun e => by have := beq_iff_eq.1 e; omega
        obtain ⟨n, hn⟩ : ∃ n, Lib.count l [c] = n + 1 := ⟨_, by rw [Lib.count_hit (by simp) hj, Nat.add_comm]⟩
        rw [hn, Lib.splitK, if_neg hix2, Lib.splitK, if_neg hj2, hix, hj]
        simp

theorem cut_total (c : UInt8) : ∀ l : B8, ((cut c l).map List.length).sum + (cut c l).length = l.length + 1
  | [] => by simp [cut]
  | x :: l => by
    have ih := cut_total c l
    unfold cut
    split
    · simp; omega
    · split
      · rename_i h t he
        rw [he] at ih
        simp at ih ⊢; omega
      · rename_i he
        exact absurd he (cut_ne c l)

theorem cut_length (c : UInt8) (l : B8) : 1 ≤ (cut c l).length ∧ (cut c l).length ≤ l.length + 1 := by
  have h1 := cut_total c l
  have h2 : (cut c l).length ≠ 0 := fun h => cut_ne c l (List.eq_nil_of_length_eq_zero h)
  omega

theorem le_sum_of_mem {l : List Nat} {x : Nat} (h : x ∈ l) : x ≤ l.sum := by
  induction l with
  | nil => simp at h
  | cons a l ih =>
    rcases List.mem_cons.1 h with rfl | h
    · simp
    · have := ih h; simp; omega

theorem cut_piece (c : UInt8) (l : B8) {x : B8} (h : x ∈ cut c l) : x.length ≤ l.length := by
  have h1 := cut_total c l
  have h2 := le_sum_of_mem (List.mem_map.2 ⟨x, h, rfl⟩ : x.length ∈ (cut c l).map List.length)
  have h3 := (cut_length c l).1
  omega

theorem str_eta (s : ByteArray) : Value.string s = S8 s.data.toList := rfl

/-- strings.Split at one sign. -/
theorem split_any (s : ByteArray) (c : UInt8) (w : World) (hE : Env w) (hs : s.size < 4294967281) :
    Calls Tryd.prog 20 #[.string s, .string ⟨#[c]⟩] w fun e w' => ∃ v, e = .returned v ∧ IsStrs w' v (cut c s.data.toList) ∧ Typed 9 w' v ∧ Ext w w' := by
  obtain ⟨m, hm⟩ := hE.maxl
  refine (Tryd.strings_Split s ⟨#[c]⟩ m w hs hm (Nat.le_refl 1)).mono ?_
  rintro e w' ⟨rfl, rfl⟩
  have hlen := Lib.splitB_all ⟨#[c]⟩ (Nat.le_refl 1) 0 _ s rfl
  have hdat := Lib.splitB_data ⟨#[c]⟩ 0 (Lib.countB s ⟨#[c]⟩) s
  have hcut : Lib.splitK [c] 0 (Lib.countB s ⟨#[c]⟩) s.data.toList = cut c s.data.toList := splitK_cut c _
  have hsz : s.data.toList.length = s.size := by simp
  have hcl := (cut_length c s.data.toList).2
  have e1 : (Lib.splitB ⟨#[c]⟩ 0 (Lib.countB s ⟨#[c]⟩) s).map (·.data.toList) = cut c s.data.toList := hdat.trans hcut
  have e2 : Lib.countB s ⟨#[c]⟩ + 1 = (cut c s.data.toList).length := by rw [← e1, List.length_map, hlen]
  refine ⟨_, rfl, ?_, Typed.at (alloc_at _ _), (Ext.refl w).alloc _⟩
  unfold IsStrs
  rw [e2]
  refine Row.new (alloc_at _ _) (by omega) _ ?_
  simp only
  rw [← e1, List.map_map]
  apply List.map_congr_left
  intro x _
  rfl

end Go.Proofs.YthfkohppillflaaDoor
