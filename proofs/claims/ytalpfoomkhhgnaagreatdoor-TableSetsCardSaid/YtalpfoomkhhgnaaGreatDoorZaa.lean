/- A region that draws its order: each of its head's operations is shown alone, out of what its own operands are known to be; what stands behind the head goes on in the text's order. Conditions: each operation of the head leaves what was there as it was. -/
import Derived.Sort.LotA
import Derived.Test.YtalpfoomkhhgnaaGreatDoorProg
import Derived.Shelf.SlSortCmp.KitK
import Derived.Sort.WalkB2
import Derived.Sort.WalkB12
import Derived.Deep.LoopGhost
import Derived.Deep.DeepCutAuto
import Derived.Shelf.SlSortCmp.QuietGrown
import Derived.WalkKit
import Derived.StillTail
import Derived.Lib.QuietBelow

set_option linter.unusedVariables false
set_option linter.unusedSimpArgs false

/-! Ranges exchanged, turned round, two sorted ranges merged in place: in plain Lean. Conditions: as each theorem states. -/
namespace Go.Proofs.YtalpfoomkhhgnaaGreatDoor
open Go Go.Sort
section
variable {α : Type} [Inhabited α] {lt : α → α → Bool}

/-- Two ranges exchanged. -/
def swpR (d : Array α) (a b : Nat) : Nat → Array α
  | 0 => d
  | n + 1 => swp (swpR d a b n) (a + n) (b + n)
theorem swpR_size (d : Array α) (a b : Nat) : ∀ n, (swpR d a b n).size = d.size
  | 0 => rfl
  | n + 1 => by rw [swpR, size_swp, swpR_size d a b n]
theorem swpR_get (d : Array α) (a b : Nat) : ∀ n, a + n ≤ b → b + n ≤ d.size → ∀ k, (swpR d a b n)[k]! = if a ≤ k ∧ k < a + n then d[k + (b - a)]! else if b ≤ k ∧ k < b + n then d[k - (b - a)]! else d[k]!
  | 0, _, _, k => by
    rw [if_neg (by omega), if_neg (by omega)]
    rfl
  | n + 1, h1, h2, k => by
    have ih := swpR_get d a b n (by omega) (by omega)
    rw [swpR, swp_get _ (by rw [swpR_size]; omega) (by rw [swpR_size]; omega)]
    by_cases hk : k = b + n
    · rw [if_pos hk, ih, if_neg (by omega), if_neg (by omega), if_neg (by omega), if_pos (by omega), hk]
      congr 1; omega
    · rw [if_neg hk]
      by_cases hk2 : k = a + n
      · rw [if_pos hk2, ih, if_neg (by omega), if_neg (by omega), if_pos (by omega), hk2]
        congr 1; omega
      · rw [if_neg hk2, ih]
        by_cases c1 : a ≤ k ∧ k < a + n
        · rw [if_pos c1, if_pos (by omega)]
        · rw [if_neg c1, if_neg (show ¬ (a ≤ k ∧ k < a + (n + 1)) by omega)]
          by_cases c2 : b ≤ k ∧ k < b + n
          · rw [if_pos c2, if_pos (by omega)]
          · rw [if_neg c2, if_neg (by omega)]
theorem swpR_perm (d : Array α) {lo hi a b : Nat} : ∀ n, lo ≤ a → a + n ≤ b → b + n ≤ hi → hi ≤ d.size → PermIn lo hi d (swpR d a b n)
  | 0, _, _, _, _ => permIn_refl _ _ _
  | n + 1, h0, h1, h2, h3 => permIn_trans _ _ _ _ _ (swpR_perm d n h0 (by omega) (by omega) h3) (swp_permIn _ _ _ _ _ (by omega) (by omega) (by omega) (by omega) (by rw [swpR_size]; exact h3))

/-- d' is d with the ranges [a, m) and [m, b) in each other's place. -/
def RotOf (d : Array α) (a m b : Nat) (d' : Array α) : Prop :=
  ∀ k, d'[k]! = if a ≤ k ∧ k < a + (b - m) then d[k + (m - a)]! else if a + (b - m) ≤ k ∧ k < b then d[k - (b - m)]! else d[k]!
theorem rot_nilL (d : Array α) (m b : Nat) : RotOf d m m b d := fun k => by
  by_cases h1 : m ≤ k ∧ k < m + (b - m)
  · rw [if_pos h1]; congr 1; omega
  · rw [if_neg h1, if_neg (by omega)]
theorem rot_nilR (d : Array α) (a m : Nat) : RotOf d a m m d := fun k => by
  rw [if_neg (by omega)]
  by_cases h1 : a + (m - m) ≤ k ∧ k < m
  · rw [if_pos h1]; congr 1; omega
  · rw [if_neg h1]
theorem rot_end (d : Array α) {m i : Nat} (hi : i ≤ m) (hb : m + i ≤ d.size) : RotOf d (m - i) m (m + i) (swpR d (m - i) m i) := fun k => by
  rw [swpR_get d _ _ _ (by omega) hb]
  by_cases h1 : m - i ≤ k ∧ k < m - i + i
  · rw [if_pos h1, if_pos (by omega)]
  · rw [if_neg h1, if_neg (show ¬ (m - i ≤ k ∧ k < m - i + (m + i - m)) by omega)]
    by_cases h2 : m ≤ k ∧ k < m + i
    · rw [if_pos h2, if_pos (by omega)]; congr 1; omega
    · rw [if_neg h2, if_neg (by omega)]
theorem rot_left {d d' : Array α} {m i j : Nat} (hi : i ≤ m) (hij : j < i) (hb : m + j ≤ d.size) (h : RotOf (swpR d (m - i) m j) (m - (i - j)) m (m + j) d') : RotOf d (m - i) m (m + j) d' := fun k => by
  have g := swpR_get d (m - i) m j (by omega) hb
  rw [h k]
  by_cases h1 : m - i ≤ k ∧ k < m - i + (m + j - m)
  · rw [if_neg (by omega), if_neg (by omega), g, if_pos (by omega), if_pos h1]
  · rw [if_neg h1]
    by_cases h2 : m - i + (m + j - m) ≤ k ∧ k < m + j
    · rw [if_pos h2]
      by_cases h3 : m - (i - j) ≤ k ∧ k < m - (i - j) + (m + j - m)
      · rw [if_pos h3, g, if_neg (by omega), if_pos (by omega)]; congr 1; omega
      · rw [if_neg h3, if_pos (by omega), g, if_neg (by omega), if_neg (by omega)]
    · rw [if_neg h2, if_neg (by omega), if_neg (by omega), g, if_neg (by omega), if_neg (by omega)]
theorem rot_right {d d' : Array α} {m i j : Nat} (hi : i ≤ m) (hij : i < j) (hb : m + j ≤ d.size) (h : RotOf (swpR d (m - i) (m + j - i) i) (m - i) m (m + (j - i)) d') : RotOf d (m - i) m (m + j) d' := fun k => by
  have g := swpR_get d (m - i) (m + j - i) i (by omega) (by omega)
  rw [h k]
  by_cases h1 : m - i ≤ k ∧ k < m - i + (m + j - m)
  · rw [if_pos h1]
    by_cases h2 : m - i ≤ k ∧ k < m - i + (m + (j - i) - m)
    · rw [if_pos h2, g, if_neg (by omega), if_neg (by omega)]
    · rw [if_neg h2, if_pos (by omega), g, if_pos (by omega)]; congr 1; omega
  · rw [if_neg h1]
    by_cases h2 : m - i + (m + j - m) ≤ k ∧ k < m + j
    · rw [if_pos h2, if_neg (by omega), if_neg (by omega), g, if_neg (by omega), if_pos (by omega)]; congr 1; omega
    · rw [if_neg h2, if_neg (by omega), if_neg (by omega), g, if_neg (by omega), if_neg (by omega)]
/-- One more of the second range ahead of a first range of one. -/
theorem rot_up {d dk : Array α} {a k : Nat} (h : RotOf d a (a + 1) (k + 1) dk) (hak : a ≤ k) (hs : k + 1 < dk.size) : RotOf d a (a + 1) (k + 2) (swp dk k (k + 1)) := fun q => by
  rw [swp_get _ (by omega) hs]
  by_cases h1 : q = k + 1
  · rw [if_pos h1, h k, if_neg (by omega), if_neg (show ¬ (a ≤ q ∧ q < a + (k + 2 - (a + 1))) by omega), if_pos (show a + (k + 2 - (a + 1)) ≤ q ∧ q < k + 2 by omega), if_pos (by omega)]
    congr 1; omega
  · rw [if_neg h1]
    by_cases h2 : q = k
    · rw [if_pos h2, h (k + 1), if_neg (by omega), if_neg (by omega), if_pos (by omega), h2]; congr 1; omega
    · rw [if_neg h2, h q]
      by_cases h3 : a ≤ q ∧ q < a + (k + 1 - (a + 1))
      · rw [if_pos h3, if_pos (by omega)]
      · rw [if_neg h3, if_neg (by omega), if_neg (by omega), if_neg (by omega)]
/-- One more of the first range behind a second range of one. -/
theorem rot_down {d dk : Array α} {m k : Nat} (h : RotOf d (k + 1) m (m + 1) dk) (hkm : k < m) (hs : k + 1 < dk.size) : RotOf d k m (m + 1) (swp dk (k + 1) k) := fun q => by
  rw [swp_get _ hs (by omega)]
  by_cases h1 : q = k
  · rw [if_pos h1, h (k + 1), if_pos (by omega), if_pos (by omega), h1]; congr 1; omega
  · rw [if_neg h1]
    by_cases h2 : q = k + 1
    · rw [if_pos h2, h k, if_neg (by omega), if_neg (by omega), if_neg (show ¬ (k ≤ q ∧ q < k + (m + 1 - m)) by omega), if_pos (by omega), h2]; congr 1; omega
    · rw [if_neg h2, h q]
      by_cases h3 : k + 1 + (m + 1 - m) ≤ q ∧ q < m + 1
      · rw [if_neg (by omega), if_pos h3, if_neg (by omega), if_pos (by omega)]
      · rw [if_neg (by omega), if_neg h3, if_neg (by omega), if_neg (by omega)]

/-! ### Sorted ranges -/
theorem sorted_le {a b i j : Nat} {d : Array α} (h : SortedIn lt a b d) (hS : SWO lt) (hi : a ≤ i) (hij : i ≤ j) (hj : j < b) : lt d[j]! d[i]! = false := by
  rcases Nat.lt_or_ge i j with hl | hl
  · exact h i j hi hl hj
  · obtain rfl : i = j := by omega
    exact hS.irrefl _
theorem sorted_nil {a b : Nat} (d : Array α) (h : b ≤ a + 1) : SortedIn lt a b d := fun i j h1 h2 h3 => by omega
theorem sorted_congr {a b : Nat} {d d' : Array α} (h : SortedIn lt a b d) (he : ∀ k, a ≤ k → k < b → d'[k]! = d[k]!) : SortedIn lt a b d' := fun i j h1 h2 h3 => by
  rw [he i h1 (by omega), he j (by omega) h3]
  exact h i j h1 h2 h3
theorem sorted_part {a b a' b' : Nat} {d : Array α} (h : SortedIn lt a b d) (h1 : a ≤ a') (h2 : b' ≤ b) : SortedIn lt a' b' d := fun i j g1 g2 g3 => h i j (by omega) g2 (by omega)
/-- Two sorted parts, nothing behind less than something ahead. -/
theorem join_sorted {a m b : Nat} {d d2 d3 : Array α} (hb : b ≤ d.size) (ham : a ≤ m) (hmb : m ≤ b) (p2 : PermIn a m d d2) (s2 : SortedIn lt a m d2) (p3 : PermIn m b d2 d3) (s3 : SortedIn lt m b d3)
    (hx : ∀ i j, a ≤ i → i < m → m ≤ j → j < b → lt d[j]! d[i]! = false) : PermIn a b d d3 ∧ SortedIn lt a b d3 := by
  have hs2 : d2.size = d.size := p2.1
  have q2 := permIn_mono d d2 a m a b (Nat.le_refl _) hmb hb p2
  have q3 := permIn_mono d2 d3 m b a b ham (Nat.le_refl _) (by omega) p3
  refine ⟨permIn_trans _ _ _ _ _ q2 q3, fun i j h1 h2 h3 => ?_⟩
  have e3 : ∀ k, k < m → d3[k]! = d2[k]! := fun k hk => p3.2.1 k (.inl hk)
  have e2 : ∀ k, m ≤ k → d2[k]! = d[k]! := fun k hk => p2.2.1 k (.inr hk)
  rcases Nat.lt_or_ge j m with hj | hj
  · rw [e3 i (by omega), e3 j hj]
    exact s2 i j h1 h2 hj
  · rcases Nat.lt_or_ge i m with hi | hi
    · have x1 : ∀ k, m ≤ k → k < b → lt d3[k]! d3[i]! = false := by
        refine permIn_all d2 d3 m b (fun x => lt x d3[i]! = false) (by omega) p3 (fun k h1 h2 => ?_)
        show lt d2[k]! d3[i]! = false
        rw [e3 i hi, e2 k h1]
        refine permIn_all d d2 a m (fun x => lt d[k]! x = false) (by omega) p2 (fun q h3 h4 => hx q k h3 h4 h1 h2) i (by omega) hi
      exact x1 j hj h3
    · exact s3 i j hi h2 h3

/-- What the search tells: where the ranges are cut. -/
structure Cut (lt : α → α → Bool) (d : Array α) (a m b s e : Nat) : Prop where
  out : ∀ i j, a ≤ i → i < s → e ≤ j → j < b → lt d[j]! d[i]! = false
  inn : ∀ i j, s ≤ i → i < m → m ≤ j → j < e → lt d[i]! d[j]! = false
theorem cut_search (hS : SWO lt) {d : Array α} {a m b s lo hi n : Nat} (h1 : SortedIn lt a m d) (h2 : SortedIn lt m b d) (hs1 : lo ≤ s) (hs2 : s ≤ hi) (hlo : (lo = a ∧ hi = m ∧ n ≤ b + a ∧ 2 * m ≤ n) ∨ (lo + b = n ∧ hi + m = n ∧ hi ≤ m ∧ a ≤ lo))
    (hL : lo < s → lt d[n - 1 - (s - 1)]! d[s - 1]! = false) (hR : s < hi → lt d[n - 1 - s]! d[s]! = true) : Cut lt d a m b s (n - s) := by
  refine ⟨fun i j g1 g2 g3 g4 => ?_, fun i j g1 g2 g3 g4 => ?_⟩
  · by_cases hls : lo < s
    · have hx := hL hls
      rw [show n - 1 - (s - 1) = n - s by omega] at hx
      have e1 : lt d[j]! d[n - s]! = false := sorted_le h2 hS (by omega) g3 g4
      have e2 : lt d[s - 1]! d[i]! = false := sorted_le h1 hS g1 (by omega) (by omega)
      exact hS.ntrans _ _ _ e1 (hS.ntrans _ _ _ hx e2)
    · exfalso; omega
  · by_cases hsh : s < hi
    · have hx := hS.asymmA (hR hsh)
      rw [show n - 1 - s = n - s - 1 by omega] at hx
      have e1 : lt d[i]! d[s]! = false := sorted_le h1 hS (by omega) g1 g2
      have e2 : lt d[n - s - 1]! d[j]! = false := sorted_le h2 hS g3 (by omega) (by omega)
      exact hS.ntrans _ _ _ e1 (hS.ntrans _ _ _ hx e2)
    · exfalso; omega
/-- The ranges cut and turned: four sorted runs, the first two before the last two. -/
theorem cut_turn {d d1 : Array α} {a m b s e mid : Nat} (h1 : SortedIn lt a m d) (h2 : SortedIn lt m b d) (hr : RotOf d s m e d1) (has : a ≤ s) (hsm : s ≤ m) (hme : m ≤ e) (heb : e ≤ b) (hmid : mid = s + (e - m)) (hc : Cut lt d a m b s e) :
    SortedIn lt a s d1 ∧ SortedIn lt s mid d1 ∧ SortedIn lt mid e d1 ∧ SortedIn lt e b d1 ∧ ∀ i j, a ≤ i → i < mid → mid ≤ j → j < b → lt d1[j]! d1[i]! = false := by
  have k1 : ∀ k, k < s → d1[k]! = d[k]! := fun k hk => by rw [hr k, if_neg (by omega), if_neg (by omega)]
  have k2 : ∀ k, s ≤ k → k < mid → d1[k]! = d[k + (m - s)]! := fun k g1 g2 => by rw [hr k, if_pos (by omega)]
  have k3 : ∀ k, mid ≤ k → k < e → d1[k]! = d[k - (e - m)]! := fun k g1 g2 => by rw [hr k, if_neg (by omega), if_pos (by omega)]
  have k4 : ∀ k, e ≤ k → d1[k]! = d[k]! := fun k hk => by rw [hr k, if_neg (by omega), if_neg (by omega)]
  refine ⟨fun i j g1 g2 g3 => ?_, fun i j g1 g2 g3 => ?_, fun i j g1 g2 g3 => ?_, fun i j g1 g2 g3 => ?_, fun i j g1 g2 g3 g4 => ?_⟩
  · rw [k1 i (by omega), k1 j g3]; exact h1 i j g1 g2 (by omega)
  · rw [k2 i g1 (by omega), k2 j (by omega) g3]; exact h2 _ _ (by omega) (by omega) (by omega)
  · rw [k3 i g1 (by omega), k3 j (by omega) g3]; exact h1 _ _ (by omega) (by omega) (by omega)
  · rw [k4 i g1, k4 j (by omega)]; exact h2 i j (by omega) g2 g3
  · rcases Nat.lt_or_ge i s with hi | hi
    · rw [k1 i hi]
      rcases Nat.lt_or_ge j e with hj | hj
      · rw [k3 j g3 hj]; exact h1 _ _ g1 (by omega) (by omega)
      · rw [k4 j hj]; exact hc.out i j g1 hi hj g4
    · rw [k2 i hi g2]
      rcases Nat.lt_or_ge j e with hj | hj
      · rw [k3 j g3 hj]; exact hc.inn _ _ (by omega) (by omega) (by omega) (by omega)
      · rw [k4 j hj]; exact h2 _ _ (by omega) (by omega) g4
/-- A first range of one, laid into the second. -/
theorem one_left (hS : SWO lt) {d d1 : Array α} {a b i : Nat} (h2 : SortedIn lt (a + 1) b d) (hi1 : a + 1 ≤ i) (hi2 : i ≤ b) (hr : RotOf d a (a + 1) i d1)
    (hL : a + 1 < i → lt d[i - 1]! d[a]! = true) (hR : i < b → lt d[i]! d[a]! = false) : SortedIn lt a b d1 := by
  have hc : Cut lt d a (a + 1) b a i := by
    refine ⟨fun x j g1 g2 g3 g4 => by omega, fun x j g1 g2 g3 g4 => ?_⟩
    obtain rfl : x = a := by omega
    exact hS.ntrans _ _ _ (hS.asymmA (hL (by omega))) (sorted_le h2 hS g3 (by omega) (by omega))
  obtain ⟨-, q2, q3, q4, q5⟩ := cut_turn (mid := a + (i - (a + 1))) (sorted_nil d (Nat.le_refl _)) h2 hr (Nat.le_refl _) (by omega) hi1 hi2 rfl hc
  intro x y g1 g2 g3
  rcases Nat.lt_or_ge y (a + (i - (a + 1))) with hy | hy
  · exact q2 x y g1 g2 hy
  · rcases Nat.lt_or_ge x (a + (i - (a + 1))) with hx | hx
    · exact q5 x y g1 hx hy g3
    · have e1 : d1[x]! = if x = a + (i - (a + 1)) then d[a]! else d[x]! := by
        by_cases hxx : x = a + (i - (a + 1))
        · rw [if_pos hxx, hr x, if_neg (by omega), if_pos (by omega)]; congr 1; omega
        · rw [if_neg hxx, hr x, if_neg (by omega), if_neg (by omega)]
      have e2 : d1[y]! = d[y]! := by rw [hr y, if_neg (by omega), if_neg (by omega)]
      rw [e1, e2]
      by_cases hxx : x = a + (i - (a + 1))
      · rw [if_pos hxx]
        exact hS.ntrans _ _ _ (sorted_le h2 hS (by omega) (show i ≤ y by omega) g3) (hR (by omega))
      · rw [if_neg hxx]
        exact h2 _ _ (by omega) g2 g3
/-- A second range of one, laid into the first. -/
theorem one_right (hS : SWO lt) {d d1 : Array α} {a m i : Nat} (h1 : SortedIn lt a m d) (hi1 : a ≤ i) (hi2 : i ≤ m) (hr : RotOf d i m (m + 1) d1)
    (hL : a < i → lt d[m]! d[i - 1]! = false) (hR : i < m → lt d[m]! d[i]! = true) : SortedIn lt a (m + 1) d1 := by
  intro x y g1 g2 g3
  have e0 : ∀ k, k < i → d1[k]! = d[k]! := fun k hk => by rw [hr k, if_neg (by omega), if_neg (by omega)]
  have e1 : d1[i]! = d[m]! := by rw [hr i, if_pos (by omega)]; congr 1; omega
  have e2 : ∀ k, i < k → k < m + 1 → d1[k]! = d[k - 1]! := fun k h1 h2 => by rw [hr k, if_neg (by omega), if_pos (by omega)]; congr 1; omega
  rcases Nat.lt_or_ge y i with hy | hy
  · rw [e0 x (by omega), e0 y hy]; exact h1 x y g1 g2 (by omega)
  · rcases Nat.lt_or_ge i y with hy2 | hy2
    · rw [e2 y hy2 g3]
      rcases Nat.lt_or_ge x i with hx | hx
      · rw [e0 x hx]; exact h1 _ _ g1 (by omega) (by omega)
      · rcases Nat.lt_or_ge i x with hx2 | hx2
        · rw [e2 x hx2 (by omega)]; exact h1 _ _ (by omega) (by omega) (by omega)
        · obtain rfl : x = i := by omega
          rw [e1]
          have := hS.asymmA (hR (by omega))
          exact hS.ntrans _ _ _ (sorted_le h1 hS hi1 (show x ≤ y - 1 by omega) (by omega)) this
    · obtain rfl : y = i := by omega
      rw [e1, e0 x g2]
      exact hS.ntrans _ _ _ (hL (by omega)) (sorted_le h1 hS g1 (by omega) (by omega))

/-! ### Runs of one length -/
/-- From a on, runs of s (the last one: up to n) are sorted. -/
inductive Runs (lt : α → α → Bool) (s n : Nat) (d : Array α) : Nat → Prop
  | last {a : Nat} : n ≤ a + s → SortedIn lt a n d → Runs lt s n d a
  | more {a : Nat} : SortedIn lt a (a + s) d → Runs lt s n d (a + s) → Runs lt s n d a
theorem Runs.congr {s n a : Nat} {d d' : Array α} (h : Runs lt s n d a) (he : ∀ k, a ≤ k → k < n → d'[k]! = d[k]!) (hs : ∀ k, a ≤ k → n ≤ k → d'[k]! = d[k]!) : Runs lt s n d' a := by
  induction h with
  | last h1 h2 => exact .last h1 (sorted_congr h2 fun k g1 g2 => he k g1 g2)
  | more h1 _ ih =>
    refine .more (sorted_congr h1 fun k g1 g2 => ?_) (ih (fun k g1 g2 => he k (by omega) g2) (fun k g1 g2 => hs k (by omega) g2))
    rcases Nat.lt_or_ge k n with h | h
    · exact he k g1 h
    · exact hs k g1 h
theorem Runs.first {s n a : Nat} {d : Array α} (h : Runs lt s n d a) (hn : a + s ≤ n) : SortedIn lt a (a + s) d ∧ Runs lt s n d (a + s) := by
  cases h with
  | last h1 h2 =>
    obtain rfl : n = a + s := by omega
    exact ⟨h2, .last (by omega) (sorted_nil d (by omega))⟩
  | more h1 h2 => exact ⟨h1, h2⟩
theorem Runs.end {s n a : Nat} {d : Array α} (h : Runs lt s n d a) (hn : n ≤ a + s) : SortedIn lt a n d := by
  cases h with
  | last h1 h2 => exact h2
  | more h1 h2 => exact sorted_part h1 (Nat.le_refl _) hn
/-- What lies ahead of a is in runs of s already: with runs from a on there are runs from 0 on. -/
def Ahead (lt : α → α → Bool) (s n a : Nat) (d : Array α) : Prop := ∀ d' : Array α, (∀ k, k < a → d'[k]! = d[k]!) → Runs lt s n d' a → Runs lt s n d' 0
theorem Ahead.zero (s n : Nat) (d : Array α) : Ahead lt s n 0 d := fun _ _ h => h
theorem Ahead.step {s n a b : Nat} {d d1 : Array α} (h : Ahead lt s n a d) (hb : b = a + s) (he : ∀ k, k < a → d1[k]! = d[k]!) (hs : SortedIn lt a b d1) : Ahead lt s n b d1 := by
  subst hb
  intro d' h1 h2
  refine h d' (fun k hk => by rw [h1 k (by omega), he k hk]) (.more (sorted_congr hs fun k g1 g2 => h1 k g2) h2)
theorem Ahead.last {s n a : Nat} {d d1 : Array α} (h : Ahead lt s n a d) (hn : n ≤ a + s) (he : ∀ k, k < a → d1[k]! = d[k]!) (hs : SortedIn lt a n d1) : Runs lt s n d1 0 :=
  h d1 he (.last hn hs)
end
end Go.Proofs.YtalpfoomkhhgnaaGreatDoor

/-! slices.SortStableFunc's parts at a table's rows: two ranges exchanged. Conditions: as each theorem states. -/
namespace Go.Proofs.YtalpfoomkhhgnaaGreatDoor
open Go Go.Shelf Go.RowKit Go.Lib Go.Sort

/-- What the walks ask of a program: its types, its bodies. -/
structure StF (P : Program) (k : Nat) : Prop where
  mixed : P.follows .mixedOrders = true
  ti : P.underlying 3 = some (TypeDesc.int IntKind.i64)
  ai : ∀ w, (isAgg 3).run P w = .ok false w
  zi : ∀ w, (Go.sizeOf 3).run P w = .ok 1 w
  vi : ∀ w, (zeroValue 3).run P w = .ok (Value.int IntKind.i64 0) w
  tb : P.underlying 4 = some (TypeDesc.bool)
  ab : ∀ w, (isAgg 4).run P w = .ok false w
  zb : ∀ w, (Go.sizeOf 4).run P w = .ok 1 w
  vb : ∀ w, (zeroValue 4).run P w = .ok (Value.bool false) w
  ts : P.underlying 22 = some (TypeDesc.slice 30)
  asl : ∀ w, (isAgg 22).run P w = .ok false w
  zs : ∀ w, (Go.sizeOf 22).run P w = .ok 1 w
  ar : ∀ w, (isAgg 30).run P w = .ok true w
  zr : ∀ w, (Go.sizeOf 30).run P w = .ok k w
  eS : ∀ args w, (callFunc 203 args).run P w = .ok (.enter 203 args) w
  eR : ∀ args w, (callFunc 179 args).run P w = .ok (.enter 179 args) w
  fR : P.funcs[179]? = some Tryz.f179
  fS : P.funcs[203]? = some Tryz.f203
variable {P : Program} {α : Type} [Inhabited α]

set_option maxHeartbeats 8000000 in
set_option maxRecDepth 1000000 in
theorem swapRange_any (k : Nat) (L : StF P k) (enc : α → List Value) (g : Nat) (cb : Array Value) (blk off cap a b n : Nat) (d0 d : Array α) (w0 w : World)
    (R : RowK enc k w0 blk off d0) (hs : d0.size = d.size) (S : SWK enc k w0 blk off d w) (ha : a + n ≤ d.size) (hb : b + n ≤ d.size) (hsz : d.size < 4611686018427387904) :
    Calls P 203 #[.slice (some ⟨blk, off, none⟩) d.size cap, .int .i64 a, .int .i64 b, .int .i64 n, .func (.func g) #[] cb] w fun e w' => e = .returned (.tuple #[]) ∧ SWK enc k w0 blk off (swpR d a b n) w' := by
  have mixed := L.mixed; have ti := L.ti; have ai := L.ai; have zi := L.zi; have vi := L.vi; have tb := L.tb; have ab := L.ab; have zb := L.zb; have vb := L.vb; have ts := L.ts; have asl := L.asl; have zs := L.zs; have ar := L.ar; have zr := L.zr
  have FS := L.fS
  have S0 : Aside (SWK enc k w0 blk off d w) := S
  clear S L
  go_enter FS, Tryz.ntmps203
  go_wp2
  go_loopg [10] n (fun kx s8 wr => ∃ (i : Nat) (dk : Array α), s8 = .int .i64 i ∧ i ≤ n ∧ n - i ≤ kx ∧ dk.size = d.size ∧ Aside (SWK enc k w0 blk off dk wr) ∧ dk = swpR d a b i)
  case atStart => exact ⟨0, d, rfl, Nat.zero_le _, by omega, rfl, S0, rfl⟩
  case round =>
    clear S0
    obtain ⟨i, dk, rfl, hin, hkx, hds, S1, heq⟩ := hrel
    by_cases hlt : i < n
    · have hlz : (i : Int) < (n : Int) := by omega
      have eA : (((a : Int) + (i : Int))).toNat = a + i := by omega
      have pA : (0 : Int) ≤ (a : Int) + (i : Int) := by omega
      have bA : (a : Int) + (i : Int) < (d.size : Int) := by omega
      have rA : IntKind.i64.wrap ((a : Int) + (i : Int)) = (a : Int) + (i : Int) := by rw [IntKind.wrap_i64]; omega
      have eB : (((b : Int) + (i : Int))).toNat = b + i := by omega
      have pB : (0 : Int) ≤ (b : Int) + (i : Int) := by omega
      have bB : (b : Int) + (i : Int) < (d.size : Int) := by omega
      have rB : IntKind.i64.wrap ((b : Int) + (i : Int)) = (b : Int) + (i : Int) := by rw [IntKind.wrap_i64]; omega
      have S2 : Aside (SWK enc k w0 blk off (swp dk (a + i) (b + i)) ((wr.drew.setCells blk (off + (a + i) * k) (enc dk[b + i]!)).setCells blk (off + (b + i) * k) (enc dk[a + i]!))) := S1.out.swapped R (a + i) (b + i) (by omega) (by omega)
      have la := S1.out.ld1 R (by omega) P (a + i) (by omega)
      have lb := S1.out.ld1 R (by omega) P (b + i) (by omega)
      have sa := S1.out.st1 R (by omega) P (a + i) (by omega) dk[b + i]!
      have sb := S1.out.st2 R (by omega) P (a + i) (b + i) (by omega) (by omega) dk[b + i]! dk[a + i]!
      have nA : (enc dk[a + i]!).length = k := R.hk _
      have nB : (enc dk[b + i]!).length = k := R.hk _
      generalize enc dk[a + i]! = cA at S2 la sb nA
      generalize enc dk[b + i]! = cB at S2 lb sa sb nB
      clear S1
      go_wp2_with fail
      go_big_region_o
      clear la lb sa sb
      generalize (wr.drew.setCells blk (off + (a + i) * k) cB).setCells blk (off + (b + i) * k) cA = w2 at S2 ⊢
      go_wp2
      go_roundg (n - (i + 1))
      case measure => omega
      case rel => exact ⟨i + 1, swp dk (a + i) (b + i), by go_num, by omega, Nat.le_refl _, by rw [size_swp]; exact hds, S2, by rw [heq]; rfl⟩
    · obtain rfl : i = n := by omega
      go_wp2
      go_end0
      refine ⟨rfl, ?_⟩
      rw [← heq]
      exact S1.out

set_option maxHeartbeats 8000000 in
set_option maxRecDepth 1000000 in
theorem rotate_any (k : Nat) (L : StF P k) (enc : α → List Value) (g : Nat) (cb : Array Value) (blk off cap a m b : Nat) (d0 d : Array α) (w0 w : World)
    (R : RowK enc k w0 blk off d0) (hs : d0.size = d.size) (S : SWK enc k w0 blk off d w) (ham : a < m) (hmb : m < b) (hb : b ≤ d.size) (hsz : d.size < 4611686018427387904) :
    Calls P 179 #[.slice (some ⟨blk, off, none⟩) d.size cap, .int .i64 a, .int .i64 m, .int .i64 b, .func (.func g) #[] cb] w fun e w' => e = .returned (.tuple #[]) ∧ ∃ d', SWK enc k w0 blk off d' w' ∧ RotOf d a m b d' ∧ PermIn a b d d' := by
  have mixed := L.mixed; have ti := L.ti; have ai := L.ai; have zi := L.zi; have vi := L.vi; have tb := L.tb; have ab := L.ab; have zb := L.zb; have vb := L.vb; have ts := L.ts; have asl := L.asl; have zs := L.zs; have ar := L.ar; have zr := L.zr
  have eS := L.eS
  have FR := L.fR
  have HL : Aside (StF P k) := L
  have S0 : Aside (SWK enc k w0 blk off d w) := S
  have e1 : (m : Int) - (a : Int) = ((m - a : Nat) : Int) := by omega
  have e2 : (b : Int) - (m : Int) = ((b - m : Nat) : Int) := by omega
  have w1 : IntKind.i64.wrap ((m : Int) - (a : Int)) = ((m - a : Nat) : Int) := by rw [IntKind.wrap_i64]; omega
  have w2 : IntKind.i64.wrap ((b : Int) - (m : Int)) = ((b - m : Nat) : Int) := by rw [IntKind.wrap_i64]; omega
  clear S L
  go_enter FR, Tryz.ntmps179
  go_wp2
  go_loopg [10, 11] (b - a) (fun kx s1 s2 wr => ∃ (i j : Nat) (dk : Array α), s1 = .int .i64 i ∧ s2 = .int .i64 j ∧ 1 ≤ i ∧ 1 ≤ j ∧ i ≤ m - a ∧ j ≤ b - m ∧ i + j ≤ kx ∧ dk.size = d.size ∧ Aside (SWK enc k w0 blk off dk wr) ∧ Aside (∀ d', RotOf dk (m - i) m (m + j) d' → RotOf d a m b d') ∧ Aside (PermIn a b d dk))
  case atStart => exact ⟨m - a, b - m, d, rfl, rfl, by omega, by omega, Nat.le_refl _, Nat.le_refl _, by omega, rfl, S0, fun d' h => by rw [show m - (m - a) = a by omega, show m + (b - m) = b by omega] at h; exact h, permIn_refl _ _ _⟩
  case round =>
    clear S0 e1 e2 w1 w2
    obtain ⟨i, j, dk, rfl, rfl, hi1, hj1, hi, hj, hkx, hds, S1, H1, HP⟩ := hrel
    have c1 : (m : Int) - (i : Int) = ((m - i : Nat) : Int) := by omega
    have w1 : IntKind.i64.wrap ((m : Int) - (i : Int)) = ((m - i : Nat) : Int) := by rw [IntKind.wrap_i64]; omega
    have hbs : ∀ dk' : Array α, dk'.size = d.size → d0.size = dk'.size := fun dk' h => by omega
    by_cases hne : i = j
    · subst hne
      have hz : ((i : Int) == (i : Int)) = true := by simp
      have HC := swapRange_any (P := P) k HL.out enc g cb blk off cap (m - i) m i d0 dk w0 wr R (hbs _ hds) S1.out (by omega) (by omega) (by omega)
      rw [hds] at HC
      have HQ := rot_end dk (i := i) (m := m) (by omega) (by omega)
      have HPE : Aside (PermIn a b d (swpR dk (m - i) m i)) := permIn_trans _ _ _ _ _ HP.out (swpR_perm dk (lo := a) (hi := b) i (by omega) (by omega) (by omega) (by omega))
      have HQE : Aside (RotOf d a m b (swpR dk (m - i) m i)) := H1.out _ HQ
      clear HQ S1 H1 HP
      go_wp2_with (go_at_fn 203; refine HC.mono ?_; rintro e w3 ⟨rfl, hw3⟩)
      go_end0
      exact ⟨rfl, _, hw3, HQE.out, HPE.out⟩
    · have hz : ((i : Int) == (j : Int)) = false := by rw [beq_eq_false_iff_ne]; omega
      have hz2 : ¬ (i : Int) = (j : Int) := by omega
      by_cases hgt : j < i
      · have hg1 : (j : Int) < (i : Int) := by omega
        have w2 : IntKind.i64.wrap ((i : Int) - (j : Int)) = ((i - j : Nat) : Int) := by rw [IntKind.wrap_i64]; omega
        have c2 : (i : Int) - (j : Int) = ((i - j : Nat) : Int) := by omega
        have HC := swapRange_any (P := P) k HL.out enc g cb blk off cap (m - i) m j d0 dk w0 wr R (hbs _ hds) S1.out (by omega) (by omega) (by omega)
        rw [hds] at HC
        have HPE : Aside (PermIn a b d (swpR dk (m - i) m j)) := permIn_trans _ _ _ _ _ HP.out (swpR_perm dk (lo := a) (hi := b) j (by omega) (by omega) (by omega) (by omega))
        have HQE : Aside (∀ d', RotOf (swpR dk (m - i) m j) (m - (i - j)) m (m + j) d' → RotOf d a m b d') := fun d' h => H1.out _ (rot_left (by omega) hgt (by omega) h)
        have hsz2 : (swpR dk (m - i) m j).size = d.size := by rw [swpR_size]; exact hds
        clear S1 H1 HP
        go_wp2_with (go_at_fn 203; refine HC.mono ?_; rintro e w3 ⟨rfl, hw3⟩)
        go_roundg (i - j + j)
        case measure => omega
        case rel => exact ⟨i - j, j, _, by go_num, rfl, by omega, hj1, by omega, hj, Nat.le_refl _, hsz2, hw3, HQE.out, HPE.out⟩
      · have hg1 : ¬ (j : Int) < (i : Int) := by omega
        have w2 : IntKind.i64.wrap ((j : Int) - (i : Int)) = ((j - i : Nat) : Int) := by rw [IntKind.wrap_i64]; omega
        have c2 : (j : Int) - (i : Int) = ((j - i : Nat) : Int) := by omega
        have w3 : IntKind.i64.wrap ((m : Int) + (j : Int)) = ((m + j : Nat) : Int) := by rw [IntKind.wrap_i64]; omega
        have w4 : IntKind.i64.wrap (((m + j : Nat) : Int) - (i : Int)) = ((m + j - i : Nat) : Int) := by rw [IntKind.wrap_i64]; omega
        have w5 : IntKind.i64.wrap ((m : Int) + (j : Int) - (i : Int)) = ((m + j - i : Nat) : Int) := by rw [IntKind.wrap_i64]; omega
        have HC := swapRange_any (P := P) k HL.out enc g cb blk off cap (m - i) (m + j - i) i d0 dk w0 wr R (hbs _ hds) S1.out (by omega) (by omega) (by omega)
        rw [hds] at HC
        have HPE : Aside (PermIn a b d (swpR dk (m - i) (m + j - i) i)) := permIn_trans _ _ _ _ _ HP.out (swpR_perm dk (lo := a) (hi := b) i (by omega) (by omega) (by omega) (by omega))
        have HQE : Aside (∀ d', RotOf (swpR dk (m - i) (m + j - i) i) (m - i) m (m + (j - i)) d' → RotOf d a m b d') := fun d' h => H1.out _ (rot_right (by omega) (by omega) (by omega) h)
        have hsz2 : (swpR dk (m - i) (m + j - i) i).size = d.size := by rw [swpR_size]; exact hds
        clear S1 H1 HP
        go_wp2_with (go_at_fn 203; refine HC.mono ?_; rintro e w3 ⟨rfl, hw3⟩)
        go_roundg (i + (j - i))
        case measure => omega
        case rel => exact ⟨i, j - i, _, rfl, by go_num, hi1, by omega, hi, by omega, Nat.le_refl _, hsz2, hw3, HQE.out, HPE.out⟩
end Go.Proofs.YtalpfoomkhhgnaaGreatDoor

/-! slices.symMergeCmpFunc at a table's rows. Conditions: as each theorem states. -/
namespace Go.Proofs.YtalpfoomkhhgnaaGreatDoor
open Go Go.Shelf Go.RowKit Go.Lib Go.Sort

/-- .. and for the merging: the unsigned type, the comparing function's, the body. -/
structure StM (P : Program) (k : Nat) : Prop where
  F : StF P k
  tu : P.underlying 102 = some (TypeDesc.int IntKind.u64)
  au : ∀ w, (isAgg 102).run P w = .ok false w
  zu : ∀ w, (Go.sizeOf 102).run P w = .ok 1 w
  vu : ∀ w, (zeroValue 102).run P w = .ok (Value.int IntKind.u64 0) w
  eM : ∀ args w, (callFunc 140 args).run P w = .ok (.enter 140 args) w
  fM : P.funcs[140]? = some Tryz.f140
variable {P : Program} {α : Type} [Inhabited α]

set_option maxHeartbeats 16000000 in
set_option maxRecDepth 1000000 in
theorem symMerge_any (k : Nat) (L : StM P k) (enc : α → List Value) (cf : α → α → Int) (hO : SWO (ltOf cf)) (g : Nat) (cb : Array Value) (blk off cap : Nat) (d0 : Array α) (w0 : World)
    (eg : ∀ args w, (callFunc g args).run P w = .ok (.enter g args) w) (hcmp : CmpLays P g cb enc k cf blk off d0.size w0) (R : RowK enc k w0 blk off d0) (hsz : d0.size < 4611686018427387904) :
    ∀ (N a m b : Nat) (d : Array α) (w : World), b - a < N → d0.size = d.size → SWK enc k w0 blk off d w → a < m → m < b → b ≤ d.size → SortedIn (ltOf cf) a m d → SortedIn (ltOf cf) m b d →
    Calls P 140 #[.slice (some ⟨blk, off, none⟩) d.size cap, .int .i64 a, .int .i64 m, .int .i64 b, .func (.func g) #[] cb] w fun e w' => e = .returned (.tuple #[]) ∧ ∃ d', SWK enc k w0 blk off d' w' ∧ PermIn a b d d' ∧ SortedIn (ltOf cf) a b d' := by
  have mixed := L.F.mixed; have ti := L.F.ti; have ai := L.F.ai; have zi := L.F.zi; have vi := L.F.vi; have tb := L.F.tb; have ab := L.F.ab; have zb := L.F.zb; have vb := L.F.vb; have ts := L.F.ts; have asl := L.F.asl; have zs := L.F.zs; have ar := L.F.ar; have zr := L.F.zr
  have tu := L.tu; have au := L.au; have zu := L.zu; have vu := L.vu
  have eR := L.F.eR
  have eM := L.eM
  have FM := L.fM
  have HL : Aside (StM P k) := L
  have HC : Aside _ := hcmp
  intro N
  induction N with
  | zero => intro _ _ _ _ _ h; exact absurd h (Nat.not_lt_zero _)
  | succ N ih =>
    intro a m b d w hN hs S ham hmb hb s1 s2
    have S0 : Aside (SWK enc k w0 blk off d w) := S
    have IH : Aside _ := ih
    have Q1 : Aside (SortedIn (ltOf cf) a m d) := s1
    have Q2 : Aside (SortedIn (ltOf cf) m b d) := s2
    clear S ih s1 s2 L hcmp
    by_cases h1 : m - a = 1
    · as_aux_lemma =>
      have HM : Aside (m = a + 1) := by show m = a + 1; omega
      have hz : (((m : Int) - (a : Int)) == 1) = true := by rw [beq_iff_eq]; omega
      have hwz : IntKind.i64.wrap ((m : Int) - (a : Int)) = (m : Int) - (a : Int) := by rw [IntKind.wrap_i64]; omega
      go_enter FM, Tryz.ntmps140
      go_wp2
      go_loopg [10, 11] (b - a) (fun kx s8 s9 wr => ∃ (i j : Nat), s8 = .int .i64 i ∧ s9 = .int .i64 j ∧ m ≤ i ∧ i ≤ j ∧ j ≤ b ∧ j - i ≤ kx ∧ Aside (SWK enc k w0 blk off d wr) ∧ Aside (m < i → ltOf cf d[i - 1]! d[a]! = true) ∧ Aside (j < b → ltOf cf d[j]! d[a]! = false))
      case atStart => exact ⟨m, b, rfl, rfl, Nat.le_refl _, by omega, Nat.le_refl _, by omega, S0, fun h => absurd h (by omega), fun h => absurd h (by omega)⟩
      case round =>
        clear S0
        obtain ⟨i, j, rfl, rfl, hi1, hij, hjb, hkx, S1, H1, H2⟩ := hrel
        by_cases hlt : i < j
        · have hlz : (i : Int) < (j : Int) := by omega
          have hw1 : IntKind.i64.wrap ((i : Int) + (j : Int)) = (i : Int) + (j : Int) := by rw [IntKind.wrap_i64]; omega
          go_upto_region 5 with fail
          obtain ⟨h, hh⟩ : ∃ h : Nat, ((i : Int) + (j : Int)) / 2 = (h : Int) := ⟨(i + j) / 2, by omega⟩
          obtain ⟨hih, hhj⟩ : i ≤ h ∧ h < j := by omega
          rw [hh]
          clear hw1 hh
          have lh := S1.out.ld R hs.symm P h (by omega)
          have la := S1.out.ld R hs.symm P a (by omega)
          have hcg := S1.out.cmp HC.out hs.symm d[h]! d[a]!
          have hbh : (h : Int) < (d.size : Int) := by omega
          have hba : (a : Int) < (d.size : Int) := by omega
          have CLS : Aside (∀ n os, SWK enc k w0 blk off d (grow (wr.drewN n) os)) := fun n os => S1.out.grown n os
          obtain ⟨xh, hxh⟩ : ∃ x, d[h]! = x := ⟨_, rfl⟩
          obtain ⟨xa, hxa⟩ : ∃ x, d[a]! = x := ⟨_, rfl⟩
          rw [hxh] at lh hcg
          rw [hxa] at la hcg
          have HX : Aside (ltOf cf d[h]! d[a]! = decide (cf xh xa < 0)) := by rw [hxh, hxa]; rfl
          clear S1 hxh hxa
          by_cases hlv : cf xh xa < 0
          · go_quiet_grown (first | (go_at_fn g; refine Calls.grown_of (hcg _ _)))
            go_wp2
            go_roundg (j - (h + 1))
            case measure => omega
            case rel => exact ⟨h + 1, j, by go_num, rfl, by omega, by omega, hjb, Nat.le_refl _, CLS.out nq osq, fun _ => by rw [Nat.add_sub_cancel]; exact HX.out.trans (decide_eq_true hlv), H2.out⟩
          · go_quiet_grown (first | (go_at_fn g; refine Calls.grown_of (hcg _ _)))
            go_wp2
            go_roundg (h - i)
            case measure => omega
            case rel => exact ⟨i, h, rfl, rfl, hi1, by omega, by omega, Nat.le_refl _, CLS.out nq osq, H1.out, fun _ => HX.out.trans (decide_eq_false (by omega))⟩
        · obtain rfl : i = j := by omega
          have hlz : ¬ (i : Int) < (i : Int) := by omega
          have hwi : IntKind.i64.wrap ((i : Int) - 1) = (i : Int) - 1 := by rw [IntKind.wrap_i64]; omega
          go_wp2
          go_loopg [13] (b - a) (fun kx s13 wr2 => ∃ (q : Nat) (dk : Array α), s13 = .int .i64 q ∧ a ≤ q ∧ q + 1 ≤ i ∧ i - q ≤ kx + 1 ∧ dk.size = d.size ∧ Aside (SWK enc k w0 blk off dk wr2) ∧ Aside (RotOf d a m (q + 1) dk) ∧ Aside (PermIn a b d dk))
          case atStart => exact ⟨a, d, rfl, Nat.le_refl _, by omega, by omega, rfl, S1, by show RotOf d a m (a + 1) d; rw [HM.out]; exact rot_nilR d a (a + 1), permIn_refl _ _ _⟩
          case round =>
            clear S1
            obtain ⟨q, dk, rfl, hq1, hq2, hkq, hds, S2, HR, HP⟩ := hrel
            by_cases hlq : q + 1 < i
            · have hlz2 : (q : Int) < (i : Int) - 1 := by omega
              have eA : ((q : Int)).toNat = q := by omega
              have pA : (0 : Int) ≤ (q : Int) := by omega
              have bA : (q : Int) < (d.size : Int) := by omega
              have eB : ((q : Int) + 1).toNat = q + 1 := by omega
              have pB : (0 : Int) ≤ (q : Int) + 1 := by omega
              have bB : (q : Int) + 1 < (d.size : Int) := by omega
              have rB : IntKind.i64.wrap ((q : Int) + 1) = (q : Int) + 1 := by rw [IntKind.wrap_i64]; omega
              have S3 : Aside (SWK enc k w0 blk off (swp dk q (q + 1)) ((wr.drew.setCells blk (off + q * k) (enc dk[q + 1]!)).setCells blk (off + (q + 1) * k) (enc dk[q]!))) := S2.out.swapped R q (q + 1) (by omega) (by omega)
              have la := S2.out.ld1 R (by omega) P q (by omega)
              have lb := S2.out.ld1 R (by omega) P (q + 1) (by omega)
              have sa := S2.out.st1 R (by omega) P q (by omega) dk[q + 1]!
              have sb := S2.out.st2 R (by omega) P q (q + 1) (by omega) (by omega) dk[q + 1]! dk[q]!
              have nA : (enc dk[q]!).length = k := R.hk _
              have nB : (enc dk[q + 1]!).length = k := R.hk _
              have HR3 : Aside (RotOf d a m (q + 2) (swp dk q (q + 1))) := by have h9 := HR.out; rw [HM.out] at h9 ⊢; exact rot_up h9 hq1 (by omega)
              have HP3 : Aside (PermIn a b d (swp dk q (q + 1))) := permIn_trans _ _ _ _ _ HP.out (swp_permIn _ _ _ _ _ hq1 (by omega) (by omega) (by omega) (by omega))
              generalize enc dk[q]! = cA at S3 la sb nA
              generalize enc dk[q + 1]! = cB at S3 lb sa sb nB
              clear S2 HR HP
              go_wp2_with fail
              go_big_region_o
              clear la lb sa sb
              generalize (wr.drew.setCells blk (off + q * k) cB).setCells blk (off + (q + 1) * k) cA = w2 at S3 ⊢
              go_wp2
              go_roundg (i - (q + 1) - 1)
              case measure => omega
              case rel => exact ⟨q + 1, swp dk q (q + 1), by go_num, by omega, by omega, by omega, by rw [size_swp]; exact hds, S3, HR3, HP3⟩
            · have hlz2 : ¬ (q : Int) < (i : Int) - 1 := by omega
              have HQI : Aside (q + 1 = i) := by show q + 1 = i; omega
              go_wp2
              first | (refine bodyPost_ret (results_none rfl _ _ _) rfl ?_) | (simp only [Exit.inBlock, Exit.then]; refine bodyPost_ret (results_none rfl _ _ _) rfl ?_)
              obtain rfl : q + 1 = i := HQI.out
              refine ⟨rfl, dk, S2.out, HP.out, ?_⟩
              have r9 := HR.out
              have q9 := Q2.out
              have l9 := H1.out
              rw [HM.out] at r9 q9 l9
              exact one_left hO q9 (by omega) hjb r9 l9 H2.out
    · have hz0 : (((m : Int) - (a : Int)) == 1) = false := by rw [beq_eq_false_iff_ne]; omega
      have hwz : IntKind.i64.wrap ((m : Int) - (a : Int)) = (m : Int) - (a : Int) := by rw [IntKind.wrap_i64]; omega
      have hwy : IntKind.i64.wrap ((b : Int) - (m : Int)) = (b : Int) - (m : Int) := by rw [IntKind.wrap_i64]; omega
      by_cases h2 : b - m = 1
      · as_aux_lemma =>
        have HM : Aside (b = m + 1) := by show b = m + 1; omega
        have hz : (((b : Int) - (m : Int)) == 1) = true := by rw [beq_iff_eq]; omega
        go_enter FM, Tryz.ntmps140
        go_wp2
        go_loopg [14, 15] (m - a) (fun kx s8 s9 wr => ∃ (i j : Nat), s8 = .int .i64 i ∧ s9 = .int .i64 j ∧ a ≤ i ∧ i ≤ j ∧ j ≤ m ∧ j - i ≤ kx ∧ Aside (SWK enc k w0 blk off d wr) ∧ Aside (a < i → ltOf cf d[m]! d[i - 1]! = false) ∧ Aside (j < m → ltOf cf d[m]! d[j]! = true))
        case atStart => exact ⟨a, m, rfl, rfl, Nat.le_refl _, by omega, Nat.le_refl _, by omega, S0, fun h => absurd h (by omega), fun h => absurd h (by omega)⟩
        case round =>
          clear S0
          obtain ⟨i, j, rfl, rfl, hi1, hij, hjb, hkx, S1, H1, H2⟩ := hrel
          by_cases hlt : i < j
          · have hlz : (i : Int) < (j : Int) := by omega
            have hw1 : IntKind.i64.wrap ((i : Int) + (j : Int)) = (i : Int) + (j : Int) := by rw [IntKind.wrap_i64]; omega
            go_upto_region 17 with fail
            obtain ⟨h, hh⟩ : ∃ h : Nat, ((i : Int) + (j : Int)) / 2 = (h : Int) := ⟨(i + j) / 2, by omega⟩
            obtain ⟨hih, hhj⟩ : i ≤ h ∧ h < j := by omega
            rw [hh]
            clear hw1 hh
            have lh := S1.out.ld R hs.symm P h (by omega)
            have la := S1.out.ld R hs.symm P m (by omega)
            have hcg := S1.out.cmp HC.out hs.symm d[m]! d[h]!
            have hbh : (h : Int) < (d.size : Int) := by omega
            have hba : (m : Int) < (d.size : Int) := by omega
            have CLS : Aside (∀ n os, SWK enc k w0 blk off d (grow (wr.drewN n) os)) := fun n os => S1.out.grown n os
            obtain ⟨xh, hxh⟩ : ∃ x, d[h]! = x := ⟨_, rfl⟩
            obtain ⟨xa, hxa⟩ : ∃ x, d[m]! = x := ⟨_, rfl⟩
            rw [hxh] at lh hcg
            rw [hxa] at la hcg
            have HX : Aside (ltOf cf d[m]! d[h]! = decide (cf xa xh < 0)) := by rw [hxh, hxa]; rfl
            clear S1 hxh hxa
            by_cases hlv : cf xa xh < 0
            · go_quiet_grown (first | (go_at_fn g; refine Calls.grown_of (hcg _ _)))
              go_wp2
              go_roundg (h - i)
              case measure => omega
              case rel => exact ⟨i, h, rfl, rfl, hi1, by omega, by omega, Nat.le_refl _, CLS.out nq osq, H1.out, fun _ => HX.out.trans (decide_eq_true hlv)⟩
            · go_quiet_grown (first | (go_at_fn g; refine Calls.grown_of (hcg _ _)))
              go_wp2
              go_roundg (j - (h + 1))
              case measure => omega
              case rel => exact ⟨h + 1, j, by go_num, rfl, by omega, by omega, hjb, Nat.le_refl _, CLS.out nq osq, fun _ => by rw [Nat.add_sub_cancel]; exact HX.out.trans (decide_eq_false (by omega)), H2.out⟩
          · obtain rfl : i = j := by omega
            have hlz : ¬ (i : Int) < (i : Int) := by omega
            go_wp2
            go_loopg [17] (m - a) (fun kx s13 wr2 => ∃ (q : Nat) (dk : Array α), s13 = .int .i64 q ∧ i ≤ q ∧ q ≤ m ∧ q - i ≤ kx ∧ dk.size = d.size ∧ Aside (SWK enc k w0 blk off dk wr2) ∧ Aside (RotOf d q m (m + 1) dk) ∧ Aside (PermIn a b d dk))
            case atStart => exact ⟨m, d, rfl, by omega, Nat.le_refl _, by omega, rfl, S1, rot_nilL d m (m + 1), permIn_refl _ _ _⟩
            case round =>
              clear S1
              obtain ⟨q, dk, rfl, hq1, hq2, hkq, hds, S2, HR, HP⟩ := hrel
              by_cases hlq : i < q
              · obtain ⟨r, hr⟩ : ∃ r, r + 1 = q := ⟨q - 1, by omega⟩
                have hlz2 : (i : Int) < (q : Int) := by omega
                have eA : ((q : Int)).toNat = q := by omega
                have pA : (0 : Int) ≤ (q : Int) := by omega
                have bA : (q : Int) < (d.size : Int) := by omega
                have eB : ((q : Int) - 1).toNat = r := by omega
                have pB : (0 : Int) ≤ (q : Int) - 1 := by omega
                have bB : (q : Int) - 1 < (d.size : Int) := by omega
                have rB : IntKind.i64.wrap ((q : Int) - 1) = (q : Int) - 1 := by rw [IntKind.wrap_i64]; omega
                have S3 : Aside (SWK enc k w0 blk off (swp dk q r) ((wr.drew.setCells blk (off + q * k) (enc dk[r]!)).setCells blk (off + r * k) (enc dk[q]!))) := S2.out.swapped R q r (by omega) (by omega)
                have la := S2.out.ld1 R (by omega) P q (by omega)
                have lb := S2.out.ld1 R (by omega) P r (by omega)
                have sa := S2.out.st1 R (by omega) P q (by omega) dk[r]!
                have sb := S2.out.st2 R (by omega) P q r (by omega) (by omega) dk[r]! dk[q]!
                have nA : (enc dk[q]!).length = k := R.hk _
                have nB : (enc dk[r]!).length = k := R.hk _
                have HR3 : Aside (RotOf d r m (m + 1) (swp dk q r)) := by have h9 := HR.out; rw [← hr] at h9 ⊢; exact rot_down h9 (by omega) (by omega)
                have HP3 : Aside (PermIn a b d (swp dk q r)) := permIn_trans _ _ _ _ _ HP.out (swp_permIn _ _ _ _ _ (by omega) (by omega) (by omega) (by omega) (by omega))
                generalize enc dk[q]! = cA at S3 la sb nA
                generalize enc dk[r]! = cB at S3 lb sa sb nB
                have HRQ : Aside (r + 1 = q) := hr
                clear S2 HR HP hr
                go_wp2_with fail
                go_big_region_o
                clear la lb sa sb
                generalize (wr.drew.setCells blk (off + q * k) cB).setCells blk (off + r * k) cA = w2 at S3 ⊢
                go_wp2
                have hrq := HRQ.out
                go_roundg (r - i)
                case measure => omega
                case rel => exact ⟨r, swp dk q r, by go_num, by omega, by omega, Nat.le_refl _, by rw [size_swp]; exact hds, S3, HR3, HP3⟩
              · have hlz2 : ¬ (i : Int) < (q : Int) := by omega
                have HQI : Aside (q = i) := by show q = i; omega
                go_wp2
                first | (refine bodyPost_ret (results_none rfl _ _ _) rfl ?_) | (simp only [Exit.inBlock, Exit.then]; refine bodyPost_ret (results_none rfl _ _ _) rfl ?_)
                obtain rfl : q = i := HQI.out
                refine ⟨rfl, dk, S2.out, HP.out, ?_⟩
                have q9 := one_right hO Q1.out hi1 hjb HR.out H1.out H2.out
                rw [HM.out]
                exact q9
      · have hz1 : (((b : Int) - (m : Int)) == 1) = false := by rw [beq_eq_false_iff_ne]; omega
        have hwab : IntKind.i64.wrap ((a : Int) + (b : Int)) = (a : Int) + (b : Int) := by rw [IntKind.wrap_i64]; omega
        obtain ⟨mid, hmid⟩ : ∃ mid : Nat, ((a : Int) + (b : Int)) / 2 = (mid : Int) := ⟨(a + b) / 2, by omega⟩
        obtain ⟨hm1, hm2⟩ : 2 * mid ≤ a + b ∧ a + b ≤ 2 * mid + 1 := by omega
        obtain ⟨n, hn⟩ : ∃ n : Nat, n = mid + m := ⟨_, rfl⟩
        have hwn : IntKind.i64.wrap ((mid : Int) + (m : Int)) = (n : Int) := by rw [IntKind.wrap_i64]; omega
        obtain ⟨lo, hi, hlo⟩ : ∃ lo hi : Nat, (mid < m ∧ lo + b = n ∧ hi = mid) ∨ (m ≤ mid ∧ lo = a ∧ hi = m) := by
          by_cases h : mid < m
          · exact ⟨n - b, mid, .inl ⟨h, by omega, rfl⟩⟩
          · exact ⟨a, m, .inr ⟨by omega, rfl, rfl⟩⟩
        obtain ⟨p, hp⟩ : ∃ p : Nat, p + 1 = n := ⟨n - 1, by omega⟩
        have hwp : IntKind.i64.wrap ((n : Int) - 1) = (p : Int) := by rw [IntKind.wrap_i64]; omega
        obtain ⟨hlh, ham2, hmb2⟩ : lo ≤ hi ∧ a < mid ∧ mid < b := by omega
        have HNN : Aside (n = mid + m) := hn
        have HPN : Aside (p + 1 = n) := hp
        clear hn hp
        go_enter FM, Tryz.ntmps140
        go_upto_region 25 with fail
        clear hwab
        go_upto_if 140 with fail
        go_cut [20, 21] (fun s r wx => s = .int .i64 lo ∧ r = .int .i64 hi ∧ wx = w)
        case first =>
          as_aux_lemma =>
            rcases hlo with ⟨g1, g2, g3⟩ | ⟨g1, g2, g3⟩
            · have g4 : (mid : Int) < (m : Int) := by omega
              have hn := HNN.out
              have g5 : IntKind.i64.wrap ((n : Int) - (b : Int)) = (lo : Int) := by rw [IntKind.wrap_i64]; omega
              subst g3
              clear hn
              go_wp2_with fail
              go_meet
              case rel => exact ⟨rfl, rfl, rfl⟩
            · have g4 : ¬ (mid : Int) < (m : Int) := by omega
              subst g2
              subst g3
              go_wp2_with fail
              go_meet
              case rel => exact ⟨rfl, rfl, rfl⟩
        case rest =>
        obtain ⟨rfl, rfl, rfl⟩ := hcut
        go_wp2_with fail
        go_loopg [20, 21] (b - a) (fun kx s20 s21 wr => ∃ (i j : Nat), s20 = .int .i64 i ∧ s21 = .int .i64 j ∧ lo ≤ i ∧ i ≤ j ∧ j ≤ hi ∧ j - i ≤ kx ∧ Aside (SWK enc k w0 blk off d wr) ∧ Aside (lo < i → ltOf cf d[n - 1 - (i - 1)]! d[i - 1]! = false) ∧ Aside (j < hi → ltOf cf d[n - 1 - j]! d[j]! = true))
        case atStart => exact ⟨lo, hi, rfl, rfl, Nat.le_refl _, hlh, Nat.le_refl _, by have := HNN.out; omega, S0, fun h => absurd h (by omega), fun h => absurd h (by omega)⟩
        case round =>
        clear S0
        obtain ⟨i, j, rfl, rfl, hi1, hij, hjb, hkx, S1, H1, H2⟩ := hrel
        have hn := HNN.out
        have hp := HPN.out
        by_cases hlt : i < j
        · have hlz : (i : Int) < (j : Int) := by omega
          have hw1 : IntKind.i64.wrap ((i : Int) + (j : Int)) = (i : Int) + (j : Int) := by rw [IntKind.wrap_i64]; omega
          obtain ⟨h, hh⟩ : ∃ h : Nat, ((i : Int) + (j : Int)) / 2 = (h : Int) := ⟨(i + j) / 2, by omega⟩
          obtain ⟨hih, hhj⟩ : i ≤ h ∧ h < j := by omega
          obtain ⟨q, hq⟩ : ∃ q : Nat, q + h = p := ⟨p - h, by omega⟩
          have hwq : IntKind.i64.wrap ((p : Int) - (h : Int)) = (q : Int) := by rw [IntKind.wrap_i64]; omega
          have lh := S1.out.ld R hs.symm P q (by omega)
          have la := S1.out.ld R hs.symm P h (by omega)
          have hcg := S1.out.cmp HC.out hs.symm d[q]! d[h]!
          have hbh : (q : Int) < (d.size : Int) := by omega
          have hba : (h : Int) < (d.size : Int) := by omega
          have CLS : Aside (∀ n os, SWK enc k w0 blk off d (grow (wr.drewN n) os)) := fun n os => S1.out.grown n os
          obtain ⟨xh, hxh⟩ : ∃ x, d[q]! = x := ⟨_, rfl⟩
          obtain ⟨xa, hxa⟩ : ∃ x, d[h]! = x := ⟨_, rfl⟩
          rw [hxh] at lh hcg
          rw [hxa] at la hcg
          have HX : Aside (ltOf cf d[q]! d[h]! = decide (cf xh xa < 0)) := by rw [hxh, hxa]; rfl
          have HQ1 : Aside (n - 1 - h = q) := by show n - 1 - h = q; omega
          clear S1 hxh hxa hn hp hq
          by_cases hlv : cf xh xa < 0
          · go_upto_region 35 with fail
            clear hw1 hh
            go_quiet_grown (first | (go_at_fn g; refine Calls.grown_of (hcg _ _)))
            go_wp2
            go_roundg (h - i)
            case measure => omega
            case rel => exact ⟨i, h, rfl, rfl, hi1, by omega, by omega, Nat.le_refl _, CLS.out nq osq, H1.out, fun _ => by rw [HQ1.out]; exact HX.out.trans (decide_eq_true hlv)⟩
          · go_upto_region 35 with fail
            clear hw1 hh
            go_quiet_grown (first | (go_at_fn g; refine Calls.grown_of (hcg _ _)))
            go_wp2
            go_roundg (j - (h + 1))
            case measure => omega
            case rel => exact ⟨h + 1, j, by go_num, rfl, by omega, by omega, hjb, Nat.le_refl _, CLS.out nq osq, fun _ => by rw [Nat.add_sub_cancel, HQ1.out]; exact HX.out.trans (decide_eq_false (by omega)), H2.out⟩
        obtain rfl : i = j := by omega
        have hlz : ¬ (i : Int) < (i : Int) := by omega
        obtain ⟨e, he⟩ : ∃ e : Nat, e + i = n := ⟨n - i, by omega⟩
        have hwe : IntKind.i64.wrap ((n : Int) - (i : Int)) = (e : Int) := by rw [IntKind.wrap_i64]; omega
        have HCT : Aside (Cut (ltOf cf) d a m b i e) := by
          have h9 := cut_search hO Q1.out Q2.out hi1 hjb (n := n) (by omega) H1.out H2.out
          rw [show n - i = e by omega] at h9
          exact h9
        obtain ⟨hai, him, hme, heb, hmide⟩ : a ≤ i ∧ i ≤ m ∧ m ≤ e ∧ e ≤ b ∧ mid = i + (e - m) := by omega
        obtain ⟨him2, hmie⟩ : i ≤ mid ∧ mid ≤ e := by omega
        clear H1 H2 hlo hm1 hm2 hwn hwp hp hn hi1 hjb hlh hkx he
        have HMD : Aside (mid = i + (e - m)) := hmide
        clear hmide
        obtain ⟨c, hc⟩ : ∃ c, decide (i < m ∧ m < e) = c := ⟨_, rfl⟩
        have hx1 : c = true → i < m ∧ m < e := fun h => by rw [← hc, decide_eq_true_eq] at h; exact h
        have hx2 : c = false → m ≤ i ∨ e ≤ m := fun h => by rw [← hc, decide_eq_false_iff_not] at h; omega
        go_upto_region 39 with fail
        go_cut [20, 24, 185] (fun s20 s24 sb wx => s20 = .int .i64 i ∧ s24 = .int .i64 e ∧ sb = .bool c ∧ wx = wr)
        case first =>
          as_aux_lemma =>
            rcases (show (i < m ∧ m < e) ∨ m ≤ i ∨ (i < m ∧ e ≤ m) by omega) with ⟨g1, g2⟩ | g1 | ⟨g1, g2⟩
            · have k1 : (i : Int) < (m : Int) := by omega
              have k2 : (m : Int) < (e : Int) := by omega
              have hct : Aside (true = c) := by show true = c; rw [← hc]; exact (decide_eq_true ⟨g1, g2⟩).symm
              clear hx1 hx2 hc
              go_wp2_with fail
              go_meet
              case rel => exact ⟨rfl, rfl, congrArg Value.bool hct.out, rfl⟩
            · have k1 : ¬ (i : Int) < (m : Int) := by omega
              have hct : Aside (false = c) := by show false = c; rw [← hc]; exact (decide_eq_false (by omega)).symm
              clear hx1 hx2 hc
              go_wp2_with fail
              go_meet
              case rel => exact ⟨rfl, rfl, congrArg Value.bool hct.out, rfl⟩
            · have k1 : (i : Int) < (m : Int) := by omega
              have k2 : ¬ (m : Int) < (e : Int) := by omega
              have hct : Aside (false = c) := by show false = c; rw [← hc]; exact (decide_eq_false (by omega)).symm
              clear hx1 hx2 hc
              go_wp2_with fail
              go_meet
              case rel => exact ⟨rfl, rfl, congrArg Value.bool hct.out, rfl⟩
        case rest =>
        obtain ⟨rfl, rfl, rfl, rfl⟩ := hcut
        clear hc
        go_upto_if 185 with fail
        go_cut [20, 24] (fun s20 s24 wx => s20 = .int .i64 i ∧ s24 = .int .i64 e ∧ ∃ d1 : Array α, d1.size = d.size ∧ Aside (SWK enc k w0 blk off d1 wx) ∧ Aside (RotOf d i m e d1) ∧ Aside (PermIn a b d d1))
        case first =>
          as_aux_lemma =>
            cases c
            case true =>
              obtain ⟨g1, g2⟩ := hx1 rfl
              have HR := rotate_any (P := P) k HL.out.F enc g cb blk off cap i m e d0 d w0 _ R hs S1.out g1 g2 (by omega) (by omega)
              clear hx1 hx2
              go_wp2_with (go_at_fn 179; refine HR.mono ?_; rintro ez w3 ⟨rfl, d1, hw3, hr3, hp3⟩)
              go_meet
              case rel => exact ⟨rfl, rfl, d1, hp3.1, hw3, hr3, permIn_mono _ _ _ _ _ _ hai heb hb hp3⟩
            case false =>
              have g9 := hx2 rfl
              have hrr : RotOf d i m e d := by
                rcases (show i = m ∨ m = e by omega) with rfl | rfl
                · exact rot_nilL d i e
                · exact rot_nilR d i m
              clear hx1 hx2 g9
              go_wp2_with fail
              go_meet
              case rel => exact ⟨rfl, rfl, d, rfl, S1, hrr, permIn_refl _ _ _⟩
        case rest =>
        obtain ⟨rfl, rfl, d1, hds1, S2, HR1, HP1⟩ := hcut
        clear hx1 hx2
        have HCU : Aside _ := cut_turn Q1.out Q2.out HR1.out hai him hme heb HMD.out HCT.out
        clear S1 HCT Q1 Q2 HR1 hlt hlz hwe
        obtain ⟨we, hwe⟩ : ∃ we, wc = we := ⟨_, rfl⟩
        rw [hwe] at S2 ⊢
        clear hwe
        obtain ⟨c, hc⟩ : ∃ c, decide (a < i ∧ i < mid) = c := ⟨_, rfl⟩
        have hx1 : c = true → a < i ∧ i < mid := fun h => by rw [← hc, decide_eq_true_eq] at h; exact h
        have hx2 : c = false → i ≤ a ∨ mid ≤ i := fun h => by rw [← hc, decide_eq_false_iff_not] at h; omega
        go_upto_region 41 with fail
        go_cut [20, 24, 199] (fun s20 s24 sb wx => s20 = .int .i64 i ∧ s24 = .int .i64 e ∧ sb = .bool c ∧ wx = we)
        case first =>
          as_aux_lemma =>
            rcases (show (a < i ∧ i < mid) ∨ i ≤ a ∨ (a < i ∧ mid ≤ i) by omega) with ⟨g1, g2⟩ | g1 | ⟨g1, g2⟩
            · have k1 : (a : Int) < (i : Int) := by omega
              have k2 : (i : Int) < (mid : Int) := by omega
              have hct : Aside (true = c) := by show true = c; rw [← hc]; exact (decide_eq_true ⟨g1, g2⟩).symm
              clear hx1 hx2 hc
              go_wp2_with fail
              go_meet
              case rel => exact ⟨rfl, rfl, congrArg Value.bool hct.out, rfl⟩
            · have k1 : ¬ (a : Int) < (i : Int) := by omega
              have hct : Aside (false = c) := by show false = c; rw [← hc]; exact (decide_eq_false (by omega)).symm
              clear hx1 hx2 hc
              go_wp2_with fail
              go_meet
              case rel => exact ⟨rfl, rfl, congrArg Value.bool hct.out, rfl⟩
            · have k1 : (a : Int) < (i : Int) := by omega
              have k2 : ¬ (i : Int) < (mid : Int) := by omega
              have hct : Aside (false = c) := by show false = c; rw [← hc]; exact (decide_eq_false (by omega)).symm
              clear hx1 hx2 hc
              go_wp2_with fail
              go_meet
              case rel => exact ⟨rfl, rfl, congrArg Value.bool hct.out, rfl⟩
        case rest =>
        obtain ⟨rfl, rfl, rfl, rfl⟩ := hcut
        clear hc
        go_upto_if 199 with fail
        go_cut [20, 24] (fun s20 s24 wx => s20 = .int .i64 i ∧ s24 = .int .i64 e ∧ ∃ d2 : Array α, Aside (SWK enc k w0 blk off d2 wx) ∧ Aside (PermIn a mid d1 d2) ∧ Aside (SortedIn (ltOf cf) a mid d2))
        case first =>
          as_aux_lemma =>
            cases c
            case true =>
              obtain ⟨g1, g2⟩ := hx1 rfl
              have HS := IH.out a i mid d1 _ (by omega) (by omega) S2.out g1 g2 (by omega) HCU.out.1 HCU.out.2.1
              rw [hds1] at HS
              clear hx1 hx2
              go_wp2_with (go_at_fn 140; refine HS.mono ?_; rintro ez w3 ⟨rfl, d2, hw3, hp3, hs3⟩)
              go_meet
              case rel => exact ⟨rfl, rfl, d2, hw3, hp3, hs3⟩
            case false =>
              have hrr : SortedIn (ltOf cf) a mid d1 := by
                rcases (show i = a ∨ i = mid by have := hx2 rfl; omega) with g9 | g9
                · have := HCU.out.2.1
                  rwa [g9] at this
                · have := HCU.out.1
                  rwa [g9] at this
              clear hx1 hx2
              go_wp2_with fail
              go_meet
              case rel => exact ⟨rfl, rfl, d1, S2, permIn_refl _ _ _, hrr⟩
        case rest =>
        obtain ⟨rfl, rfl, d2, S3, HP2, HS2⟩ := hcut
        clear hx1 hx2 S2
        obtain ⟨wf, hwf⟩ : ∃ wf, wc = wf := ⟨_, rfl⟩
        rw [hwf] at S3 ⊢
        clear hwf
        have hds2 : d2.size = d.size := HP2.out.1.trans hds1
        have HE2 : Aside (∀ q, mid ≤ q → d2[q]! = d1[q]!) := fun q hq => HP2.out.2.1 q (.inr hq)
        obtain ⟨c, hc⟩ : ∃ c, decide (mid < e ∧ e < b) = c := ⟨_, rfl⟩
        have hx1 : c = true → mid < e ∧ e < b := fun h => by rw [← hc, decide_eq_true_eq] at h; exact h
        have hx2 : c = false → e ≤ mid ∨ b ≤ e := fun h => by rw [← hc, decide_eq_false_iff_not] at h; omega
        go_upto_region 43 with fail
        go_cut [20, 24, 213] (fun s20 s24 sb wx => s20 = .int .i64 i ∧ s24 = .int .i64 e ∧ sb = .bool c ∧ wx = wf)
        case first =>
          as_aux_lemma =>
            rcases (show (mid < e ∧ e < b) ∨ e ≤ mid ∨ (mid < e ∧ b ≤ e) by omega) with ⟨g1, g2⟩ | g1 | ⟨g1, g2⟩
            · have k1 : (mid : Int) < (e : Int) := by omega
              have k2 : (e : Int) < (b : Int) := by omega
              have hct : Aside (true = c) := by show true = c; rw [← hc]; exact (decide_eq_true ⟨g1, g2⟩).symm
              clear hx1 hx2 hc
              go_wp2_with fail
              go_meet
              case rel => exact ⟨rfl, rfl, congrArg Value.bool hct.out, rfl⟩
            · have k1 : ¬ (mid : Int) < (e : Int) := by omega
              have hct : Aside (false = c) := by show false = c; rw [← hc]; exact (decide_eq_false (by omega)).symm
              clear hx1 hx2 hc
              go_wp2_with fail
              go_meet
              case rel => exact ⟨rfl, rfl, congrArg Value.bool hct.out, rfl⟩
            · have k1 : (mid : Int) < (e : Int) := by omega
              have k2 : ¬ (e : Int) < (b : Int) := by omega
              have hct : Aside (false = c) := by show false = c; rw [← hc]; exact (decide_eq_false (by omega)).symm
              clear hx1 hx2 hc
              go_wp2_with fail
              go_meet
              case rel => exact ⟨rfl, rfl, congrArg Value.bool hct.out, rfl⟩
        case rest =>
        obtain ⟨rfl, rfl, rfl, rfl⟩ := hcut
        clear hc
        go_upto_if 213 with fail
        cases c
        case true =>
          obtain ⟨g1, g2⟩ := hx1 rfl
          have HS := IH.out mid e b d2 _ (by omega) (by omega) S3.out g1 g2 (by omega) (sorted_congr HCU.out.2.2.1 fun q h1 h2 => HE2.out q h1) (sorted_congr HCU.out.2.2.2.1 fun q h1 h2 => HE2.out q (by omega))
          rw [hds2] at HS
          clear hx1 hx2
          go_wp2_with (go_at_fn 140; refine HS.mono ?_; rintro ez w3 ⟨rfl, d3, hw3, hp3, hs3⟩)
          go_end0
          obtain ⟨j1, j2⟩ := join_sorted (by omega) (by omega) (by omega) HP2.out HS2.out hp3 hs3 HCU.out.2.2.2.2
          exact ⟨rfl, d3, hw3, permIn_trans _ _ _ _ _ HP1.out j1, j2⟩
        case false =>
          have hrr : SortedIn (ltOf cf) mid b d2 := by
            rcases (show e = mid ∨ e = b by have := hx2 rfl; omega) with g9 | g9
            · have := HCU.out.2.2.2.1
              rw [g9] at this
              exact sorted_congr this fun q h1 h2 => HE2.out q h1
            · have := HCU.out.2.2.1
              rw [g9] at this
              exact sorted_congr this fun q h1 h2 => HE2.out q h1
          clear hx1 hx2
          go_wp2_with fail
          go_end0
          obtain ⟨j1, j2⟩ := join_sorted (by omega) (by omega) (by omega) HP2.out HS2.out (permIn_refl d2 mid b) hrr HCU.out.2.2.2.2
          exact ⟨rfl, d2, S3.out, permIn_trans _ _ _ _ _ HP1.out j1, j2⟩
end Go.Proofs.YtalpfoomkhhgnaaGreatDoor

/-! slices.stableCmpFunc, slices.SortStableFunc at a table's rows: whatever length: a sorted permutation. Conditions: as each theorem states. -/
namespace Go.Proofs.YtalpfoomkhhgnaaGreatDoor
open Go Go.Shelf Go.RowKit Go.Lib Go.Sort

/-- .. and for the whole: insertion's contract, the bodies. -/
structure StS (P : Program) (k : Nat) : Prop where
  M : StM P k
  eB : ∀ args w, (callFunc 84 args).run P w = .ok (.enter 84 args) w
  eI : ∀ args w, (callFunc 139 args).run P w = .ok (.enter 139 args) w
  fB : P.funcs[84]? = some Tryz.f84
  fU : P.funcs[57]? = some Tryz.f57
variable {P : Program} {α : Type} [Inhabited α]
/-- What is asked of insertionSortCmpFunc. -/
def InsSays (P : Program) (k : Nat) (enc : α → List Value) (cf : α → α → Int) (g : Nat) (cb : Array Value) (blk off cap : Nat) (d0 : Array α) (w0 : World) : Prop :=
  ∀ (a b : Nat) (d : Array α) (w : World), d0.size = d.size → SWK enc k w0 blk off d w → a ≤ b → b ≤ d.size →
    Calls P 139 #[.slice (some ⟨blk, off, none⟩) d.size cap, .int .i64 a, .int .i64 b, .func (.func g) #[] cb] w fun e w' => e = .returned (.tuple #[]) ∧ SWK enc k w0 blk off (Sort.insertionSort (ltOf cf) d a b) w'

set_option maxHeartbeats 16000000 in
set_option maxRecDepth 1000000 in
theorem stable_any (k : Nat) (L : StS P k) (enc : α → List Value) (cf : α → α → Int) (hO : SWO (ltOf cf)) (g : Nat) (cb : Array Value) (blk off cap : Nat) (d : Array α) (w : World)
    (eg : ∀ args w, (callFunc g args).run P w = .ok (.enter g args) w) (hcmp : CmpLays P g cb enc k cf blk off d.size w) (R : RowK enc k w blk off d) (hI : InsSays P k enc cf g cb blk off cap d w) (hsz : d.size < 1152921504606846976) :
    Calls P 84 #[.slice (some ⟨blk, off, none⟩) d.size cap, .int .i64 d.size, .func (.func g) #[] cb] w fun e w' => e = .returned (.tuple #[]) ∧ ∃ d', SWK enc k w blk off d' w' ∧ PermIn 0 d.size d d' ∧ SortedIn (ltOf cf) 0 d.size d' := by
  have mixed := L.M.F.mixed; have ti := L.M.F.ti; have ai := L.M.F.ai; have zi := L.M.F.zi; have vi := L.M.F.vi; have tb := L.M.F.tb; have ab := L.M.F.ab; have zb := L.M.F.zb; have vb := L.M.F.vb; have ts := L.M.F.ts; have asl := L.M.F.asl; have zs := L.M.F.zs; have ar := L.M.F.ar; have zr := L.M.F.zr
  have eM := L.M.eM
  have eI := L.eI
  have FB := L.fB
  have HM : Aside (∀ (N a m b : Nat) (d1 : Array α) (w1 : World), b - a < N → d.size = d1.size → SWK enc k w blk off d1 w1 → a < m → m < b → b ≤ d1.size → SortedIn (ltOf cf) a m d1 → SortedIn (ltOf cf) m b d1 →
    Calls P 140 #[.slice (some ⟨blk, off, none⟩) d1.size cap, .int .i64 a, .int .i64 m, .int .i64 b, .func (.func g) #[] cb] w1 fun e w' => e = .returned (.tuple #[]) ∧ ∃ d', SWK enc k w blk off d' w' ∧ PermIn a b d1 d' ∧ SortedIn (ltOf cf) a b d') :=
    symMerge_any k L.M enc cf hO g cb blk off cap d w eg hcmp R (by omega)
  have HI : Aside _ := hI
  have S0 : Aside (SWK enc k w blk off d w) := SWK.start R.hH
  clear hcmp L hI R
  go_enter FB, Tryz.ntmps84
  go_wp2
  go_loopg [7, 8] (d.size) (fun kx s7 s8 wr => ∃ (a : Nat) (dk : Array α), s7 = .int .i64 a ∧ s8 = .int .i64 ((a : Int) + 20) ∧ a ≤ d.size ∧ d.size - a ≤ kx ∧ dk.size = d.size ∧ Aside (SWK enc k w blk off dk wr) ∧ Aside (PermIn 0 d.size d dk) ∧ Aside (Ahead (ltOf cf) 20 d.size a dk))
  case atStart => exact ⟨0, d, rfl, rfl, Nat.zero_le _, by omega, rfl, S0, permIn_refl _ _ _, Ahead.zero _ _ _⟩
  case round =>
  clear S0
  obtain ⟨a, dk, rfl, rfl, ha, hkx, hds, S1, HP, HA⟩ := hrel
  by_cases hlt : a + 20 ≤ d.size
  · have hlz : (a : Int) + 20 ≤ (d.size : Int) := by omega
    have hw1 : IntKind.i64.wrap ((a : Int) + 20 + 20) = (a : Int) + 20 + 20 := by rw [IntKind.wrap_i64]; omega
    have hc := HI.out a (a + 20) dk wr hds.symm S1.out (by omega) (by omega)
    obtain ⟨d1, hd1⟩ : ∃ d1, Sort.insertionSort (ltOf cf) dk a (a + 20) = d1 := ⟨_, rfl⟩
    obtain ⟨hp1, hs1⟩ := insertionSort_holds hO dk a (a + 20) (by omega) (by omega)
    rw [hd1] at hc hp1 hs1
    rw [hds, show ((a + 20 : Nat) : Int) = (a : Int) + 20 by omega] at hc
    have HP1 : Aside (PermIn 0 d.size d d1) := permIn_trans _ _ _ _ _ HP.out (permIn_mono _ _ _ _ _ _ (Nat.zero_le _) hlt (by omega) hp1)
    have HA1 : Aside (Ahead (ltOf cf) 20 d.size (a + 20) d1) := HA.out.step rfl (fun q hq => hp1.2.1 q (.inl hq)) hs1
    have hds1 : d1.size = d.size := hp1.1.trans hds
    clear hd1 hp1 hs1 S1 HP HA
    go_wp2_with (go_at_fn 139; refine hc.mono ?_; rintro e w3 ⟨rfl, hw3⟩)
    go_roundg (d.size - (a + 20))
    case measure => omega
    case rel => exact ⟨a + 20, d1, by go_num, by go_num, hlt, Nat.le_refl _, hds1, hw3, HP1, HA1⟩
  have hlz : ¬ (a : Int) + 20 ≤ (d.size : Int) := by omega
  have hc := HI.out a d.size dk wr hds.symm S1.out (by omega) (by omega)
  obtain ⟨d1, hd1⟩ : ∃ d1, Sort.insertionSort (ltOf cf) dk a d.size = d1 := ⟨_, rfl⟩
  obtain ⟨hp1, hs1⟩ := insertionSort_holds hO dk a d.size (by omega) (by omega)
  rw [hd1] at hc hp1 hs1
  rw [hds] at hc
  have HP1 : Aside (PermIn 0 d.size d d1) := permIn_trans _ _ _ _ _ HP.out (permIn_mono _ _ _ _ _ _ (Nat.zero_le _) (Nat.le_refl _) (by omega) hp1)
  have HR1 : Aside (Runs (ltOf cf) 20 d.size d1 0) := HA.out.last (by omega) (fun q hq => hp1.2.1 q (.inl hq)) hs1
  have hds1 : d1.size = d.size := hp1.1.trans hds
  clear hd1 hp1 hs1 S1 HP HA ha hkx hlt
  go_wp2_with (go_at_fn 139; refine hc.mono ?_; rintro e w3 ⟨rfl, hw3⟩)
  have S1 : Aside (SWK enc k w blk off d1 w3) := hw3
  clear hw3 hc hlz hds
  go_loopg [6] (d.size) (fun kx s6 wr => ∃ (s : Nat) (dk : Array α), s6 = .int .i64 s ∧ 1 ≤ s ∧ s < 2305843009213693952 ∧ d.size - s ≤ kx ∧ dk.size = d.size ∧ Aside (SWK enc k w blk off dk wr) ∧ Aside (PermIn 0 d.size d dk) ∧ Aside (Runs (ltOf cf) s d.size dk 0))
  case atStart => exact ⟨20, d1, rfl, by omega, by omega, by omega, hds1, S1, HP1, HR1⟩
  case round =>
  clear S1 HP1 HR1 hds1
  obtain ⟨s, dk, rfl, hs1, hs2, hkx, hds, S1, HP, HR⟩ := hrel
  by_cases hlt : s < d.size
  case neg =>
    have hlz : ¬ (s : Int) < (d.size : Int) := by omega
    go_wp2
    go_end0
    exact ⟨rfl, dk, S1.out, HP.out, HR.out.end (by omega)⟩
  have hlz : (s : Int) < (d.size : Int) := by omega
  have hw2 : IntKind.i64.wrap (2 * (s : Int)) = 2 * (s : Int) := by rw [IntKind.wrap_i64]; omega
  have hw3 : IntKind.i64.wrap ((s : Int) * 2) = (s : Int) * 2 := by rw [IntKind.wrap_i64]; omega
  go_wp2
  go_loopg [7, 8] (d.size) (fun kx s7 s8 wr => ∃ (a : Nat) (dk : Array α), s7 = .int .i64 a ∧ s8 = .int .i64 ((a : Int) + 2 * (s : Int)) ∧ a ≤ d.size ∧ d.size - a ≤ kx ∧ dk.size = d.size ∧ Aside (SWK enc k w blk off dk wr) ∧ Aside (PermIn 0 d.size d dk) ∧ Aside (Ahead (ltOf cf) (2 * s) d.size a dk) ∧ Aside (Runs (ltOf cf) s d.size dk a))
  case atStart => exact ⟨0, dk, rfl, by go_num, Nat.zero_le _, by omega, hds, S1, HP, Ahead.zero _ _ _, HR⟩
  case round =>
  clear S1 HP HR hds
  obtain ⟨a, dk, rfl, rfl, ha, hkx2, hds, S1, HP, HA, HR⟩ := hrel
  have hw4 : IntKind.i64.wrap ((a : Int) + (s : Int)) = (a : Int) + (s : Int) := by rw [IntKind.wrap_i64]; omega
  by_cases hlt2 : a + 2 * s ≤ d.size
  · have hlz2 : (a : Int) + 2 * (s : Int) ≤ (d.size : Int) := by omega
    have hw1 : IntKind.i64.wrap ((a : Int) + 2 * (s : Int) + 2 * (s : Int)) = (a : Int) + 2 * (s : Int) + 2 * (s : Int) := by rw [IntKind.wrap_i64]; omega
    obtain ⟨r1, r2⟩ := HR.out.first (by omega)
    obtain ⟨r3, r4⟩ := r2.first (by omega)
    have hc := HM.out (a + 2 * s - a + 1) a (a + s) (a + 2 * s) dk wr (by omega) hds.symm S1.out (by omega) (by omega) (by omega) r1 (by rw [show a + 2 * s = a + s + s by omega]; exact r3)
    rw [hds, show ((a + s : Nat) : Int) = (a : Int) + (s : Int) by omega, show ((a + 2 * s : Nat) : Int) = (a : Int) + 2 * (s : Int) by omega] at hc
    have HR4 : Aside (Runs (ltOf cf) s d.size dk (a + 2 * s)) := by rw [show a + 2 * s = a + s + s by omega]; exact r4
    clear r1 r2 r3 r4 S1 HR
    go_wp2_with (go_at_fn 140; refine hc.mono ?_; rintro e w3 ⟨rfl, d1, hw3, hp1, hs1⟩)
    have HP1 : Aside (PermIn 0 d.size d d1) := permIn_trans _ _ _ _ _ HP.out (permIn_mono _ _ _ _ _ _ (Nat.zero_le _) hlt2 (by omega) hp1)
    have HA1 : Aside (Ahead (ltOf cf) (2 * s) d.size (a + 2 * s) d1) := HA.out.step rfl (fun q hq => hp1.2.1 q (.inl hq)) hs1
    have HR1 : Aside (Runs (ltOf cf) s d.size d1 (a + 2 * s)) := HR4.out.congr (fun q hq _ => hp1.2.1 q (.inr hq)) (fun q hq _ => hp1.2.1 q (.inr hq))
    have hds1 : d1.size = d.size := hp1.1.trans hds
    have S3 : Aside (SWK enc k w blk off d1 w3) := hw3
    clear hp1 hs1 hw3 HP HA HR4
    go_wp2
    go_roundg (d.size - (a + 2 * s))
    case measure => omega
    case rel => exact ⟨a + 2 * s, d1, by go_num, by go_num, hlt2, Nat.le_refl _, hds1, S3, HP1, HA1, HR1⟩
  have hlz2 : ¬ (a : Int) + 2 * (s : Int) ≤ (d.size : Int) := by omega
  by_cases hm : a + s < d.size
  · have hmz : (a : Int) + (s : Int) < (d.size : Int) := by omega
    obtain ⟨r1, r2⟩ := HR.out.first (by omega)
    have hc := HM.out (d.size - a + 1) a (a + s) d.size dk wr (by omega) hds.symm S1.out (by omega) (by omega) (by omega) r1 (r2.end (by omega))
    rw [hds, show ((a + s : Nat) : Int) = (a : Int) + (s : Int) by omega] at hc
    clear r1 r2 S1 HR
    go_wp2_with (go_at_fn 140; refine hc.mono ?_; rintro e w3 ⟨rfl, d1, hw3, hp1, hs1⟩)
    have HP1 : Aside (PermIn 0 d.size d d1) := permIn_trans _ _ _ _ _ HP.out (permIn_mono _ _ _ _ _ _ (Nat.zero_le _) (Nat.le_refl _) (by omega) hp1)
    have HA1 : Aside (Runs (ltOf cf) (2 * s) d.size d1 0) := HA.out.last (by omega) (fun q hq => hp1.2.1 q (.inl hq)) hs1
    have hds1 : d1.size = d.size := hp1.1.trans hds
    have S3 : Aside (SWK enc k w blk off d1 w3) := hw3
    clear hp1 hs1 hw3 HP HA
    go_wp2
    go_roundg (d.size - 2 * s)
    case measure => omega
    case rel => exact ⟨2 * s, d1, by go_num, by omega, by omega, Nat.le_refl _, hds1, S3, HP1, HA1⟩
  · have hmz : ¬ (a : Int) + (s : Int) < (d.size : Int) := by omega
    have HA1 : Aside (Runs (ltOf cf) (2 * s) d.size dk 0) := HA.out.last (by omega) (fun q hq => rfl) (HR.out.end (by omega))
    clear HA HR
    go_wp2
    go_roundg (d.size - 2 * s)
    case measure => omega
    case rel => exact ⟨2 * s, dk, by go_num, by omega, by omega, Nat.le_refl _, hds, S1, HP, HA1⟩

set_option maxHeartbeats 16000000 in
set_option maxRecDepth 1000000 in
/-- slices.SortStableFunc at rows. -/
theorem sortStable_any (k : Nat) (L : StS P k) (enc : α → List Value) (cf : α → α → Int) (hO : SWO (ltOf cf)) (g : Nat) (cb : Array Value) (blk off cap : Nat) (d : Array α) (w : World)
    (eg : ∀ args w, (callFunc g args).run P w = .ok (.enter g args) w) (hcmp : CmpLays P g cb enc k cf blk off d.size w) (R : RowK enc k w blk off d) (hI : InsSays P k enc cf g cb blk off cap d w) (hsz : d.size < 1152921504606846976) :
    Calls P 57 #[.slice (some ⟨blk, off, none⟩) d.size cap, .func (.func g) #[] cb] w fun e w' => e = .returned (.tuple #[]) ∧ ∃ d', SWK enc k w blk off d' w' ∧ PermIn 0 d.size d d' ∧ SortedIn (ltOf cf) 0 d.size d' := by
  have mixed := L.M.F.mixed; have ti := L.M.F.ti; have ai := L.M.F.ai; have zi := L.M.F.zi; have vi := L.M.F.vi; have tb := L.M.F.tb; have ab := L.M.F.ab; have zb := L.M.F.zb; have vb := L.M.F.vb; have ts := L.M.F.ts; have asl := L.M.F.asl; have zs := L.M.F.zs; have ar := L.M.F.ar; have zr := L.M.F.zr
  have eB := L.eB
  have FU := L.fU
  have hc := stable_any k L enc cf hO g cb blk off cap d w eg hcmp R hI hsz
  clear hcmp L hI R
  go_enter FU, Tryz.ntmps57
  go_wp2_with (go_at_fn 84; refine hc.mono ?_; rintro e w3 ⟨rfl, d1, hw3, hp1, hs1⟩)
  go_end0
  exact ⟨rfl, d1, hw3, hp1, hs1⟩
end Go.Proofs.YtalpfoomkhhgnaaGreatDoor

/-! A region that draws its order: each of its head's operations is shown alone, out of what its own operands are known to be; what stands behind the head goes on in the text's order. Conditions: each operation of the head leaves what was there as it was. -/
namespace Go.Proofs.YtalpfoomkhhgnaaGreatDoor
open Go Go.RowKit

abbrev Ext (w w' : World) : Prop := Below w.heap.size w w'

theorem Ext.trans {a b c : World} (h : Ext a b) (k : Ext b c) : Ext a c := Below.trans h (k.mono h.size)

section
variable {P : Program} {C : World → Prop} {le : World → World → Prop}

def fillFrom (xs : Nat → Value) : List Oper → Nat → Act → Act
  | [], _, a => a
  | o :: l, k, a => fillFrom xs l (k + 1) (a.put o.dst (xs k))

def relUpon (P : Program) (R : Value → World → Prop) : Result Next → Prop
  | .ok (.value u) w' => R u w'
  | .ok .skip w' => R undef w'
  | .ok (.enter f args) w' => Calls P f args w' (fun e w'' => ∃ v, e = .returned v ∧ R v w'')
  | _ => False

def getV (V : List (Value → World → Prop)) (k : Nat) : Value → World → Prop := V.getD k (fun _ _ => True)

def knows (V : List (Value → World → Prop)) (xs : Nat → Value) (w : World) : List Nat → Prop
  | [] => True
  | j :: l => getV V j (xs j) w ∧ knows V xs w l

theorem knows_of {V : List (Value → World → Prop)} {xs : Nat → Value} {w : World} : ∀ {l : List Nat}, (∀ j ∈ l, getV V j (xs j) w) → knows V xs w l
  | [], _ => trivial
  | j :: l, h => ⟨h j (by simp), knows_of fun i hi => h i (by simp [hi])⟩

def stepObl (P : Program) (C : World → Prop) (le : World → World → Prop) (ops : Array Oper) (V : List (Value → World → Prop)) (head : List Oper) (a0 : Act) (k : Nat) (d : List Nat) (o : Oper) : Prop :=
  ∀ (xs : Nat → Value) (w : World), C w → knows V xs w d → ∀ R : Value → World → Prop, (∀ u w', le w w' → getV V k u w' → R u w') →
    if Region.wanted o (yielded ops (fillFrom xs head 0 a0).tmps) then relUpon P R ((execOp (fillFrom xs head 0 a0).eval o).run P w) else R undef w

def oblFrom (P : Program) (C : World → Prop) (le : World → World → Prop) (ops : Array Oper) (V : List (Value → World → Prop)) (D : List (List Nat)) (head : List Oper) (a0 : Act) : List Oper → Nat → Prop
  | [], _ => True
  | o :: l, k => stepObl P C le ops V head a0 k (D.getD k []) o ∧ oblFrom P C le ops V D head a0 l (k + 1)

def stableFrom (le : World → World → Prop) : List (Value → World → Prop) → Prop
  | [] => True
  | p :: l => (∀ u w w', le w w' → p u w → p u w') ∧ stableFrom le l

theorem stable_get : ∀ {V : List (Value → World → Prop)}, stableFrom le V → ∀ k u w w', le w w' → getV V k u w → getV V k u w'
  | [], _, k, _, _, _, _, _ => by simp [getV]
  | p :: l, h, 0, u, w, w', he, hp => by simpa [getV] using h.1 u w w' he (by simpa [getV] using hp)
  | p :: l, h, k + 1, u, w, w', he, hp => by
    have := stable_get h.2 k u w w' he (by simpa [getV] using hp)
    simpa [getV] using this

theorem obl_get {ops : Array Oper} {V : List (Value → World → Prop)} {D : List (List Nat)} {head : List Oper} {a0 : Act} :
    ∀ {l : List Oper} {k : Nat}, oblFrom P C le ops V D head a0 l k → ∀ i o, l[i]? = some o → stepObl P C le ops V head a0 (k + i) (D.getD (k + i) []) o
  | [], _, _, i, o, h => by simp at h
  | p :: l, k, h, 0, o, ho => by
    have : p = o := by simpa using ho
    subst this
    exact h.1
  | p :: l, k, h, i + 1, o, ho => by
    have := obl_get h.2 i o (by simpa using ho)
    rwa [show k + 1 + i = k + (i + 1) by omega] at this

def dstsOf (l : List Oper) : List Tmp := l.filterMap (·.dst)

theorem put_put (a : Act) (d : Option Tmp) (u v : Value) : (a.put d u).put d v = a.put d v := by
  cases d with
  | none => rfl
  | some d => simp [Act.put]

theorem fill_put_new (xs : Nat → Value) (d : Option Tmp) (u : Value) : ∀ (l : List Oper) (k : Nat) (a : Act), (∀ t, d = some t → t ∉ dstsOf l) →
    (fillFrom xs l k a).put d u = fillFrom xs l k (a.put d u)
  | [], _, _, _ => rfl
  | o :: l, k, a, h => by
    simp only [fillFrom]
    rw [fill_put_new xs d u l (k + 1) _ (fun t ht hm => h t ht (by
      unfold dstsOf at *
      rw [List.filterMap_cons]
      split <;> simp_all))]
    rw [Act.put_comm a (xs k) u (fun t ht hd => h t hd (by simp [dstsOf, List.filterMap_cons, ht]))]

theorem fill_congr {xs ys : Nat → Value} : ∀ (l : List Oper) (k : Nat) (a : Act), (∀ i, k ≤ i → xs i = ys i) → fillFrom xs l k a = fillFrom ys l k a
  | [], _, _, _ => rfl
  | o :: l, k, a, h => by
    simp only [fillFrom]
    rw [h k (Nat.le_refl _)]
    exact fill_congr l (k + 1) _ (fun i hi => h i (by omega))

def upd (xs : Nat → Value) (i : Nat) (u : Value) : Nat → Value := fun j => if j = i then u else xs j

theorem fill_put (xs : Nat → Value) (u : Value) : ∀ (l : List Oper) (k i : Nat) (a : Act) (o : Oper), (dstsOf l).Nodup → l[i]? = some o →
    (fillFrom xs l k a).put o.dst u = fillFrom (upd xs (k + i) u) l k a
  | [], _, i, _, _, _, h => by simp at h
  | p :: l, k, 0, a, o, hn, h => by
    have : p = o := by simpa using h
    subst this
    simp only [fillFrom]
    rw [fill_put_new xs p.dst u l (k + 1) _ (fun t ht hm => by
      have : dstsOf (p :: l) = t :: dstsOf l := by simp [dstsOf, List.filterMap_cons, ht]
      rw [this] at hn
      exact (List.nodup_cons.1 hn).1 hm), put_put]
    rw [fill_congr (xs := xs) (ys := upd xs (k + 0) u) l (k + 1) _ (fun i hi => by simp [upd]; omega)]
    simp [upd]
  | p :: l, k, i + 1, a, o, hn, h => by
    simp only [fillFrom]
    have hn' : (dstsOf l).Nodup := by
      unfold dstsOf at *
      rw [List.filterMap_cons] at hn
      split at hn
      · exact hn
      · exact (List.nodup_cons.1 hn).2
    rw [fill_put xs u l (k + 1) i _ o hn' (by simpa using h)]
    rw [show k + 1 + i = k + (i + 1) by omega]
    simp [upd]

theorem put_self (a : Act) (t : Tmp) : a.put (some t) (a.tmps.getD t undef) = a := by
  cases a with
  | mk tmps defers =>
    simp only [Act.put]
    congr 1
    apply Array.ext_getElem?
    intro i
    by_cases h : t = i
    · subst h
      by_cases h2 : t < tmps.size
      · simp [h2]
      · simp [h2]
    · simp [Array.getElem?_setIfInBounds_ne h]

theorem fill_self : ∀ (l : List Oper) (k : Nat) (a : Act), ∃ xs : Nat → Value, ∀ ys : Nat → Value, (∀ i, k ≤ i → ys i = xs i) → fillFrom ys l k a = a
  | [], _, _ => ⟨fun _ => undef, fun _ _ => rfl⟩
  | o :: l, k, a => by
    obtain ⟨xs, h⟩ := fill_self l (k + 1) a
    refine ⟨fun j => if j = k then (match o.dst with | some t => a.tmps.getD t undef | none => undef) else xs j, fun ys hy => ?_⟩
    simp only [fillFrom]
    have h1 : a.put o.dst (ys k) = a := by
      rw [hy k (Nat.le_refl _)]
      cases ho : o.dst with
      | none => rfl
      | some t => simpa using put_self a t
    rw [h1]
    exact h ys (fun i hi => by rw [hy i (by omega)]; simp; omega)

/-- How many of the first n are yet to come. -/
def left (n : Nat) (listed : Array Bool) : Nat := ((List.range n).filter fun i => !listed.getD i true).length

theorem left_set {n i : Nat} {listed : Array Bool} (hi : i < n) (h : listed.getD i true = false) : left n listed = left n (listed.setIfInBounds i true) + 1 := by
  have hs : i < listed.size := by
    rcases Nat.lt_or_ge i listed.size with h' | h'
    · exact h'
    · simp [Array.getElem?_eq_none h'] at h
  unfold left
  have key : ((List.range n).filter fun j => !(listed.setIfInBounds i true).getD j true) = ((List.range n).filter fun j => !listed.getD j true).erase i := by
    rw [List.Nodup.erase_eq_filter (List.Pairwise.filter _ List.nodup_range), List.filter_filter]
    apply List.filter_congr
    intro j _
    by_cases hj : j = i
    · subst hj; simp [hs]
    · rw [getD_set_ne true (Ne.symm hj)]; simp [hj]
  rw [key, List.length_erase_of_mem]
  · have : 0 < ((List.range n).filter fun j => !listed.getD j true).length := List.length_pos_of_mem (a := i) (by simp only [List.mem_filter, List.mem_range]; exact ⟨hi, by simpa using h⟩)
    omega
  · simp only [List.mem_filter, List.mem_range]; exact ⟨hi, by simpa using h⟩

theorem left_zero {n : Nat} {listed : Array Bool} (h : left n listed = 0) : ∀ i, i < n → listed.getD i true = true := by
  intro i hi
  cases hl : listed.getD i true with
  | true => rfl
  | false => have := left_set hi hl; omega

/-- Edges go back. -/
def backB (ops : Array Oper) : Bool := (List.range ops.size).all fun k => ((ops[k]?).map fun o => o.after.all fun e => !Region.binds .any e || decide (e.on < k)).getD true
/-- What is asked to be known is waited for. -/
def depsB (ops : Array Oper) (D : List (List Nat)) : Bool := (List.range ops.size).all fun k => (D.getD k []).all fun j => Region.waitsFor .any ops k j

def headArr (m n : Nat) : Array Bool := (Array.replicate n true) ++ (Array.replicate (m - n) false)

def relB (ops : Array Oper) (n : Nat) (D : List (List Nat)) : Bool :=
  decide (n ≤ ops.size) && backB ops && depsB ops D && decide (dstsOf (ops.toList.take n)).Nodup &&
  (decide (n = ops.size) || (decide (n < ops.size) && Region.sinkB .any ops n && Region.chainB .any ops n)) &&
  Region.seqB .any ops (ops.size - n) n (headArr ops.size n)

structure RInv (C : World → Prop) (ops : Array Oper) (n : Nat) (V : List (Value → World → Prop)) (a0 : Act) (listed : Array Bool) (a : Act) (w : World) : Prop where
  head : HeadInv .any ops n listed
  ext : C w
  fill : ∃ xs : Nat → Value, a = fillFrom xs (ops.toList.take n) 0 a0 ∧ ∀ j, j < n → listed.getD j false = true → getV V j (xs j) w

theorem getD_of_size {listed : Array Bool} {i : Nat} (hi : i < listed.size) (x y : Bool) : listed.getD i x = listed.getD i y := by simp [hi]

theorem wp_of_rel {ops : Array Oper} {o : Oper} {a : Act} {w : World} {R : Value → World → Prop} {K : Act → World → Prop} {Q : Exit → Act → World → Prop}
    (hR : ∀ u w', R u w' → K (a.put o.dst u) w') (h : if Region.wanted o (yielded ops a.tmps) then relUpon P R ((execOp a.eval o).run P w) else R undef w) :
    if Region.wanted o (yielded ops a.tmps) then o.wp P a w K Q ∨ (o.asks P a w ∧ LetsOut Q) else K (a.put o.dst undef) w := by
  split
  · rename_i hw
    rw [if_pos hw] at h
    refine .inl ?_
    unfold Oper.wp
    generalize (execOp a.eval o).run P w = r at *
    cases r with
    | ok nx w' =>
      cases nx <;> simp only [relUpon] at h <;> simp only [Oper.upon]
      case value u => exact hR _ _ h
      case skip => exact hR _ _ h
      case enter f args => exact h.mono fun e w'' ⟨v, he, hv⟩ => by subst he; exact hR _ _ hv
    | halt x w' => simp only [relUpon] at h
  · rename_i hw
    rw [if_neg hw] at h
    exact hR _ _ h

theorem wpAny_rel {ops : Array Oper} {n : Nat} {V : List (Value → World → Prop)} {D : List (List Nat)} {a0 : Act} {Q : Exit → Act → World → Prop} (hC : ∀ w w', C w → le w w' → C w')
    (hB : relB ops n D = true) (hV : stableFrom le V) (hs : oblFrom P C le ops V D (ops.toList.take n) a0 (ops.toList.take n) 0)
    (hQ : ∀ xs w, C w → knows V xs w (List.range n) → wpList P ops Q (ops.toList.drop n) (fillFrom xs (ops.toList.take n) 0 a0) w) :
    ∀ (f : Nat) (listed : Array Bool) (a : Act) (w : World), left n listed = f → RInv C ops n V a0 listed a w → wpAny P .any ops Q (f + (ops.size - n)) listed a w := by
  simp only [relB, Bool.and_eq_true, Bool.or_eq_true, decide_eq_true_eq] at hB
  obtain ⟨⟨⟨⟨⟨hn, hback⟩, hdeps⟩, hnd⟩, htail⟩, hseq⟩ := hB
  intro f
  induction f with
  | zero =>
    intro listed a w hl inv
    have hall := left_zero hl
    have harr : listed = headArr ops.size n := by
      apply Array.ext_getElem?
      intro i
      have hsz := inv.head.size
      unfold headArr
      by_cases h1 : i < n
      · have := hall i h1
        have hi : i < listed.size := by omega
        simp only [hi, Array.getD_eq_getD_getElem?, Array.getElem?_eq_getElem, Option.getD_some] at this
        rw [Array.getElem?_append_left (by simpa using h1)]
        simp [hi, h1, this]
      · by_cases h2 : i < ops.size
        · have := inv.head.tail i (by omega) h2
          have hi : i < listed.size := by omega
          simp only [hi, Array.getD_eq_getD_getElem?, Array.getElem?_eq_getElem, Option.getD_some] at this
          rw [Array.getElem?_append_right (by simpa using h1)]
          simp only [hi, Array.getElem?_eq_getElem, this]
          rw [Array.getElem?_replicate, if_pos (by simp; omega)]
        · rw [Array.getElem?_eq_none (by omega), Array.getElem?_eq_none (by simp; omega)]
    obtain ⟨xs, ha, hx⟩ := inv.fill
    have hk : knows V xs w (List.range n) := knows_of fun j hj => hx j (List.mem_range.1 hj) (by
      have := hall j (List.mem_range.1 hj)
      have hj' := List.mem_range.1 hj
      rwa [getD_of_size (by rw [inv.head.size]; omega) true false] at this)
    have := hQ xs w inv.ext hk
    rw [← ha] at this
    rw [Nat.zero_add]
    have h2 := wpAny_of_seq (md := .any) (Q' := Q) (ops.toList.drop n) n listed a w (fun j => by simp [List.getElem?_drop]) (by rw [harr]; simpa using hseq) this
    simpa using h2
  | succ f ih =>
    intro listed a w hl inv
    rw [show f + 1 + (ops.size - n) = (f + (ops.size - n)) + 1 by omega]
    -- one of the head is yet to come
    have hex : ∃ i, i < n ∧ listed.getD i true = false := by
      have h1 : 0 < ((List.range n).filter fun i => !listed.getD i true).length := by unfold left at hl; omega
      obtain ⟨i, hi⟩ := List.exists_mem_of_length_pos h1
      simp only [List.mem_filter, List.mem_range] at hi
      exact ⟨i, hi.1, by simpa using hi.2⟩
    have hready : ∃ i, i < n ∧ i ∈ Region.ready .any ops listed := by
      obtain ⟨i, hi, hu⟩ := hex
      revert hi hu
      induction i using Nat.strongRecOn with
      | _ i ihh =>
        intro hi hu
        have hlt : i < ops.size := by omega
        by_cases hr : i ∈ Region.ready .any ops listed
        · exact ⟨i, hi, hr⟩
        · have ho : ops[i]? = some ops[i] := Array.getElem?_eq_getElem hlt
          have hb := List.all_eq_true.1 hback i (List.mem_range.2 hlt)
          rw [ho] at hb
          simp only [Option.map_some, Option.getD_some] at hb
          have : ∃ e ∈ ops[i].after, Region.binds .any e = true ∧ listed.getD e.on false = false := by
            apply Classical.byContradiction
            intro hno
            apply hr
            rw [mem_ready]
            refine ⟨hu, ops[i], ho, fun e he hbd => ?_⟩
            cases hq : listed.getD e.on false with
            | true => rfl
            | false => exact absurd ⟨e, he, hbd, hq⟩ hno
          obtain ⟨e, he, hbd, hq⟩ := this
          have hlt2 := Array.all_eq_true'.1 hb e he
          simp only [hbd, Bool.not_true, Bool.false_or, decide_eq_true_eq] at hlt2
          exact ihh e.on hlt2 (by omega) (getD_in (by rw [inv.head.size]; omega) hq)
    refine ⟨fun h0 => ?_, fun i hi => ?_⟩
    · obtain ⟨i, _, hr⟩ := hready
      rw [h0] at hr; cases hr
    · have hin : i < n := by
        rcases Nat.lt_or_ge i n with h | h
        · exact h
        · exfalso
          rcases htail with h2 | ⟨⟨hlt, hsk⟩, hch⟩
          · obtain ⟨_, o, ho, _⟩ := mem_ready.1 hi
            have := (Array.getElem?_eq_some_iff.1 ho).1
            omega
          · obtain ⟨j, hj, hu⟩ := hex
            exact tail_waits hsk hch hlt inv.head _ j rfl hj hu i h hi
      obtain ⟨hu, o, ho, hw⟩ := mem_ready.1 hi
      obtain ⟨xs, ha, hx⟩ := inv.fill
      have hoi : (ops.toList.take n)[i]? = some o := by simp [hin, ho]
      have hst := obl_get hs i o hoi
      rw [Nat.zero_add] at hst
      have hkn : knows V xs w (D.getD i []) := knows_of fun j hj => by
        have h1 := List.all_eq_true.1 hdeps i (List.mem_range.2 (by omega))
        have h2 := List.all_eq_true.1 h1 j hj
        obtain ⟨o', ho', e, he, hb, hon⟩ := Region.waitsFor_spec h2
        have : o' = o := Option.some.inj (ho'.symm.trans ho)
        subst this
        have h3 := hw e he hb
        rw [hon] at h3
        have hjn : j < n := by
          have hb1 := List.all_eq_true.1 hback i (List.mem_range.2 (by omega))
          rw [ho] at hb1
          simp only [Option.map_some, Option.getD_some] at hb1
          have h4 := Array.all_eq_true'.1 hb1 e he
          simp only [hb, Bool.not_true, Bool.false_or, decide_eq_true_eq] at h4
          omega
        exact hx j hjn h3
      have hstep := hst xs w inv.ext hkn (fun u w' => le w w' ∧ getV V i u w') (fun u w' h1 h2 => ⟨h1, h2⟩)
      rw [← ha] at hstep
      have hres := wp_of_rel (P := P) (ops := ops) (Q := Q) (K := wpAny P .any ops Q (f + (ops.size - n)) (listed.setIfInBounds i true)) (fun u w' h => by
        refine ih (listed.setIfInBounds i true) (a.put o.dst u) w' ?_ ⟨inv.head.set hi hin, hC _ _ inv.ext h.1, upd xs i u, ?_, ?_⟩
        · have := left_set hin hu
          omega
        · rw [ha, fill_put xs u (ops.toList.take n) 0 i a0 o hnd hoi, Nat.zero_add]
        · intro j hj hlj
          by_cases hji : j = i
          · subst hji; simpa [upd] using h.2
          · rw [getD_set_ne false (Ne.symm hji)] at hlj
            simp only [upd, hji, if_false]
            exact stable_get hV j _ _ _ h.1 (hx j hj hlj)) hstep
      unfold wpOp
      simp only [ho]
      exact hres

/-- A region that draws its order: its head by each operation alone, its tail in the text's order. -/
theorem wp_region_le {id : Nat} {Q : Exit → Act → World → Prop} {a : Act} {w : World} {l : List Oper} (n : Nat) (V : List (Value → World → Prop)) (D : List (List Nat))
    (hm : P.follows .mixedOrders = true) (hC : ∀ w w', C w → le w w' → C w') (hC0 : C { w with drawn := w.drawn + 1 }) (hB : relB l.toArray n D = true) (hV : stableFrom le V)
    (hs : oblFrom P C le l.toArray V D (l.take n) a (l.take n) 0)
    (hQ : ∀ xs w', C w' → knows V xs w' (List.range n) → wpList P l.toArray Q (l.drop n) (fillFrom xs (l.take n) 0 a) w') :
    (Code.region id l.toArray true).wp P Q a w := by
  refine wp_region_any hm ?_
  have hn : n ≤ l.toArray.size := by
    simp only [relB, Bool.and_eq_true, decide_eq_true_eq] at hB
    exact hB.1.1.1.1.1
  obtain ⟨xs0, h0⟩ := fill_self (l.take n) 0 a
  have hl : left n (Array.replicate l.toArray.size false) = n := by
    unfold left
    rw [List.filter_eq_self.2]
    · simp
    · intro i hi
      have : i < l.toArray.size := by have := List.mem_range.1 hi; omega
      simp at this
      simp [this]
  have H := wpAny_rel (P := P) (C := C) (le := le) (Q := Q) (a0 := a) hC hB hV (by simpa using hs) (by simpa using hQ) n (Array.replicate l.toArray.size false) a { w with drawn := w.drawn + 1 } hl
    ⟨⟨by simp, fun j oj _ hl => (by rw [getD_replicate_false] at hl; cases hl), fun t _ ht => getD_in (by simpa using ht) (getD_replicate_false _ _)⟩,
      hC0, xs0, by simpa using (h0 xs0 (fun _ _ => rfl)).symm, fun j _ hl => (by rw [getD_replicate_false] at hl; cases hl)⟩
  rw [show n + (l.toArray.size - n) = l.toArray.size by omega] at H
  exact H

/-- .. at worlds that go on. -/
theorem wp_region_rel {id : Nat} {Q : Exit → Act → World → Prop} {a : Act} {w : World} {l : List Oper} (n : Nat) (V : List (Value → World → Prop)) (D : List (List Nat))
    (hm : P.follows .mixedOrders = true) (hB : relB l.toArray n D = true) (hV : stableFrom Ext V)
    (hs : oblFrom P (Ext w) Ext l.toArray V D (l.take n) a (l.take n) 0)
    (hQ : ∀ xs w', Ext w w' → knows V xs w' (List.range n) → wpList P l.toArray Q (l.drop n) (fillFrom xs (l.take n) 0 a) w') :
    (Code.region id l.toArray true).wp P Q a w :=
  wp_region_le (C := Ext w) (le := Ext) n V D hm (fun _ _ h k => Ext.trans h k) ⟨rfl, rfl, rfl, Nat.le_refl _, fun _ _ => rfl⟩ hB hV hs hQ

/-- Of each operation: a value ('none': the one of the list), or what is known of it. -/
def mixV : List Value → List (Option (Value → World → Prop)) → List (Value → World → Prop)
  | c :: cs, none :: l => (fun u _ => u = c) :: mixV cs l
  | _ :: cs, some V :: l => V :: mixV cs l
  | _, _ => []
def stabW : List (Option (Value → World → Prop)) → Prop
  | [] => True
  | none :: l => stabW l
  | some V :: l => (∀ u w w', Ext w w' → V u w → V u w') ∧ stabW l
theorem stab_mix : ∀ (cs : List Value) (l : List (Option (Value → World → Prop))), stabW l → stableFrom Ext (mixV cs l)
  | [], [], _ => trivial
  | [], _ :: _, _ => trivial
  | _ :: _, [], _ => trivial
  | _ :: cs, none :: l, h => ⟨fun _ _ _ _ hu => hu, stab_mix cs l h⟩
  | _ :: cs, some _ :: l, h => ⟨h.1, stab_mix cs l h.2⟩

def heldV : List Value → List (Option (Value → World → Prop)) → Nat → (Nat → Value) → World → Prop
  | c :: cs, none :: l, k, xs, w => xs k = c ∧ heldV cs l (k + 1) xs w
  | _ :: cs, some V :: l, k, xs, w => V (xs k) w ∧ heldV cs l (k + 1) xs w
  | _, _, _, _, _ => True
theorem held_of (xs : Nat → Value) (w : World) : ∀ (cs : List Value) (l : List (Option (Value → World → Prop))) (k : Nat), (∀ j, j < (mixV cs l).length → getV (mixV cs l) j (xs (k + j)) w) → heldV cs l k xs w
  | [], [], _, _ => trivial
  | [], _ :: _, _, _ => trivial
  | _ :: _, [], _, _ => trivial
  | c :: cs, none :: l, k, h => ⟨by simpa [getV, mixV] using h 0 (by simp [mixV]), held_of xs w cs l (k + 1) fun j hj => by
      have := h (j + 1) (by simp [mixV]; omega)
      rw [show k + (j + 1) = k + 1 + j by omega] at this
      simpa [getV, mixV] using this⟩
  | c :: cs, some V :: l, k, h => ⟨by simpa [getV, mixV] using h 0 (by simp [mixV]), held_of xs w cs l (k + 1) fun j hj => by
      have := h (j + 1) (by simp [mixV]; omega)
      rw [show k + (j + 1) = k + 1 + j by omega] at this
      simpa [getV, mixV] using this⟩
theorem knows_get {V : List (Value → World → Prop)} {xs : Nat → Value} {w : World} : ∀ {l : List Nat}, knows V xs w l → ∀ j ∈ l, getV V j (xs j) w
  | [], _, _, h => by simp at h
  | i :: l, h, j, hj => by
    rcases List.mem_cons.1 hj with rfl | hj
    · exact h.1
    · exact knows_get h.2 j hj

theorem wp_region_mix {id : Nat} {Q : Exit → Act → World → Prop} {a : Act} {w : World} {l : List Oper} (n : Nat) (cs : List Value) (W : List (Option (Value → World → Prop))) (D : List (List Nat))
    (hm : P.follows .mixedOrders = true) (hB : relB l.toArray n D = true) (hn : (mixV cs W).length ≤ n) (hV : stabW W)
    (hs : oblFrom P (Ext w) Ext l.toArray (mixV cs W) D (l.take n) a (l.take n) 0)
    (hQ : ∀ xs w', Ext w w' → heldV cs W 0 xs w' → wpList P l.toArray Q (l.drop n) (fillFrom xs (l.take n) 0 a) w') :
    (Code.region id l.toArray true).wp P Q a w :=
  wp_region_rel n (mixV cs W) D hm hB (stab_mix cs W hV) hs fun xs w' h1 h2 => hQ xs w' h1 (held_of xs w' cs W 0 fun j hj => by
    rw [Nat.zero_add]; exact knows_get h2 j (List.mem_range.2 (by omega)))

/-! ### The head's values do not hang on the world: one walk of the text's order -/
def readsB (ops : Array Oper) (k j : Nat) : Bool := match ops[k]?, (ops[j]?).bind (·.dst) with
  | some o, some t => (o.looksAt ops).contains t
  | _, _ => false
def qtD (ops : Array Oper) : List (List Nat) := (List.range ops.size).map fun k => (List.range k).filter (readsB ops k)
def locB (ops : Array Oper) (n : Nat) : Bool := (List.range n).all fun k => (List.range n).all fun j => decide (j < k) || !readsB ops k j
def qtB (ops : Array Oper) (n : Nat) : Bool := relB ops n (qtD ops) && locB ops n && Region.noSelect ops

end

end Go.Proofs.YtalpfoomkhhgnaaGreatDoor
