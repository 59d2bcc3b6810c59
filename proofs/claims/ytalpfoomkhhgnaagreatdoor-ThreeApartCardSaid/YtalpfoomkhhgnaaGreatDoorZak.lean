/- marref1: turn, constants; SHA-256 the document's way, in plain Lean. Conditions: as each theorem states. -/
import Derived.Test.YtalpfoomkhhgnaaGreatDoorZaj
import Derived.Test.YtalpfoomkhhgnaaGreatDoorZag
import Derived.Test.YtalpfoomkhhgnaaGreatDoorZai
import Derived.Test.YtalpfoomkhhgnaaGreatDoorZah
import Derived.Test.YtalpfoomkhhgnaaGreatDoorZaf
import Derived.Test.YtalpfoomkhhgnaaGreatDoorZad
import Derived.Test.YtalpfoomkhhgnaaGreatDoorZab
import Derived.Test.YtalpfoomkhhgnaaGreatDoorZae

set_option linter.unusedVariables false
set_option linter.unusedSimpArgs false

/-! three: notes sorted. Conditions: as each theorem states. -/
namespace Go.Proofs.YtalpfoomkhhgnaaGreatDoor
open Go Go.Shelf Go.RowKit Go.Lib Go.Sort
set_option linter.unusedVariables false
set_option linter.unusedSimpArgs false
set_option linter.unusedSectionVars false

/-- A note of a known kind. -/
structure Nt where
  p : B8
  k : Fin 4
instance : Inhabited Nt := ⟨⟨[], 0⟩⟩
def Nt.n (x : Nt) : B8 × Int := (x.p, (x.k.val : Int))
def ntD (x : Nt) : List Value := ntC x.n
def cmpD (x y : Nt) : Int := cmpN x.n y.n
theorem ntD_len (x : Nt) : (ntD x).length = 2 := rfl
theorem ntD_one (x : Nt) : ∀ v ∈ ntD x, v.oneCell' = true := by intro v hv; simp [ntD, ntC] at hv; rcases hv with rfl | rfl <;> rfl
theorem flat_ntL (l : List (B8 × Int)) : (l.flatMap ntC).length = l.length * 2 := by
  induction l with
  | nil => rfl
  | cons c l ih => rw [List.flatMap_cons, List.length_append, ih, List.length_cons]; show 2 + _ = _; omega
theorem flat_nt : ∀ (l : List (B8 × Int)) (k : Nat) (x : B8 × Int), l[k]? = some x → (l.flatMap ntC)[2 * k]? = some (S8 x.1) ∧ (l.flatMap ntC)[2 * k + 1]? = some (.int .i64 x.2)
  | [], k, x, h => by simp at h
  | y :: l, 0, x, h => by
    simp only [List.getElem?_cons_zero, Option.some.injEq] at h
    subst h
    exact ⟨rfl, rfl⟩
  | y :: l, k + 1, x, h => by
    have ih := flat_nt l k x (by simpa using h)
    have e : (y :: l).flatMap ntC = S8 y.1 :: .int .i64 y.2 :: l.flatMap ntC := by rw [List.flatMap_cons]; rfl
    rw [e, show 2 * (k + 1) = 2 * k + 1 + 1 by omega]
    exact ih
theorem flatN_at (l : List Nt) (j : Nat) (hj : j < l.length * 2) : ((l.map Nt.n).flatMap ntC)[j]? = some (flatK ntD 2 l.toArray)[j]! := by
  have hk : j / 2 < l.length := by omega
  rw [get_flatK _ _ _ j (by simpa using hj)]
  obtain ⟨x, hx⟩ : ∃ x, l[j / 2]? = some x := ⟨_, List.getElem?_eq_getElem hk⟩
  have hx2 : l.toArray[j / 2]! = x := by
    rw [getElem!_pos l.toArray (j / 2) (by simpa using hk)]
    rw [List.getElem?_eq_getElem hk] at hx
    simpa using hx
  rw [hx2]
  obtain ⟨e0, e1⟩ := flat_nt (l.map Nt.n) (j / 2) x.n (by rw [List.getElem?_map, hx]; rfl)
  have hm : j % 2 < 2 := Nat.mod_lt _ (by omega)
  have hd : j = 2 * (j / 2) + j % 2 := (Nat.div_add_mod j 2).symm
  obtain ⟨c, hc⟩ : ∃ c, j % 2 = c := ⟨_, rfl⟩
  rw [hc] at hm hd ⊢
  rw [hd]
  match c, hm with
  | 0, _ => exact e0
  | 1, _ => exact e1
theorem cmpI_pos {a b : B8} : cmpI a b < 0 ↔ ltB a b = true := by
  unfold cmpI
  split
  · rename_i h; simp [h]
  · rename_i h
    split
    · simp [h]
    · simp [h]
theorem cmpD_lt (x y : Nt) : ltOf cmpD x y = (ltB x.p y.p || (decide (x.p = y.p) && decide (x.k.val < y.k.val))) := by
  unfold ltOf cmpD cmpN Nt.n
  dsimp only
  by_cases h : x.p = y.p
  · rw [if_pos h, h, lt_irr]
    simp
    omega
  · rw [if_neg h]
    have : decide (x.p = y.p) = false := decide_eq_false h
    rw [this, Bool.false_and, Bool.or_false]
    by_cases h2 : ltB x.p y.p = true
    · rw [h2]; exact decide_eq_true (cmpI_pos.2 h2)
    · have h3 : ltB x.p y.p = false := by simpa using h2
      rw [h3]; exact decide_eq_false (fun h4 => h2 (cmpI_pos.1 h4))
theorem cmpD_swo : SWO (ltOf cmpD) := by
  have hL : ∀ x y : Nt, ltOf cmpD x y = true ↔ (ltB x.p y.p = true ∨ (x.p = y.p ∧ x.k.val < y.k.val)) := fun x y => by rw [cmpD_lt]; simp
  have hF : ∀ x y : Nt, ltOf cmpD x y = false ↔ ¬ (ltB x.p y.p = true ∨ (x.p = y.p ∧ x.k.val < y.k.val)) := fun x y => by rw [← hL]; simp
  refine ⟨fun x => ?_, fun x y z h1 h2 => ?_, fun x y z h1 h2 => ?_⟩
  · rw [hF]
    rintro (h | ⟨-, h⟩)
    · rw [lt_irr] at h; cases h
    · omega
  · rw [hL] at h1 h2 ⊢
    rcases h1 with h1 | ⟨h1, h3⟩
    · rcases h2 with h2 | ⟨h2, -⟩
      · exact .inl (lt_trans' h1 h2)
      · rw [← h2]; exact .inl h1
    · rcases h2 with h2 | ⟨h2, h4⟩
      · rw [h1]; exact .inl h2
      · exact .inr ⟨h1.trans h2, by omega⟩
  · rw [hF] at h1 h2 ⊢
    rintro (h | ⟨h, h3⟩)
    · by_cases hxy : x.p = y.p
      · rw [hxy] at h
        exact h2 (.inl h)
      · have h4 := lt_tri (show ltB x.p y.p = false by cases hq : ltB x.p y.p with | false => rfl | true => exact absurd (.inl hq) h1) hxy
        exact h2 (.inl (lt_trans' h4 h))
    · by_cases hxy : x.p = y.p
      · have k1 : ¬ x.k.val < y.k.val := fun hh => h1 (.inr ⟨hxy, hh⟩)
        have k2 : ¬ y.k.val < z.k.val := fun hh => h2 (.inr ⟨hxy.symm.trans h, hh⟩)
        omega
      · have h4 := lt_tri (show ltB x.p y.p = false by cases hq : ltB x.p y.p with | false => rfl | true => exact absurd (.inl hq) h1) hxy
        rw [h] at h4
        exact h2 (.inl h4)
def KindN (l : List (B8 × Int)) : Prop := ∀ x ∈ l, x.2 = 1 ∨ x.2 = 2 ∨ x.2 = 3
theorem nts_of : ∀ {l : List (B8 × Int)}, KindN l → ∃ m : List Nt, l = m.map Nt.n
  | [], _ => ⟨[], rfl⟩
  | x :: l, h => by
    obtain ⟨m, rfl⟩ := nts_of (l := l) (fun y hy => h y (List.mem_cons_of_mem _ hy))
    obtain ⟨p, k⟩ := x
    rcases h (p, k) List.mem_cons_self with h | h | h
    · exact ⟨⟨p, 1⟩ :: m, by simp only at h; subst h; rfl⟩
    · exact ⟨⟨p, 2⟩ :: m, by simp only at h; subst h; rfl⟩
    · exact ⟨⟨p, 3⟩ :: m, by simp only at h; subst h; rfl⟩
theorem sortNotes_any (v : Value) (l : List (B8 × Int)) (base : Nat) (w : World) (hk : KindN l) (h : w.ownsRow base 59 2 v l.length (l.flatMap ntC)) (hl : l.length ≤ 1000000) :
    Calls Tryz.prog 33 #[v, .func (.func 34) #[] #[]] w fun e w' => e = .returned (.tuple #[]) ∧ ∃ s : List (B8 × Int), s.Perm l ∧ w'.ownsRow base 59 2 v s.length (s.flatMap ntC) ∧ w.grownBy w' v.ownBlock := by
  obtain ⟨m, rfl⟩ := nts_of hk
  have hml : (m.map Nt.n).length = m.length := List.length_map _
  rw [hml] at h hl
  rcases h.2 with ⟨rfl, h0⟩ | ⟨g, cap, cur, rfl, hbg, hb, hnc, hcm, hcs, htk⟩
  · obtain rfl : m = [] := List.eq_nil_of_length_eq_zero h0
    exact (AnyF.slices_SortFunc_none { Tryz.laysSortN with } none 0 _ w).mono fun e w' ⟨he, hw⟩ => ⟨he, [], List.Perm.refl _, World.ownsRow_nil _ _ _ _, by rw [hw]; exact ⟨rfl, rfl, rfl, Nat.le_refl _, fun _ _ _ => rfl⟩⟩
  · have hg := (Array.getElem?_eq_some_iff.1 hb).1
    have eg : ∀ args w, (callFunc 34 args).run Tryz.prog w = .ok (.enter 34 args) w := enters_of Tryz.func34 (by kernel_rfl) rfl
    have hcmp : CmpLays Tryz.prog 34 #[] ntD 2 cmpD g 0 m.toArray.size w := fun q os dk hdk x y => (merge1_any x.n y.n _ ⟨by show (0 : Int) ≤ (x.k.val : Int); omega, by show (x.k.val : Int) ≤ 10; omega⟩ ⟨by show (0 : Int) ≤ (y.k.val : Int); omega, by show (y.k.val : Int) ≤ 10; omega⟩).mono fun e w' ⟨he, os', hw⟩ => ⟨he, 0, os', hw⟩
    have hs : m.toArray.size = m.length := by simp
    have hH : HoldsK ntD 2 w g 0 m.toArray := by
      intro j hj
      have hj2 : j < m.length * 2 := by simpa using hj
      have h1 := flatN_at m j hj2
      rw [← htk, List.getElem?_take_of_lt (by omega), Array.getElem?_toList] at h1
      rw [Nat.zero_add]
      exact ⟨by simp [World.cell?, hb, h1], by simp [World.frozen?, hb]⟩
    have hc := AnyQ.slices_SortFunc Tryz.laysSortN 2 (fun w => by kernel_rfl) (fun w => by kernel_rfl) ntD ntD_len ntD_one cmpD cmpD_swo 34 #[] g 0 cap m.toArray w eg hcmp hH hg (by omega)
    rw [hs] at hc
    refine Calls.mono hc fun e w' ⟨he, d', n, os, hp, hsd, hw⟩ => ?_
    have hds : d'.size = m.length := by rw [hp.1, hs]
    have S : FlatW w g (flatK ntD 2 d') w' := ⟨n, os, hw⟩
    have hdl : (d'.toList.map Nt.n).length = m.length := by rw [List.length_map, Array.length_toList, hds]
    refine ⟨he, d'.toList.map Nt.n, ?_, ?_, S.grown⟩
    · have h1 := hp.2.2
      rw [Array.extract_eq_self_of_le (by omega), Array.extract_eq_self_of_le (by omega)] at h1
      exact List.Perm.map _ h1
    · rw [hdl]
      obtain ⟨n, os, rfl⟩ := S
      refine ⟨by rw [flat_ntL, hdl], .inr ⟨g, cap, putCells _root_.id 0 (flatK ntD 2 d') cur, rfl, hbg, ?_, hnc, hcm, by simp [putCells, hcs], ?_⟩⟩
      · show (((Go.Sort.ahead w n).heap.modify g _) ++ os)[g]? = _
        rw [Array.getElem?_append_left (by simpa using hg), Array.getElem?_modify, if_pos rfl]
        show (w.heap[g]?).map _ = _
        rw [hb]
        rfl
      · apply List.ext_getElem?
        intro j
        by_cases hj : j < m.length * 2
        · have h2 := flatN_at d'.toList j (by rw [Array.length_toList, hds]; exact hj)
          rw [List.getElem?_take_of_lt hj, Array.getElem?_toList, h2]
          have hjc : j < cur.size := by
            rw [hcs]
            exact Nat.lt_of_lt_of_le hj (Nat.mul_le_mul_right 2 hnc)
          simp only [putCells, Array.getElem?_mapIdx, Array.getElem?_eq_getElem hjc, Option.map_some]
          rw [if_pos ⟨Nat.zero_le _, by rw [Nat.zero_add, size_flatK, hds]; exact hj⟩]
          simp
        · rw [List.getElem?_eq_none (by rw [List.length_take]; omega), List.getElem?_eq_none (by rw [flat_ntL, hdl]; omega)]
theorem pathE_kinds {o a b : Files} {s : Mg} {p : B8} (h : KindN s.notes) : KindN (pathE o a b s p).notes := by
  unfold pathE
  split
  · intro x hx
    rcases List.mem_append.1 hx with hx | hx
    · exact h x hx
    · obtain rfl := List.mem_singleton.1 hx; exact .inl rfl
  · show KindN (if _ then _ else _)
    split
    · intro x hx
      rcases List.mem_append.1 hx with hx | hx
      · exact h x hx
      · obtain rfl := List.mem_singleton.1 hx; exact .inr (.inl rfl)
    · exact h
theorem paths_kinds {o a b : Files} : ∀ (P : List B8) (s : Mg), KindN s.notes → KindN (P.foldl (pathE o a b) s).notes
  | [], s, h => h
  | p :: P, s, h => paths_kinds P _ (pathE_kinds h)
theorem moves_kinds {o a b : Files} : ∀ (L : List Rw) (out : Files) (n : List (B8 × Int)) (y : Files × List (B8 × Int)), KindN n → movesE o a b L out n = some y → KindN y.2
  | [], out, n, y, h, he => by cases he; exact h
  | r :: L, out, n, y, h, he => by
    by_cases hu : undE out r.path = true
    · cases hp : placeE o a b (delF out r.path) r 21 with
      | none => rw [movesE_fail hu hp] at he; cases he
      | some out' =>
        rw [movesE_go hu hp] at he
        refine moves_kinds L out' _ y (fun x hx => ?_) he
        rcases List.mem_append.1 hx with hx | hx
        · exact h x hx
        · obtain rfl := List.mem_singleton.1 hx; exact .inr (.inr rfl)
    · have hu' : undE out r.path = false := by simpa using hu
      rw [movesE_no hu'] at he
      exact moves_kinds L out n y h he
theorem all_kinds {o a b : Files} {P : List B8} {y : Files × List (B8 × Int)} (h : allE o a b P = some y) : KindN y.2 := by
  unfold allE thenE at h
  cases hc : copiesE o a b (pathsE o a b P).copies (pathsE o a b P).out with
  | none => rw [hc] at h; cases h
  | some out =>
    rw [hc] at h
    simp only at h
    unfold limE at h
    cases hm : movesE o a b (rowsE out) out (pathsE o a b P).notes with
    | none => rw [hm] at h; cases h
    | some z =>
      rw [hm] at h
      simp only at h
      split at h
      · cases h
      · cases h
        exact moves_kinds _ _ _ _ (paths_kinds P _ (fun x hx => by cases hx)) hm
end Go.Proofs.YtalpfoomkhhgnaaGreatDoor

/-! table.parent: the directory and the name of a path. Conditions: as each theorem states. -/
namespace Go.Proofs.YtalpfoomkhhgnaaGreatDoor
open Go Go.RowKit Go.Sort
set_option linter.unusedVariables false
set_option linter.unusedSimpArgs false
set_option linter.unusedSectionVars false

end Go.Proofs.YtalpfoomkhhgnaaGreatDoor

/-! table.Build of one row below a directory. Conditions: as each theorem states. -/
namespace Go.Proofs.YtalpfoomkhhgnaaGreatDoor
open Go Go.RowKit Go.Sort
set_option linter.unusedVariables false
set_option linter.unusedSimpArgs false
set_option linter.unusedSectionVars false

section
variable {ops : Array Oper} {rest : List Oper} {o : Oper} {a : Act} {Q : Exit → Act → World → Prop} {w : World} {V : Fi → Value}
end
theorem IsMG.swap {V V' : Fi → Value} {w : World} {b : Nat} {l : Files} (h : IsMG V w b l) (hV : ∀ e ∈ l, V e.2 = V' e.2) : IsMG V' w b l := by
  have he : datG V l = datG V' l := by
    unfold datG
    congr 1
    exact List.map_congr_left fun e he => by unfold enG; rw [hV e he]
  exact ⟨he ▸ h.map⟩
def atV (vs : List Value) (f : Fi) : Value := vs.getD f.time.toNat (.slice none 0 0)
def fiN (n : Nat) : Fi := ⟨0, [], n⟩

def obT (m : Int) (nm id : B8) : Ob := ⟨2, [], [⟨m, nm, id⟩], [], [], 0, 0, []⟩
def rowB (m : Int) (id : B8) : List Rw := [⟨[97, 47, 98], m, id⟩]

end Go.Proofs.YtalpfoomkhhgnaaGreatDoor

/-! marlaw16.Few, table.Paths, Get, marref.Rises: what they answer. Conditions: as each theorem states. -/
namespace Go.Proofs.YtalpfoomkhhgnaaGreatDoor
open Go Go.RowKit Go.Sort
set_option linter.unusedVariables false
set_option linter.unusedSimpArgs false
set_option linter.unusedSectionVars false

set_option maxRecDepth 100000 in
theorem few16_any (v : Value) (l : List Rw) (w : World) (hv : IsRws w v l) :
    Calls Tryz.prog 7 #[v] w fun e w' => ∃ b, e = .returned (.bool b) ∧ w' = w ∧ (b = true → l.length ≤ 100 ∧ ∀ r ∈ l, r.path.length ≤ 400 ∧ r.id.length ≤ 400) := by
  obtain ⟨a, cap, rfl, l1, l2, l3, hg⟩ := hv.cells
  have HG : Hid _ := hg
  clear hv hg
  go_enter Tryz.func7, Tryz.ntmps7
  go_wp2_with fail
  go_loopw [3] (fun i wr => ∃ k : Nat, k ≤ l.length ∧ k ≤ 100 ∧ i = .int .i64 k ∧ wr = w ∧ Hid (∀ r ∈ l.take k, r.path.length ≤ 400 ∧ r.id.length ≤ 400)) (fun i _ => l.length - (intOf i).toNat)
  case atStart => exact ⟨0, Nat.zero_le _, Nat.zero_le _, rfl, rfl, fun r hr => by simp at hr⟩
  case round =>
  obtain ⟨k, hk, hk100, rfl, rfl, HJ⟩ := hrel
  by_cases hlt : k < l.length
  case neg =>
    have hkk : k = l.length := by omega
    subst hkk
    have HR : Hid (∀ r ∈ l, r.path.length ≤ 400 ∧ r.id.length ≤ 400) := by have := HJ.out; rwa [List.take_length] at this
    have hl21 : Hid (decide ((l.length : Int) ≤ 100) = true) := by rw [Hid, decide_eq_true_eq]; omega
    go_wp2
    go_ret
    exact ⟨true, by rw [← hl21.out]; rfl, rfl, fun _ => ⟨hk100, HR.out⟩⟩
  by_cases h100 : k < 100
  case neg =>
    have hz : k = 100 := by omega
    subst hz
    have hl9 : ¬ (l.length : Int) ≤ 100 := by omega
    go_wp2
    go_ret
    first | exact ⟨false, rfl, rfl, fun h => absurd h (by decide)⟩ | exact .inl ⟨rfl, rfl⟩
  obtain ⟨x, hx⟩ : ∃ x, l[k]? = some x := ⟨_, List.getElem?_eq_getElem hlt⟩
  obtain ⟨bb, oo, rfl, y0, -, y2⟩ := HG.out k x hx
  have HSN : Hid _ := take_snocR hx
  clear hx
  by_cases hp : (400 : Int) < (x.path.length : Int)
  · go_wp2
    go_ret
    first | exact ⟨false, rfl, rfl, fun h => absurd h (by decide)⟩ | exact .inl ⟨rfl, rfl⟩
  by_cases hi : (400 : Int) < (x.id.length : Int)
  · go_wp2
    go_ret
    first | exact ⟨false, rfl, rfl, fun h => absurd h (by decide)⟩ | exact .inl ⟨rfl, rfl⟩
  have HJX : Hid (∀ r ∈ l.take (k + 1), r.path.length ≤ 400 ∧ r.id.length ≤ 400) := by
    unfold Hid
    rw [HSN.out]
    intro r hr
    rcases List.mem_append.1 hr with hr | hr
    · exact HJ.out r hr
    · obtain rfl : r = x := by simpa using hr
      exact ⟨by omega, by omega⟩
  go_wp2
  go_roundw
  case rel => exact ⟨k + 1, by omega, by omega, by go_num, trivial, HJX⟩
  case measure => simp [intOf]; omega

set_option maxRecDepth 100000 in
set_option maxHeartbeats 4000000 in
theorem tpaths_any (v : Value) (us : List Value) (ls : List (List Rw)) (w : World) (hv : IsTbs w v us ls) (hl : (pathsLs ls).length ≤ 1000000) :
    Calls Tryz.prog 13 #[v] w fun e w' => (∃ v', e = .returned v' ∧ w'.ownsRow w.heap.size 9 1 v' (uniqT (pathsLs ls)).length ((uniqT (pathsLs ls)).map S8)) ∧ Ext w w' := by
  obtain ⟨hr, hul, hea⟩ := hv
  obtain ⟨a, c, rfl, l1, l2, l3, hg⟩ := hr
  rw [hul] at l1 l3 ⊢
  have HUL : Hid _ := hul
  have HEA : Hid _ := hea
  have HG : Hid _ := hg
  clear hul hea hg
  go_enter Tryz.func13, Tryz.ntmps13
  go_wp2_with fail
  go_loopw [3, 10] (fun v i wr => ∃ k : Nat, k ≤ ls.length ∧ i = .int .i64 k ∧ Hid (wr.ownsRow w.heap.size 9 1 v (pathsLs (ls.take k)).length ((pathsLs (ls.take k)).map S8)) ∧ Hid (Ext w wr)) (fun _ i _ => ls.length - (intOf i).toNat)
  case atStart => exact ⟨0, Nat.zero_le _, rfl, World.ownsRow_nil _ _ _ _, Ext.refl _⟩
  case round =>
  obtain ⟨k, hk, rfl, HOW, HX⟩ := hrel
  have hpl := pathsLs_len2 ls k
  by_cases hlt : k < ls.length
  case neg =>
    have hkk : k = ls.length := by omega
    subst hkk
    have hst : IsStrs wr u3 (pathsLs ls) := by
      have h9 := HOW.out
      rw [List.take_length] at h9
      exact Row.of_owns h9 (by omega)
    have HSZ : Hid _ := HX.out.size
    have hwu := wuniq_any hst hl
    have HWU : Hid _ := hwu
    obtain ⟨sa, sc, he, -⟩ := hst.get
    subst he
    clear hst hwu
    go_wp2_with fail
    go_at_call 30
    refine Calls.mono HWU.out ?_
    rintro e w2 ⟨⟨v', rfl, ho⟩, hx2⟩
    have HO : Hid _ := World.ownsRow.mono ho HSZ.out
    have HX2 : Hid (Ext w w2) := HX.out.trans hx2
    clear ho hx2
    go_wp2
    go_ret
    exact ⟨⟨_, rfl, HO.out⟩, HX2.out⟩
  obtain ⟨l, hll⟩ : ∃ l, ls[k]? = some l := ⟨_, List.getElem?_eq_getElem hlt⟩
  obtain ⟨u, huu⟩ : ∃ u, us[k]? = some u := ⟨_, List.getElem?_eq_getElem (by rw [HUL.out]; exact hlt)⟩
  obtain ⟨bb, oo, rfl, hc⟩ := HG.out (by intro h0; rw [h0] at huu; simp at huu)
  have y1 := HX.out.cell (hc k u huu)
  have hrw := HEA.out k u l huu hll
  obtain ⟨ra, rc, rfl, r1, r2, r3, hrg⟩ := hrw.cells
  have HRG : Hid _ := hrg
  have HSN : Hid _ := pathsLs_snoc hll
  have hpl2 : (pathsLs (ls.take k)).length + l.length ≤ 1000000 := by
    have := pathsLs_len2 ls (k + 1)
    rw [HSN.out, List.length_append, List.length_map] at this
    omega
  obtain ⟨P, hP⟩ : ∃ P, pathsLs (ls.take k) = P := ⟨_, rfl⟩
  rw [hP] at HOW HSN hpl hpl2
  have HOW0 : Hid (wr.ownsRow w.heap.size 9 1 u3 (P.length + 0) ((P ++ (l.take 0).map (·.path)).map S8)) := by
    have h9 := HOW.out
    unfold Hid
    rw [List.take_zero, List.map_nil, List.append_nil]
    exact h9
  clear hc hll huu hrw hrg hP HOW
  go_wp2_with fail
  go_loopw [3, 16] (fun v i wq => ∃ j : Nat, j ≤ l.length ∧ i = .int .i64 j ∧ Hid (wq.ownsRow w.heap.size 9 1 v (P.length + j) ((P ++ (l.take j).map (·.path)).map S8)) ∧ Hid (Ext w wq)) (fun _ i _ => l.length - (intOf i).toNat)
  case atStart => exact ⟨0, Nat.zero_le _, rfl, HOW0, HX⟩
  case round =>
  clear y1 HOW0 HX
  obtain ⟨j, hj, rfl, HOW, HX⟩ := hrel
  by_cases hjl : j < l.length
  case neg =>
    have hkk : j = l.length := by omega
    have HOX : Hid (wr.ownsRow w.heap.size 9 1 u3 (pathsLs (ls.take (k + 1))).length ((pathsLs (ls.take (k + 1))).map S8)) := by
      have h9 := HOW.out
      rw [hkk, List.take_length] at h9
      unfold Hid
      rw [HSN.out, List.length_append, List.length_map]
      exact h9
    clear hkk HOW
    go_wp2_with fail
    go_roundw
    case rel => exact ⟨k + 1, by omega, by go_num, HOX, HX⟩
    case measure => simp [intOf]; omega
  obtain ⟨x, hx⟩ : ∃ x, l[j]? = some x := ⟨_, List.getElem?_eq_getElem hjl⟩
  obtain ⟨rb, ro, rfl, c0, c1, c2⟩ := HRG.out j x hx
  have y0 := HX.out.cell c0
  have y1 := HX.out.cell c1
  have y2 := HX.out.cell c2
  have HJN : Hid _ := map_take_snoc hx
  have hlen : (P ++ (l.take j).map (·.path)).length = P.length + j := by rw [List.length_append, List.length_map, List.length_take]; omega
  have HLEN : Hid _ := hlen
  clear c0 c1 c2 hx hlen
  go_upto_region 8 with fail
  obtain ⟨w4, hw4⟩ : ∃ w4, w4 = wr.alloc (.cells #[S8 x.path, .int .i64 x.mode, S8 x.id] 30) := ⟨_, rfl⟩
  have hx4 : Ext wr w4 := by rw [hw4]; exact (Ext.refl _).alloc _
  have hb4 : w4.heap[wr.heap.size]? = some (.cells #[S8 x.path, .int .i64 x.mode, S8 x.id] 30 (0, 0)) := by rw [hw4]; exact alloc_at _ _
  rw [← hw4]
  obtain ⟨z0, z1, z2⟩ := cellsAt3 hb4
  have HX4 : Hid (Ext w w4) := HX.out.trans hx4
  have hown4 := owns_ext HOW.out hx4
  have hsz := HX4.out.size
  obtain ⟨gi, hgi⟩ : ∃ gi, wr.heap.size = gi := ⟨_, rfl⟩
  rw [hgi] at z0 ⊢
  clear hw4 hx4 hb4 hgi z1 z2 y0 y1 y2
  go_wp2_with (at_builtin; go_must (refine app_str rfl _ _ rfl w.heap.size _ (P.length + j) _ rfl (hown4.alloc _) w4.heap.size 1 1 [x.path] rfl rfl (alloc_at _ _) (by omega) (by simp; omega) ?_; intro v' w3 hown3 hg3))
  go_roundw
  case rel =>
    refine ⟨j + 1, by omega, by go_num, ?_, owns_ext_app (HX4.out.alloc _) (hown4.alloc _) hg3⟩
    unfold Hid
    rw [HJN.out, ← List.append_assoc]
    exact hown3
  case measure => simp [intOf]; omega

set_option maxRecDepth 100000 in
set_option maxHeartbeats 4000000 in
theorem tget_any (v : Value) (l : List Rw) (p : B8) (w : World) (hv : IsRws w v l) :
    Calls Tryz.prog 9 #[v, S8 p] w fun e w' => e = .returned (entV (entG l p)) ∧ Ext w w' := by
  obtain ⟨a, cap, rfl, l1, l2, l3, hg⟩ := hv.cells
  have HG : Hid _ := hg
  have htp : (⟨p.toArray⟩ : ByteArray).toList = p := Lib.toList_data _
  clear hv hg
  go_enter Tryz.func9, Tryz.ntmps9
  go_upto_region 1 with fail
  obtain ⟨w1, hw1⟩ : ∃ w1, w1 = w.alloc (.cells #[.int .i64 0, S8 []] 26) := ⟨_, rfl⟩
  have HX1 : Hid (Ext w w1) := by rw [hw1]; exact (Ext.refl _).alloc _
  have HB1 : Hid (w1.heap[w.heap.size]? = some (.cells #[.int .i64 0, S8 []] 26 (0, 0))) := by rw [hw1]; exact alloc_at _ _
  obtain ⟨g, hgz⟩ : ∃ g, w.heap.size = g := ⟨_, rfl⟩
  have HGZ : Hid _ := hgz
  have HW1 : Hid _ := hw1
  rw [hgz] at HB1
  first | rw [← hw1, hgz] | (rw [← HW1.out, hgz])
  clear hw1 hgz HW1
  go_wp2_with fail
  go_loopw [9] (fun i wr => ∃ k : Nat, k ≤ l.length ∧ i = .int .i64 k ∧ Hid (Ext w1 wr) ∧ Hid (∀ r ∈ l.take k, r.path ≠ p)) (fun i _ => l.length - (intOf i).toNat)
  case atStart => exact ⟨0, Nat.zero_le _, rfl, Ext.refl _, fun r hr => by simp at hr⟩
  case round =>
  obtain ⟨k, hk, rfl, HXR, HN⟩ := hrel
  have HBR : Hid _ := HXR.out.row HB1.out
  have hb1 := HBR.out
  by_cases hlt : k < l.length
  case neg =>
    have hkk : k = l.length := by omega
    subst hkk
    have HR : Hid (entG l p = (0, [])) := ent_none (by have := HN.out; rwa [List.take_length] at this)
    go_wp2_with (refine wpList_store_row rfl 26 (.tmp 4) (.tmp 20) rfl g #[.int .i64 0, S8 []] rfl rfl 26 _ HBR.out size_ent rfl (by simp [Value.oneCell']) ?_)
    refine bodyPost_ret (results_cell_row rfl _ _ g 26 #[.int .i64 0, S8 []] (0, 0) _ rfl (setRow_heap _ _ _ _ _ _ HBR.out) Tryz.underlying26 rfl size_ent) rfl ?_
    exact ⟨by rw [HR.out]; rfl, Ext.but (HX1.out.trans HXR.out) (setRow_grown _ _ _) (Nat.le_of_eq HGZ.out)⟩
  obtain ⟨x, hx⟩ : ∃ x, l[k]? = some x := ⟨_, List.getElem?_eq_getElem hlt⟩
  obtain ⟨bb, oo, rfl, c0, c1, c2⟩ := HG.out k x hx
  have hxw := HX1.out.trans HXR.out
  have y0 := hxw.cell c0
  have y1 := hxw.cell c1
  have y2 := hxw.cell c2
  have htx : (⟨x.path.toArray⟩ : ByteArray).toList = x.path := Lib.toList_data _
  have HX : Hid _ := hx
  obtain ⟨bq, hbq⟩ : ∃ bq, (x.path == p) = bq := ⟨_, rfl⟩
  clear c0 c1 c2 hx hxw
  go_upto_region 4 with fail
  obtain ⟨w4, hw4⟩ : ∃ w4, w4 = wr.alloc (.cells #[S8 x.path, .int .i64 x.mode, S8 x.id] 30) := ⟨_, rfl⟩
  have hx4 : Ext wr w4 := by rw [hw4]; exact (Ext.refl _).alloc _
  have hb4 : w4.heap[wr.heap.size]? = some (.cells #[S8 x.path, .int .i64 x.mode, S8 x.id] 30 (0, 0)) := by rw [hw4]; exact alloc_at _ _
  rw [← hw4]
  obtain ⟨z0, z1, z2⟩ := cellsAt3 hb4
  have HX4 : Hid (Ext w1 w4) := HXR.out.trans hx4
  have HB4 : Hid _ := hx4.row HBR.out
  obtain ⟨gi, hgi⟩ : ∃ gi, wr.heap.size = gi := ⟨_, rfl⟩
  rw [hgi] at z0 z1 z2 ⊢
  clear hw4 hx4 hb4 hgi y0 y1 y2 hb1
  cases bq with
  | true =>
    obtain rfl : x.path = p := by simpa using hbq
    have HR : Hid (entG l x.path = (x.mode, x.id)) := ent_at HN.out HX.out
    go_wp2_with (refine wpList_store_row rfl 26 (.tmp 4) (.tmp 18) rfl g #[.int .i64 x.mode, S8 x.id] rfl rfl 26 _ HB4.out size_ent rfl (by simp [Value.oneCell']) ?_)
    refine bodyPost_ret (results_cell_row rfl _ _ g 26 #[.int .i64 x.mode, S8 x.id] (0, 0) _ rfl (setRow_heap _ _ _ _ _ _ HB4.out) Tryz.underlying26 rfl size_ent) rfl ?_
    exact ⟨by rw [HR.out]; rfl, Ext.but (HX1.out.trans HX4.out) (setRow_grown _ _ _) (Nat.le_of_eq HGZ.out)⟩
  | false =>
    have HNX : Hid (∀ r ∈ l.take (k + 1), r.path ≠ p) := ne_snoc HN.out HX.out (by simpa using hbq)
    go_wp2
    go_roundw
    case rel => exact ⟨k + 1, by omega, by go_num, HX4, HNX⟩
    case measure => simp [intOf]; omega

def RisePost (l : List B8) (e : Ending) : Prop := ∃ c : Bool, e = .returned (.bool c) ∧ (c = true ↔ riseT l)

end Go.Proofs.YtalpfoomkhhgnaaGreatDoor

/-! marlaw16.TablePaths, what the chapter's examples fix given. Conditions: as each theorem states. -/
namespace Go.Proofs.YtalpfoomkhhgnaaGreatDoor
open Go Go.RowKit Go.Sort
set_option linter.unusedVariables false
set_option linter.unusedSimpArgs false
set_option linter.unusedSectionVars false

def First16 (w : World) : Prop := ∀ w', Ext w w' → Calls Tryz.prog 6 #[] w' fun e w'' => e = .returned (.bool true) ∧ Ext w' w''
theorem tbs_new {w : World} {us : List Value} {ls : List (List Rw)} (hl : us.length = ls.length) (hn : us.length ≤ 1000) (h : ∀ (k : Nat) (u : Value) (l : List Rw), us[k]? = some u → ls[k]? = some l → IsRws w u l) :
    IsTbs (w.alloc (.cells us.toArray 22)) (.slice (some ⟨w.heap.size, 0, none⟩) us.length us.length) us ls :=
  ⟨Row.new (alloc_at w _) (by omega) _ rfl, hl, fun k u l h1 h2 => (h k u l h1 h2).ext ((Ext.refl _).alloc _)⟩
theorem tbs3 {w : World} {u v x : Value} {a b c : List Rw} (ha : IsRws w u a) (hb : IsRws w v b) (hc : IsRws w x c) : IsTbs (w.alloc (.cells #[u, v, x] 22)) (.slice (some ⟨w.heap.size, 0, none⟩) 3 3) [u, v, x] [a, b, c] :=
  tbs_new (us := [u, v, x]) rfl (by simp) (fun k y l hu hl => by
    match k, hu, hl with
    | 0, hu, hl => cases hu; cases hl; exact ha
    | 1, hu, hl => cases hu; cases hl; exact hb
    | 2, hu, hl => cases hu; cases hl; exact hc
    | k + 3, hu, hl => simp at hu)
end Go.Proofs.YtalpfoomkhhgnaaGreatDoor

/-! What marlaw16.TableMay says, in plain Lean: a table may be just if each row may be alone, they rise, none stands under another one. Conditions: at most 256 rows. -/
namespace Go.Proofs.YtalpfoomkhhgnaaGreatDoor
open Go Go.RowKit

theorem path_w {p : B8} (h : pathB (dirW ++ p) = true) : pathB p = true := by
  unfold pathB at h ⊢
  have hc : cut 47 (dirW ++ p) = [119] :: cut 47 p := cut_append 47 [119] p
  rw [hc, List.length_append] at h
  simp only [Bool.and_eq_true, decide_eq_true_eq, List.all_cons, List.length_cons] at h ⊢
  refine ⟨?_, h.2.1.2, by omega⟩
  have := h.1
  omega
def goodR (l : List Rw) (i : Nat) (x : Rw) : Bool := (mayTab [x] && (decide (i = 0) || ltB (l.getD (i - 1) zRw).path x.path))
def goodU (l : List Rw) (n : Nat) (x : Rw) : Bool := (l.take n).all fun r => !underB x.path r.path
def goodAt (l : List Rw) (i : Nat) (x : Rw) : Bool := goodR l i x && goodU l l.length x
def goodT (l : List Rw) (n : Nat) : Bool := (List.range n).all fun i => goodAt l i (l.getD i zRw)
theorem alone (x : Rw) : mayTab [x] = mayR0 [x] 0 x := by
  unfold mayTab mayTRow
  simp [hasR]
theorem mayR0_path {l : List Rw} {k : Nat} {x : Rw} (h : mayR0 l k x = true) : pathB (dirW ++ x.path) = true := by
  unfold mayR0 at h
  exact ((Bool.and_eq_true _ _).mp h).1
end Go.Proofs.YtalpfoomkhhgnaaGreatDoor

/-! marlaw16.TableMay, what the chapter's examples fix given. Conditions: as each theorem states. -/
namespace Go.Proofs.YtalpfoomkhhgnaaGreatDoor
open Go Go.RowKit Go.Sort
set_option linter.unusedVariables false
set_option linter.unusedSimpArgs false
set_option linter.unusedSectionVars false

theorem IsRws.one {w : World} {b o n cap k : Nat} {l : List Rw} {x : Rw} (h : IsRws w (.slice (some ⟨b, o, none⟩) l.length cap) l) (hx : l[k]? = some x) : IsRws w (.slice (some ⟨b, o + k * 3, none⟩) 1 (cap - k)) [x] := by
  have hk := (List.getElem?_eq_some_iff.1 hx).1
  obtain ⟨a, c, he, h1, h2, h3, hg⟩ := h.cells
  simp only [Value.slice.injEq, true_and] at he
  obtain ⟨rfl, rfl⟩ := he
  obtain ⟨b', o', hb, c0, c1, c2⟩ := hg k x hx
  cases hb
  refine ⟨_, _, rfl, by show 1 ≤ _; omega, by omega, by show 1 ≤ _; omega, fun _ => ⟨b, o + k * 3, rfl, fun i u hu => ?_⟩⟩
  have hu : [S8 x.path, .int .i64 x.mode, S8 x.id][i]? = some u := by simpa [rwC] using hu
  match i, hu with
  | 0, hu => cases hu; exact c0
  | 1, hu => cases hu; exact c1
  | 2, hu => cases hu; exact c2
  | i + 3, hu => simp at hu
end Go.Proofs.YtalpfoomkhhgnaaGreatDoor

/-! marlaw16: what the chapter's examples fix. Conditions: the roots of the primes as laid. -/
namespace Go.Proofs.YtalpfoomkhhgnaaGreatDoor
open Go Go.RowKit Go.Sort
set_option linter.unusedVariables false
set_option linter.unusedSimpArgs false
set_option linter.unusedSectionVars false

def id16 : B8 := shaM [120]
def e16 : B8 × Int := encodeM (obT 1 [98] id16)
def t16 : B8 := shaM e16.1
def g16 : B8 × Int := encodeM (obT 4 [97] t16)
def u16 : B8 := shaM g16.1
end Go.Proofs.YtalpfoomkhhgnaaGreatDoor

/-! marlaw16.TableSets, what the chapter's examples fix given. Conditions: as each theorem states. -/
namespace Go.Proofs.YtalpfoomkhhgnaaGreatDoor
open Go Go.RowKit Go.Sort
set_option linter.unusedVariables false
set_option linter.unusedSimpArgs false
set_option linter.unusedSectionVars false

theorem tab_rise {l : List Rw} (h : mayTab l = true) : RiseR l ∧ ∀ x ∈ l, x.mode ≠ 0 := by
  have hr0 : ∀ j x, j < l.length → l[j]? = some x → mayR0 l j x = true := fun j x _ hx => by
    have := tab_row h hx
    unfold mayTRow at this
    exact ((Bool.and_eq_true _ _).mp this).1
  refine ⟨?_, fun x hx => ?_⟩
  · unfold RiseR
    rw [List.pairwise_iff_getElem]
    intro i j hi hj hij
    exact r0_lt hr0 hij hj (List.getElem?_eq_getElem hi) (List.getElem?_eq_getElem hj)
  · obtain ⟨j, hj, rfl⟩ := List.mem_iff_getElem.1 hx
    have h1 := hr0 j _ hj (List.getElem?_eq_getElem hj)
    unfold mayR0 at h1
    simp only [Bool.and_eq_true, decide_eq_true_eq] at h1
    have := h1.2.1
    omega
theorem outR_len (l : List Rw) (p : B8) (e : Int × B8) : (outR l p e).length ≤ l.length + 1 := by
  unfold outR
  have := List.length_filter_le (fun r : Rw => !(r.path == p)) l
  rw [List.length_append]
  show (l.filter _).length + _ ≤ _
  split
  · simp; omega
  · simp; omega

end Go.Proofs.YtalpfoomkhhgnaaGreatDoor

/-! three.Merge whole, where no text is merged. Conditions: as each theorem states. -/
namespace Go.Proofs.YtalpfoomkhhgnaaGreatDoor
open Go Go.RowKit Go.Sort
set_option linter.unusedVariables false
set_option linter.unusedSimpArgs false
set_option linter.unusedSectionVars false

theorem results_tmp4 {fn : Func} {t u v x : Tmp} (h : fn.results = #[.tmp t, .tmp u, .tmp v, .tmp x]) (tmps : Array Value) (P : Program) (w : World) :
    (results fn tmps).run P w = .ok (.tuple #[tmps.getD t undef, tmps.getD u undef, tmps.getD v undef, tmps.getD x undef]) w := by
  simp [results, h]
/-- What Merge answers: an error, or the rows and the notes in some order. -/
def mergeE (o a b : List Rw) : Except Int (List Rw × List (B8 × Int)) :=
  if (mayTab o && (mayTab a && mayTab b)) = true then (match allE (byP o) (byP a) (byP b) (uniqT (pathsLs [o, a, b])) with
    | none => .error 14
    | some y => .ok (rowsE y.1, y.2)) else .error 1
def MergeR (w' : World) (e : Ending) : Except Int (List Rw × List (B8 × Int)) → Prop
  | .error k => e = .returned (.tuple #[.slice none 0 0, .slice none 0 0, .slice none 0 0, .int .i64 k])
  | .ok y => ∃ (vr vn : Value) (ab : Option Addr) (cb : Nat) (N : List (B8 × Int)), e = .returned (.tuple #[vr, .slice ab 0 cb, vn, .int .i64 0]) ∧ IsRws w' vr y.1 ∧ N.Perm y.2 ∧ Row w' vn N.length (N.flatMap ntC)
def Fit3 (l : List Rw) : Prop := l.length ≤ 300 ∧ ∀ r ∈ l, r.path.length ≤ 400 ∧ r.id.length ≤ 400
theorem IsMer.sortN {w w1 : World} {g B : Nat} {x : MB} {vc vn : Value} {o a b : Files} {s : Mg} (h : IsMer w g B x vc vn o a b s) (N : List (B8 × Int)) (hg : w.grownBy w1 vn.ownBlock) (hn : w1.ownsRow B 59 2 vn N.length (N.flatMap ntC)) :
    IsMer w1 g B x vc vn o a b ⟨s.out, s.copies, N⟩ ∧ FrM B w w1 := by
  have ht1 : ∀ q, vn.ownBlock = some q → ∃ cur, w.heap[q]? = some (.cells cur 59 (0, 0)) := fun q hq => (own_type h.nt q hq).2
  have m2 : ∀ {V : Fi → Value} {k : Nat} {l : Files}, IsMG V w k l → IsMG V w1 k l := fun hk => mg_keep hk hg ht1
  refine ⟨⟨h.rowN hg, m2 h.mo, m2 h.ma, m2 h.mb, m2 h.mout, m2 h.mm, ?_, hn, h.lo, h.ne, h.rise⟩, ?_⟩
  · refine own_keep h.cp hg (fun q hq cur he => ?_)
    obtain ⟨c2, h2⟩ := ht1 q hq
    rw [h2] at he
    simp at he
  · refine FrM.of_grown hg (fun q hq => (own_type h.nt q hq).1) (fun q hq cs fr he => ?_)
    obtain ⟨c2, h2⟩ := ht1 q hq
    rw [h2] at he
    simp at he
theorem bndE_byP {l : List Rw} (h : RiseR l) (hb : Fit3 l) : BndE (byP l) := fun p => by
  rw [enL_byP h]
  unfold entG
  split
  · rename_i r hr
    exact Nat.le_trans (hb.2 r (List.mem_of_find?_eq_some hr)).2 (by omega)
  · exact Nat.zero_le _
theorem paths_fit {o a b : List Rw} (ho : Fit3 o) (ha : Fit3 a) (hb : Fit3 b) : (pathsLs [o, a, b]).length ≤ 900 ∧ ∀ p ∈ pathsLs [o, a, b], p.length ≤ 1000 := by
  have h1 := ho.1
  have h2 := ha.1
  have h3 := hb.1
  constructor
  · unfold pathsLs
    simp only [List.flatMap_cons, List.flatMap_nil, List.append_nil, List.length_append, List.length_map]
    omega
  · intro p hp
    unfold pathsLs at hp
    simp only [List.flatMap_cons, List.flatMap_nil, List.append_nil, List.mem_append, List.mem_map] at hp
    rcases hp with ⟨r, hr, rfl⟩ | ⟨r, hr, rfl⟩ | ⟨r, hr, rfl⟩
    · exact Nat.le_trans (ho.2 r hr).1 (by omega)
    · exact Nat.le_trans (ha.2 r hr).1 (by omega)
    · exact Nat.le_trans (hb.2 r hr).1 (by omega)
theorem mergeE_no {o a b : List Rw} (h : ¬ (mayTab o && (mayTab a && mayTab b)) = true) : mergeE o a b = .error 1 := if_neg h
theorem mergeE_none {o a b : List Rw} (h : (mayTab o && (mayTab a && mayTab b)) = true) (hn : allE (byP o) (byP a) (byP b) (uniqT (pathsLs [o, a, b])) = none) : mergeE o a b = .error 14 := by
  unfold mergeE
  rw [if_pos h, hn]
theorem mergeE_some {o a b : List Rw} {y : Files × List (B8 × Int)} (h : (mayTab o && (mayTab a && mayTab b)) = true) (hn : allE (byP o) (byP a) (byP b) (uniqT (pathsLs [o, a, b])) = some y) : mergeE o a b = .ok (rowsE y.1, y.2) := by
  unfold mergeE
  rw [if_pos h, hn]
theorem allE_len {o a b : Files} {P : List B8} {y : Files × List (B8 × Int)} (h : allE o a b P = some y) : y.1.length ≤ 256 := by
  unfold allE thenE at h
  split at h
  · cases h
  · unfold limE at h
    split at h
    · cases h
    · split at h
      · cases h
      · cases h
        omega

theorem pathE_len {o a b : Files} (s : Mg) (p : B8) : (pathE o a b s p).out.length ≤ s.out.length + 1 ∧ (pathE o a b s p).copies.length ≤ s.copies.length + 1 ∧ (pathE o a b s p).notes.length ≤ s.notes.length + 1 := by
  unfold pathE
  split
  · refine ⟨putF_length _ _ _, ?_, ?_⟩
    · show (s.copies ++ [_]).length ≤ _
      rw [List.length_append]; exact Nat.le_refl _
    · show (s.notes ++ [_]).length ≤ _
      rw [List.length_append]; exact Nat.le_refl _
  · refine ⟨?_, Nat.le_succ _, ?_⟩
    · show (if _ then _ else _ : Files).length ≤ _
      split
      · exact Nat.le_succ _
      · exact putF_length _ _ _
    · show (if _ then _ else _ : List (B8 × Int)).length ≤ _
      split
      · rw [List.length_append]; exact Nat.le_refl _
      · exact Nat.le_succ _
theorem pathsE_len {o a b : Files} : ∀ (P : List B8) (s : Mg), (P.foldl (pathE o a b) s).out.length ≤ s.out.length + P.length ∧ (P.foldl (pathE o a b) s).copies.length ≤ s.copies.length + P.length ∧ (P.foldl (pathE o a b) s).notes.length ≤ s.notes.length + P.length
  | [], s => ⟨Nat.le_refl _, Nat.le_refl _, Nat.le_refl _⟩
  | p :: P, s => by
    obtain ⟨h1, h2, h3⟩ := pathsE_len (o := o) (a := a) (b := b) P (pathE o a b s p)
    obtain ⟨k1, k2, k3⟩ := pathE_len (o := o) (a := a) (b := b) s p
    rw [List.foldl_cons, List.length_cons]
    omega
theorem copiesE_len {o a b : Files} : ∀ (l : List Rw) (out out' : Files), copiesE o a b l out = some out' → out'.length ≤ out.length + l.length
  | [], out, out', h => by cases h; exact Nat.le_refl _
  | r :: l, out, out', h => by
    cases hp : placeE o a b out r 21 with
    | none => rw [copiesE_none hp] at h; cases h
    | some z =>
      rw [copiesE_some hp] at h
      have h1 := copiesE_len l z out' h
      have h2 := placeE_len o a b r 21 _ _ hp
      rw [List.length_cons]
      omega
theorem movesE_len {o a b : Files} : ∀ (L : List Rw) (out : Files) (n : List (B8 × Int)) (y : Files × List (B8 × Int)), movesE o a b L out n = some y → y.2.length ≤ n.length + L.length
  | [], out, n, y, he => by cases he; exact Nat.le_refl _
  | r :: L, out, n, y, he => by
    rw [List.length_cons]
    by_cases hu : undE out r.path = true
    · cases hp : placeE o a b (delF out r.path) r 21 with
      | none => rw [movesE_fail hu hp] at he; cases he
      | some out' =>
        rw [movesE_go hu hp] at he
        have h1 := movesE_len L out' _ y he
        rw [List.length_append, List.length_singleton] at h1
        omega
    · have hu' : undE out r.path = false := by simpa using hu
      rw [movesE_no hu'] at he
      have h1 := movesE_len L out n y he
      omega
theorem allE_notes {o a b : Files} {P : List B8} {y : Files × List (B8 × Int)} (h : allE o a b P = some y) : y.2.length ≤ 3 * P.length := by
  unfold allE thenE at h
  obtain ⟨h1, h2, h3⟩ := pathsE_len (o := o) (a := a) (b := b) P ⟨[], [], []⟩
  simp only [List.length_nil, Nat.zero_add] at h1 h2 h3
  cases hc : copiesE o a b (pathsE o a b P).copies (pathsE o a b P).out with
  | none => rw [hc] at h; cases h
  | some out =>
    rw [hc] at h
    simp only at h
    unfold limE at h
    have h4 := copiesE_len _ _ _ hc
    unfold pathsE at h4
    cases hm : movesE o a b (rowsE out) out (pathsE o a b P).notes with
    | none => rw [hm] at h; cases h
    | some z =>
      rw [hm] at h
      simp only at h
      have h5 := movesE_len _ _ _ _ hm
      unfold pathsE at h5
      have h6 : (rowsE out).length = out.length := List.length_map _
      split at h
      · cases h
      · cases h
        omega
theorem size_alloc1 (w : World) (ob : Obj) : (w.alloc ob).heap.size = w.heap.size + 1 := Array.size_push _
theorem mer_new {w : World} {B go ga gb : Nat} {o a b : Files} (src : Value) (ho : IsMG entFV w go o) (ha : IsMG entFV w ga a) (hb : IsMG entFV w gb b) (hB : B ≤ w.heap.size) :
    IsMer (((w.alloc (.map #[] 0)).alloc (.map #[] 0)).alloc (.cells #[src, .map (some go), .map (some ga), .map (some gb), .map (some w.heap.size), .slice none 0 0, .map (some (w.heap.size + 1)), .slice none 0 0] 68)) (w.heap.size + 1 + 1) B ⟨go, ga, gb, w.heap.size + 1, w.heap.size, src⟩ (.slice none 0 0) (.slice none 0 0) o a b ⟨[], [], []⟩ ∧
    Ext w (((w.alloc (.map #[] 0)).alloc (.map #[] 0)).alloc (.cells #[src, .map (some go), .map (some ga), .map (some gb), .map (some w.heap.size), .slice none 0 0, .map (some (w.heap.size + 1)), .slice none 0 0] 68)) := by
  have hs1 : (w.alloc (.map #[] 0)).heap.size = w.heap.size + 1 := size_alloc1 _ _
  have hs : ((w.alloc (.map #[] 0)).alloc (.map #[] 0)).heap.size = w.heap.size + 1 + 1 := by rw [size_alloc1, size_alloc1]
  have hx : Ext w (((w.alloc (.map #[] 0)).alloc (.map #[] 0)).alloc (.cells #[src, .map (some go), .map (some ga), .map (some gb), .map (some w.heap.size), .slice none 0 0, .map (some (w.heap.size + 1)), .slice none 0 0] 68)) := (((Ext.refl _).alloc _).alloc _).alloc _
  have l1 := ho.lt
  have l2 := ha.lt
  have l3 := hb.lt
  refine ⟨⟨?_, ho.ext hx, ha.ext hx, hb.ext hx, ?_, ?_, World.ownsRow_nil _ _ _ _, World.ownsRow_nil _ _ _ _, ⟨by omega, hB⟩, ⟨by show go ≠ w.heap.size; omega, by show ga ≠ w.heap.size; omega, by show gb ≠ w.heap.size; omega, by show w.heap.size + 1 ≠ w.heap.size; omega⟩, List.Pairwise.nil⟩, hx⟩
  · rw [← hs]; exact alloc_at _ _
  · exact (mg_made _ _).ext (((Ext.refl _).alloc _).alloc _)
  · show IsMG _ _ (w.heap.size + 1) []
    rw [← hs1]
    exact (mg_made _ _).ext ((Ext.refl _).alloc _)
theorem rows_of {w : World} {B : Nat} {v : Value} {l : Files} (h : w.ownsRow B 30 3 v l.length ((rowsE l).flatMap rwC)) (hl : l.length ≤ 1000) : IsRws w v (rowsE l) := by
  have h1 := Row.of_owns h (by omega)
  unfold IsRws
  rw [show (rowsE l).length = l.length from List.length_map _]
  exact h1

set_option maxRecDepth 100000 in
set_option maxHeartbeats 8000000 in
theorem merge3_any (fn : Fn) (fs cs : Array Value) (v1 v2 v3 : Value) (o a b : List Rw) (w : World) (hE : Env w) (h1 : IsRws w v1 o) (h2 : IsRws w v2 a) (h3 : IsRws w v3 b) (ho : Fit3 o) (ha : Fit3 a) (hb : Fit3 b) (hk : NoText o a b) :
    Calls Tryz.prog 14 #[.func fn fs cs, v1, v2, v3] w fun e w' => MergeR w' e (mergeE o a b) ∧ Ext w w' := by
  obtain ⟨p1, k1, rfl, -⟩ := h1.get
  obtain ⟨p2, k2, rfl, -⟩ := h2.get
  obtain ⟨p3, k3, rfl, -⟩ := h3.get
  have HE : Hid (Env w) := hE
  have HA : Hid (IsRws w (.slice p1 o.length k1) o) := h1
  have HB : Hid (IsRws w (.slice p2 a.length k2) a) := h2
  have HC : Hid (IsRws w (.slice p3 b.length k3) b) := h3
  have HFO : Hid (Fit3 o) := ho
  have HFA : Hid (Fit3 a) := ha
  have HFB : Hid (Fit3 b) := hb
  have HK : Hid (NoText o a b) := hk
  have lo := ho.1
  have la := ha.1
  have lb := hb.1
  obtain ⟨M, hM⟩ : ∃ M, mergeE o a b = M := ⟨_, rfl⟩
  rw [hM]
  have HM : Hid _ := hM
  clear hE h1 h2 h3 ho ha hb hk hM
  go_enter Tryz.func14, Tryz.ntmps14
  go_wp2_with fail
  go_at_call 8
  refine (tmay_any _ o w HE.out HA.out (by omega) HFO.out.2).mono ?_
  rintro e w1 ⟨rfl, hx1⟩
  have HX1 : Hid (Ext w w1) := hx1
  obtain ⟨c1, hc1⟩ : ∃ c, mayTab o = c := ⟨_, rfl⟩
  rw [hc1]
  have HC1 : Hid _ := hc1
  clear hx1 hc1
  cases c1 with
  | false =>
    have HR : Hid (M = .error 1) := by unfold Hid; rw [← HM.out]; exact mergeE_no (by rw [HC1.out]; simp)
    go_wp2_with fail
    ((try simp only [Exit.inBlock, Exit.then]); refine bodyPost_ret (results_tmp4 rfl _ _ _) rfl ?_)
    rw [HR.out]
    exact ⟨rfl, HX1.out⟩
  | true =>
  go_wp2_with fail
  go_at_call 8
  refine (tmay_any _ a w1 (HE.out.ext HX1.out) (HB.out.ext HX1.out) (by omega) HFA.out.2).mono ?_
  rintro e w2 ⟨rfl, hx2⟩
  have HX2 : Hid (Ext w w2) := HX1.out.trans hx2
  obtain ⟨c2, hc2⟩ : ∃ c, mayTab a = c := ⟨_, rfl⟩
  rw [hc2]
  have HC2 : Hid _ := hc2
  clear hx2 hc2
  cases c2 with
  | false =>
    have HR : Hid (M = .error 1) := by unfold Hid; rw [← HM.out]; exact mergeE_no (by rw [HC2.out]; simp)
    go_wp2_with fail
    ((try simp only [Exit.inBlock, Exit.then]); refine bodyPost_ret (results_tmp4 rfl _ _ _) rfl ?_)
    rw [HR.out]
    exact ⟨rfl, HX2.out⟩
  | true =>
  go_wp2_with fail
  go_at_call 8
  refine (tmay_any _ b w2 (HE.out.ext HX2.out) (HC.out.ext HX2.out) (by omega) HFB.out.2).mono ?_
  rintro e w3 ⟨rfl, hx3⟩
  have HX3 : Hid (Ext w w3) := HX2.out.trans hx3
  obtain ⟨c3, hc3⟩ : ∃ c, mayTab b = c := ⟨_, rfl⟩
  rw [hc3]
  have HC3 : Hid _ := hc3
  clear hx3 hc3
  cases c3 with
  | false =>
    have HR : Hid (M = .error 1) := by unfold Hid; rw [← HM.out]; exact mergeE_no (by rw [HC3.out]; simp)
    go_wp2_with fail
    ((try simp only [Exit.inBlock, Exit.then]); refine bodyPost_ret (results_tmp4 rfl _ _ _) rfl ?_)
    rw [HR.out]
    exact ⟨rfl, HX3.out⟩
  | true =>
  have HMY : Hid ((mayTab o && (mayTab a && mayTab b)) = true) := by unfold Hid; rw [HC1.out, HC2.out, HC3.out]; rfl
  have HRO : Hid (RiseR o) := (tab_rise HC1.out).1
  have HRA : Hid (RiseR a) := (tab_rise HC2.out).1
  have HRB : Hid (RiseR b) := (tab_rise HC3.out).1
  have bp : ∀ {l : List Rw}, Hid (Fit3 l) → l.length ≤ 1000000 ∧ ∀ r ∈ l, r.path.length ≤ 1000000 := fun h => ⟨Nat.le_trans h.out.1 (by omega), fun r hr => Nat.le_trans (h.out.2 r hr).1 (by omega)⟩
  have HBO : Hid _ := bp HFO
  have HBA : Hid _ := bp HFA
  have HBB : Hid _ := bp HFB
  clear bp
  go_wp2_with fail
  go_at_call 31
  refine (byPath_any _ o w3 (HA.out.ext HX3.out) HBO.out.1 HBO.out.2).mono ?_
  rintro e w4 ⟨⟨go, rfl, hmo, hgo⟩, hx4⟩
  have HMO4 : Hid (IsMG entFV w4 go (byP o)) := hmo
  have HX4 : Hid (Ext w w4) := HX3.out.trans hx4
  have HX34 : Hid (Ext w3 w4) := hx4
  clear hmo hgo hx4
  go_wp2_with fail
  go_at_call 31
  refine (byPath_any _ a w4 (HB.out.ext HX4.out) HBA.out.1 HBA.out.2).mono ?_
  rintro e w5 ⟨⟨ga, rfl, hma, hga⟩, hx5⟩
  have HMA5 : Hid (IsMG entFV w5 ga (byP a)) := hma
  have HMO5 : Hid (IsMG entFV w5 go (byP o)) := HMO4.out.ext hx5
  have HX5 : Hid (Ext w w5) := HX4.out.trans hx5
  clear hma hga hx5
  go_wp2_with fail
  go_at_call 31
  refine (byPath_any _ b w5 (HC.out.ext HX5.out) HBB.out.1 HBB.out.2).mono ?_
  rintro e w6 ⟨⟨gb, rfl, hmb, hgb⟩, hx6⟩
  have HMB6 : Hid (IsMG entFV w6 gb (byP b)) := hmb
  have HMA6 : Hid (IsMG entFV w6 ga (byP a)) := HMA5.out.ext hx6
  have HMO6 : Hid (IsMG entFV w6 go (byP o)) := HMO5.out.ext hx6
  have HX6 : Hid (Ext w w6) := HX5.out.trans hx6
  clear hmb hgb hx6
  have hmm := @run_makeMap Tryz.prog
  go_upto_region 4 with fail
  obtain ⟨w7, hw7⟩ : ∃ w7, w7 = (((w6.alloc (.map #[] 0)).alloc (.map #[] 0)).alloc (.cells #[.func fn fs cs, .map (some go), .map (some ga), .map (some gb), .map (some w6.heap.size), .slice none 0 0, .map (some (w6.heap.size + 1)), .slice none 0 0] 68)) := ⟨_, rfl⟩
  obtain ⟨hmer, hx67⟩ := mer_new (.func fn fs cs) HMO6.out HMA6.out HMB6.out HX6.out.size
  rw [← hw7] at hmer hx67 ⊢
  obtain ⟨g, hg⟩ : ∃ g, w6.heap.size + 1 + 1 = g := ⟨_, rfl⟩
  obtain ⟨x, hx⟩ : ∃ x, (⟨go, ga, gb, w6.heap.size + 1, w6.heap.size, .func fn fs cs⟩ : MB) = x := ⟨_, rfl⟩
  rw [hx, hg] at hmer
  rw [hg]
  have HM7 : Hid (IsMer w7 g w.heap.size x (.slice none 0 0) (.slice none 0 0) (byP o) (byP a) (byP b) ⟨[], [], []⟩) := hmer
  have HX7 : Hid (Ext w w7) := HX6.out.trans hx67
  clear hmm hw7 hmer hx67 hg hx
  obtain ⟨P, hP⟩ : ∃ P, uniqT (pathsLs [o, a, b]) = P := ⟨_, rfl⟩
  have HPL : Hid (P.length ≤ 900 ∧ ∀ p ∈ P, p.length ≤ 1000) := by
    obtain ⟨q1, q2⟩ := paths_fit HFO.out HFA.out HFB.out
    unfold Hid
    rw [← hP]
    exact ⟨Nat.le_trans (uniqT_len _) q1, fun p hp => q2 p (uniqT_mem.1 hp)⟩
  have hpl := HPL.out.1
  have HLL : Hid ((pathsLs [o, a, b]).length ≤ 1000000) := Nat.le_trans (paths_fit HFO.out HFA.out HFB.out).1 (by omega)
  have HP : Hid _ := hP
  clear hP
  go_wp2_with fail
  go_at_call 13
  refine (tpaths_any _ _ _ _ (tbs3 (HA.out.ext HX7.out) (HB.out.ext HX7.out) (HC.out.ext HX7.out)) HLL.out).mono ?_
  rw [HP.out]
  rintro e w9 ⟨⟨vp, rfl, hop⟩, hx9⟩
  have HX79 : Hid (Ext w7 w9) := (Ext.alloc (Ext.refl _) _).trans hx9
  have HOP : Hid _ := hop
  clear hop hx9
  have HM9 : Hid (IsMer w9 g w.heap.size x (.slice none 0 0) (.slice none 0 0) (byP o) (byP a) (byP b) ⟨[], [], []⟩) := HM7.out.ext HX79.out
  have HX9 : Hid (Ext w w9) := HX7.out.trans HX79.out
  have HST : Hid (IsStrs w9 vp P) := Row.of_owns HOP.out (by omega)
  have HTY : Hid (∀ k, vp.ownBlock = some k → ∃ cs fr, w9.heap[k]? = some (.cells cs 9 fr)) := fun k hk => by
    obtain ⟨cur, h⟩ := (own_type HOP.out k hk).2
    exact ⟨_, _, h⟩
  go_wp2_with fail
  go_at_call 32
  refine (all3_any vp P (fun w' hf => HE.out.ext (FrM.ext HX9.out hf (Nat.le_refl _))) HM9.out HX9.out.size HST.out HTY.out (by omega) HPL.out.2 (bndE_byP HRA.out HFA.out) (bndE_byP HRB.out HFB.out) (fun p => by rw [enL_byP HRO.out, enL_byP HRA.out, enL_byP HRB.out]; exact HK.out p)).mono ?_
  obtain ⟨R, hR⟩ : ∃ R, allE (byP o) (byP a) (byP b) P = R := ⟨_, rfl⟩
  rw [hR]
  have HR : Hid _ := hR
  rintro e w10 ⟨rfl, hm10, hf10⟩
  have HX10 : Hid (Ext w w10) := FrM.ext HX9.out hf10 (Nat.le_refl _)
  have HM10 : Hid _ := hm10
  clear hR hm10 hf10
  cases R with
  | none =>
    have HRM : Hid (M = .error 14) := by unfold Hid; rw [← HM.out]; exact mergeE_none HMY.out (by rw [HP.out]; exact HR.out)
    dsimp only [errA]
    go_wp2_with fail
    ((try simp only [Exit.inBlock, Exit.then]); refine bodyPost_ret (results_tmp4 rfl _ _ _) rfl ?_)
    rw [HRM.out]
    exact ⟨rfl, HX10.out⟩
  | some y =>
  have HRM : Hid (M = .ok (rowsE y.1, y.2)) := by unfold Hid; rw [← HM.out]; exact mergeE_some HMY.out (by rw [HP.out]; exact HR.out)
  have hyl := allE_len HR.out
  have hnl := allE_notes HR.out
  obtain ⟨vc, vn, ks, hm⟩ := HM10.out y rfl
  have HM11 : Hid (IsMer w10 g w.heap.size x vc vn (byP o) (byP a) (byP b) ⟨y.1, ks, y.2⟩) := hm
  have y7 := hm.f7
  clear hm
  dsimp only [errA]
  go_wp2_with fail
  go_at_call 33
  refine (sortNotes_any vn y.2 w.heap.size w10 (all_kinds HR.out) HM11.out.nt (by omega)).mono ?_
  rintro e w12 ⟨rfl, N, hN, hn12, hg12⟩
  obtain ⟨hm12, hf12⟩ := HM11.out.sortN N hg12 hn12
  have HPN : Hid (N.Perm y.2) := hN
  have HM12 : Hid (IsMer w12 g w.heap.size x vc vn (byP o) (byP a) (byP b) ⟨y.1, ks, N⟩) := hm12
  have HX12 : Hid (Ext w w12) := FrM.ext HX10.out hf12 (Nat.le_refl _)
  clear hN hn12 hg12 hm12 hf12 y7
  have hNl : N.length ≤ 10000 := by have := HPN.out.length_eq; omega
  have y6 := HM12.out.f6
  have y7 := HM12.out.f7
  go_upto_region 8 with fail
  apply wp_region_mix 15 [_, undef, _, .pointer (some ⟨g, 0, none⟩), .pointer (some ⟨g, 6, none⟩), .map (some x.gm), undef, _, .pointer (some ⟨g, 0, none⟩), .pointer (some ⟨g, 7, none⟩), vn, undef, undef, vn, .int .i64 0] [none, some (fun u w' => IsRws w' u (rowsE y.1)), none, none, none, none, some (fun u w' => ∃ ab cb, u = .slice ab 0 cb), none, none, none, none, some (fun u w' => IsRws w' u (rowsE y.1)), some (fun u w' => ∃ ab cb, u = .slice ab 0 cb), none, none] [[], [0], [], [2], [3], [4], [5], [], [7], [8], [9], [1], [6], [10], []] (by kernel_rfl) (by kernel_rfl) (by simp [mixV])
  · refine ⟨?_, ?_, ?_, ?_, trivial⟩
    · exact fun _ _ _ he h => h.ext he
    · exact fun _ _ _ he h => h
    · exact fun _ _ _ he h => h.ext he
    · exact fun _ _ _ he h => h
  · simp (maxSteps := 1000000) only [List.take_succ_cons, List.take_zero, oblFrom, stepObl, fillFrom, Act.put, List.setIfInBounds_toArray, List.set_cons_zero, List.set_cons_succ, knows, getV, mixV, List.getD_cons_zero, List.getD_cons_succ, and_true, true_and, forall_const]
    refine ⟨?_, ?_, ?_, ?_, ?_, ?_, ?_, ?_, ?_, ?_, ?_, ?_, ?_, ?_, ?_⟩
    · intro xs wq hq R hR
      have k6 := hq.cell y6; have k7 := hq.cell y7
      go_simp
      exact hR _ _ (Ext.refl _) rfl
    · intro xs wq hq hk R hR
      go_simp
      exact (rows3_any (HM12.out.ext hq) (by show y.1.length ≤ _; omega)).mono (by rintro e' w9 ⟨⟨v, rfl, ho⟩, hx⟩; exact ⟨_, rfl, hR _ _ hx (rows_of ho (by omega))⟩)
    · intro xs wq hq R hR
      have k6 := hq.cell y6; have k7 := hq.cell y7
      go_simp
      exact hR _ _ (Ext.refl _) rfl
    · intro xs wq hq hk R hR
      have k6 := hq.cell y6; have k7 := hq.cell y7
      go_simp
      exact hR _ _ (Ext.refl _) rfl
    · intro xs wq hq hk R hR
      have k6 := hq.cell y6; have k7 := hq.cell y7
      go_simp
      exact hR _ _ (Ext.refl _) rfl
    · intro xs wq hq hk R hR
      have k6 := hq.cell y6; have k7 := hq.cell y7
      go_simp
      exact hR _ _ (Ext.refl _) rfl
    · intro xs wq hq hk R hR
      go_simp
      exact (rising_any (fun _ => .slice none 0 0) x.gm [] _ (List.Pairwise.nil) (HM12.out.ext hq).mm (Nat.zero_le _) (fun p hp => by cases hp) (fun p f hf => ⟨_, _, _, rfl⟩)).mono (by rintro e' w9 ⟨⟨a, c, rfl⟩, hx⟩; exact ⟨_, rfl, hR _ _ hx ⟨_, _, rfl⟩⟩)
    · intro xs wq hq R hR
      have k6 := hq.cell y6; have k7 := hq.cell y7
      go_simp
      exact hR _ _ (Ext.refl _) rfl
    · intro xs wq hq hk R hR
      have k6 := hq.cell y6; have k7 := hq.cell y7
      go_simp
      exact hR _ _ (Ext.refl _) rfl
    · intro xs wq hq hk R hR
      have k6 := hq.cell y6; have k7 := hq.cell y7
      go_simp
      exact hR _ _ (Ext.refl _) rfl
    · intro xs wq hq hk R hR
      have k6 := hq.cell y6; have k7 := hq.cell y7
      go_simp
      exact hR _ _ (Ext.refl _) rfl
    · intro xs wq hq hk R hR
      go_simp
      exact hR _ _ (Ext.refl _) hk
    · intro xs wq hq hk R hR
      go_simp
      exact hR _ _ (Ext.refl _) hk
    · intro xs wq hq hk R hR
      have k6 := hq.cell y6; have k7 := hq.cell y7
      go_simp
      exact hR _ _ (Ext.refl _) rfl
    · intro xs wq hq R hR
      have k6 := hq.cell y6; have k7 := hq.cell y7
      go_simp
      exact hR _ _ (Ext.refl _) rfl
  intro xs w13 hx13 hk
  simp only [heldV, Nat.zero_add, Nat.reduceAdd, and_true] at hk
  obtain ⟨q0, q1, q2, q3, q4, q5, q6, q7, q8, q9, q10, q11, q12, q13, q14⟩ := hk
  simp (maxSteps := 1000000) only [List.take_succ_cons, List.take_zero, List.drop_succ_cons, List.drop_zero, fillFrom, Act.put, List.setIfInBounds_toArray, List.set_cons_zero, List.set_cons_succ, Nat.zero_add, Nat.reduceAdd, q0, q2, q3, q4, q5, q7, q8, q9, q10, q13, q14]
  clear q0 q2 q3 q4 q5 q7 q8 q9 q10 q13 q14
  generalize xs 1 = x1 at *
  generalize xs 6 = x6 at *
  generalize xs 11 = x11 at *
  generalize xs 12 = x12 at *
  obtain ⟨ab, cb, rfl⟩ := q12
  have HQ1 : Hid _ := q11
  have HX13 : Hid (Ext w w13) := HX12.out.trans hx13
  have HN13 : Hid (Row w13 vn N.length (N.flatMap ntC)) := Row.of_owns (owns_ext HM12.out.nt hx13) (by show N.length ≤ _; omega)
  clear q1 q11 q6 hx13 y6 y7
  go_wp2_with fail
  ((try simp only [Exit.inBlock, Exit.then]); refine bodyPost_ret (results_tmp4 rfl _ _ _) rfl ?_)
  rw [HRM.out]
  exact ⟨⟨_, _, _, _, N, rfl, HQ1.out, HPN.out, HN13.out⟩, HX13.out⟩
end Go.Proofs.YtalpfoomkhhgnaaGreatDoor

/-! marref1: turn, constants; SHA-256 the document's way, in plain Lean. Conditions: as each theorem states. -/
namespace Go.Proofs.YtalpfoomkhhgnaaGreatDoor
open Go Go.RowKit
set_option linter.unusedVariables false
set_option linter.unusedSimpArgs false
set_option linter.unusedSectionVars false

theorem absorb_app (h : List UInt32) (l p : B8) : absorb h (l ++ p) = absorb (absorb h l).1 ((absorb h l).2 ++ p) := by
  fun_induction absorb h l with
  | case1 h l hc ih =>
    rw [absorb, if_pos (by rw [List.length_append]; omega), List.take_append_of_le_length hc, List.drop_append_of_le_length hc]
    exact ih
  | case2 h l hc => rfl
theorem sum_one (l : B8) : sumM l = (absorb shaH (l ++ padM l.length)).1.flatMap outM := by
  exact congrArg (fun x => x.1.flatMap outM) (absorb_app shaH l _).symm
theorem pad_len (n : Nat) : (n + (padM n).length) % 64 = 0 := by
  unfold padM
  rw [List.length_cons, List.length_append, List.length_replicate, show (be8 (8 * n)).length = 8 from rfl]
  unfold padZ
  omega
theorem absorb_step {h : List UInt32} {l : B8} {at' : Nat} (hl : at' + 64 ≤ l.length) : absorb h (l.drop at') = absorb (mixM h ((l.drop at').take 64)) (l.drop (at' + 64)) := by
  rw [absorb, if_pos (by rw [List.length_drop]; omega), List.drop_drop]
theorem absorb_end (h : List UInt32) {l : B8} {at' : Nat} (hl : l.length ≤ at') : absorb h (l.drop at') = (h, []) := by
  rw [List.drop_eq_nil_of_le hl, absorb, if_neg (by simp)]
/-- The first i words are the schedule's. -/
def PreW (W c : List UInt32) (i : Nat) : Prop := c.length = 64 ∧ ∀ j, j < i → c.getD j 0 = W.getD j 0
theorem PreW.set {W c : List UInt32} {i : Nat} (h : PreW W c i) (hi : i < 64) : PreW W (c.set i (W.getD i 0)) (i + 1) := by
  refine ⟨by rw [List.length_set]; exact h.1, fun j hj => ?_⟩
  rw [List.getD_eq_getElem?_getD, List.getElem?_set]
  by_cases hji : i = j
  · rw [if_pos hji, if_pos (by rw [h.1]; exact hi), hji]; rfl
  · rw [if_neg hji, ← List.getD_eq_getElem?_getD]
    exact h.2 j (by omega)
theorem PreW.all {W c : List UInt32} (h : PreW W c 64) (hW : W.length = 64) : c = W := by
  refine List.ext_getElem (by rw [h.1, hW]) (fun j h1 h2 => ?_)
  have := h.2 j (by rw [h.1] at h1; exact h1)
  rw [List.getD_eq_getElem?_getD, List.getD_eq_getElem?_getD, List.getElem?_eq_getElem h1, List.getElem?_eq_getElem h2] at this
  exact this
theorem sched_at (b : B8) {n j : Nat} : ∀ (d : Nat), n = j + 1 + d → (wSched b n).getD j 0 = if j < 16 then be4 b j else wNext (wSched b j) j
  | 0, h => by
    subst h
    show (wSched b j ++ [_]).getD j 0 = _
    rw [List.getD_eq_getElem?_getD, List.getElem?_append_right (by rw [sched_len]; omega), sched_len]
    simp
  | d + 1, h => by
    subst h
    have ih := sched_at b (n := j + 1 + d) (j := j) d rfl
    show (wSched b (j + 1 + d) ++ [_]).getD j 0 = _
    rw [List.getD_eq_getElem?_getD, List.getElem?_append_left (by rw [sched_len]; omega), ← List.getD_eq_getElem?_getD]
    exact ih
theorem sched_same (b : B8) {n m j : Nat} (h1 : j < n) (h2 : j < m) : (wSched b n).getD j 0 = (wSched b m).getD j 0 := by
  rw [sched_at b (n := n) (j := j) (n - j - 1) (by omega), sched_at b (n := m) (j := j) (m - j - 1) (by omega)]
theorem sched_lo (b : B8) {j : Nat} (h : j < 16) : (wSched b 64).getD j 0 = be4 b j := by
  rw [sched_at b (n := 64) (j := j) (64 - j - 1) (by omega), if_pos h]
theorem sched_hi (b : B8) {j : Nat} (h : 16 ≤ j) (h2 : j < 64) : (wSched b 64).getD j 0 = wNext (wSched b 64) j := by
  rw [sched_at b (n := 64) (j := j) (64 - j - 1) (by omega), if_neg (by omega)]
  unfold wNext
  rw [sched_same b (n := j) (m := 64) (j := j - 16) (by omega) (by omega), sched_same b (n := j) (m := 64) (j := j - 15) (by omega) (by omega), sched_same b (n := j) (m := 64) (j := j - 7) (by omega) (by omega), sched_same b (n := j) (m := 64) (j := j - 2) (by omega) (by omega)]

set_option maxRecDepth 100000 in
theorem turn_any (x : UInt32) (n s : Nat) (w : World) (hs0 : 0 < s) (hs : s < 32) (h : n + s = 32) :
    Calls Tryz.prog 105 #[U32 x, .int .i64 (n : Int)] w fun e w' => e = .returned (U32 (rotl x (UInt32.ofNat s))) ∧ ∃ q, w' = w.drewN q := by
  obtain rfl : n = 32 - s := by omega
  have h1 : (0 : Int) ≤ ((32 - s : Nat) : Int) := by omega
  have h2 : ((32 - s : Nat) : Int) ≤ 32 := by omega
  have h3 : IntKind.i64.wrap (32 - ((32 - s : Nat) : Int)) = (s : Int) := by rw [IntWalk.i64_in _ (by omega)]; omega
  have h4 : (0 : Int) ≤ (s : Int) := by omega
  have h5 : (s : Int) ≤ 32 := by omega
  have HV : Hid (Value.int IntKind.u32 (bits BinOp.or IntKind.u32 (↑x.toNat / 2 ^ (32 - s)) (↑x.toNat * 2 ^ s % 4294967296)) = U32 (rotl x (UInt32.ofNat s))) := by
    unfold Hid rotl
    rw [shl32 x s hs, shr32 x (32 - s) (by omega), bits_or32, sub_of s hs, UInt32.or_comm]
  clear h
  go_enter Tryz.func105, Tryz.ntmps105
  go_wp2_with fail
  go_quiet (fail)
  go_wp2
  go_ret
  exact ⟨congrArg Ending.returned HV.out, _, rfl⟩
theorem turn7 (x : UInt32) (w : World) : Calls Tryz.prog 105 #[U32 x, .int .i64 7] w fun e w' => e = .returned (U32 (rotl x 25)) ∧ ∃ q, w' = w.drewN q := turn_any x 7 25 w (by decide) (by decide) rfl
theorem turn18 (x : UInt32) (w : World) : Calls Tryz.prog 105 #[U32 x, .int .i64 18] w fun e w' => e = .returned (U32 (rotl x 14)) ∧ ∃ q, w' = w.drewN q := turn_any x 18 14 w (by decide) (by decide) rfl
theorem turn17 (x : UInt32) (w : World) : Calls Tryz.prog 105 #[U32 x, .int .i64 17] w fun e w' => e = .returned (U32 (rotl x 15)) ∧ ∃ q, w' = w.drewN q := turn_any x 17 15 w (by decide) (by decide) rfl
theorem turn19 (x : UInt32) (w : World) : Calls Tryz.prog 105 #[U32 x, .int .i64 19] w fun e w' => e = .returned (U32 (rotl x 13)) ∧ ∃ q, w' = w.drewN q := turn_any x 19 13 w (by decide) (by decide) rfl
theorem turn6 (x : UInt32) (w : World) : Calls Tryz.prog 105 #[U32 x, .int .i64 6] w fun e w' => e = .returned (U32 (rotl x 26)) ∧ ∃ q, w' = w.drewN q := turn_any x 6 26 w (by decide) (by decide) rfl
theorem turn11 (x : UInt32) (w : World) : Calls Tryz.prog 105 #[U32 x, .int .i64 11] w fun e w' => e = .returned (U32 (rotl x 21)) ∧ ∃ q, w' = w.drewN q := turn_any x 11 21 w (by decide) (by decide) rfl
theorem turn25 (x : UInt32) (w : World) : Calls Tryz.prog 105 #[U32 x, .int .i64 25] w fun e w' => e = .returned (U32 (rotl x 7)) ∧ ∃ q, w' = w.drewN q := turn_any x 25 7 w (by decide) (by decide) rfl
theorem turn2 (x : UInt32) (w : World) : Calls Tryz.prog 105 #[U32 x, .int .i64 2] w fun e w' => e = .returned (U32 (rotl x 30)) ∧ ∃ q, w' = w.drewN q := turn_any x 2 30 w (by decide) (by decide) rfl
theorem turn13 (x : UInt32) (w : World) : Calls Tryz.prog 105 #[U32 x, .int .i64 13] w fun e w' => e = .returned (U32 (rotl x 19)) ∧ ∃ q, w' = w.drewN q := turn_any x 13 19 w (by decide) (by decide) rfl
theorem turn22 (x : UInt32) (w : World) : Calls Tryz.prog 105 #[U32 x, .int .i64 22] w fun e w' => e = .returned (U32 (rotl x 10)) ∧ ∃ q, w' = w.drewN q := turn_any x 22 10 w (by decide) (by decide) rfl
set_option maxRecDepth 100000 in
theorem constants_any (w : World) :
    Calls Tryz.prog 104 #[] w fun e w' => ∃ g, e = .returned (.slice (some ⟨g, 0, none⟩) 64 64) ∧ w'.heap[g]? = some (.cells (shaK.map U32).toArray 139 (0, 0)) ∧ g = w.heap.size ∧ Ext w w' ∧ w'.heap.size = g + 1 := by
  go_enter Tryz.func104, Tryz.ntmps104
  go_wp2
  go_ret
  exact ⟨_, rfl, alloc_at _ _, rfl, (Ext.refl _).alloc _, Array.size_push ..⟩
end Go.Proofs.YtalpfoomkhhgnaaGreatDoor
