/- The roots of the primes, as a row lays them. Conditions: what the row lists. -/
import Derived.Test.YtalpfoomkhhgnaaGreatDoorZak
import Derived.Test.YtalpfoomkhhgnaaGreatDoorZal
import Derived.Test.YtalpfoomkhhgnaaGreatDoorZai
import Derived.Test.YtalpfoomkhhgnaaGreatDoorZae
import Derived.Test.YtalpfoomkhhgnaaGreatDoorZab
import Derived.Test.YtalpfoomkhhgnaaGreatDoorCards
import Derived.Test.YtalpfoomkhhgnaaGreatDoorTie
import Derived.OpenShut
import Derived.LaidMore
import Derived.Lay
import Derived.Deep.DeepHandedRow
import Derived.Lib.LaidTab
import Derived.Stop.LaidErr
import Derived.ProofKit
import Derived.SizedLaws
import Derived.Deep.Slices
import Derived.Deep.Fields
import Derived.ChangeSame
import Derived.Test.YtalpfoomkhhgnaaGreatDoorZad
import Derived.Test.YtalpfoomkhhgnaaGreatDoorZaf

set_option linter.unusedVariables false
set_option linter.unusedSimpArgs false
set_option linter.unusedSectionVars false

/-! three: a merge without fights is the table that all changes give; in plain Lean. Conditions: as each theorem states. -/
namespace Go.Proofs.YtalpfoomkhhgnaaGreatDoor
open Go Go.RowKit Go.Sort

theorem look_in {e : B8 × Fi} : ∀ {l : Files}, Rising l → e ∈ l → look l e.1 = some e.2
  | [], _, hm => by cases hm
  | x :: l, h, hm => by
    have h' := List.pairwise_cons.1 h
    rcases List.mem_cons.1 hm with rfl | hm
    · unfold look; simp
    · have hne : (x.1 == e.1) = false := by
        rw [beq_eq_false_iff_ne]
        exact fun he => lt_ne (h'.1 e hm) he
      have ih := look_in h'.2 hm
      unfold look at ih ⊢
      rw [List.find?_cons, hne]
      exact ih
/-- At every path the merge takes what W has, and tells nothing. -/
def Calm (o a b W : List Rw) : Prop := ∀ p, (pickE (entG o p) (entG a p) (entG b p)).1 = entG W p ∧ ((pickE (entG o p) (entG a p) (entG b p)).2 = 1 ∨ (pickE (entG o p) (entG a p) (entG b p)).2 = 2)
theorem Calm.noText {o a b W : List Rw} (h : Calm o a b W) : NoText o a b := fun p h3 => by
  rcases (h p).2 with h1 | h1 <;> rw [h1] at h3 <;> cases h3
theorem pathE_calm {o a b : Files} {s : Mg} {p : B8} {e : En} (h1 : (pickE (enL o p) (enL a p) (enL b p)).1 = e) (h2 : (pickE (enL o p) (enL a p) (enL b p)).2 = 1 ∨ (pickE (enL o p) (enL a p) (enL b p)).2 = 2) :
    pathE o a b s p = ⟨if e.1 = 0 then s.out else putF s.out p (fiE e), s.copies, s.notes⟩ := by
  have k5 : ¬ (pickE (enL o p) (enL a p) (enL b p)).2 = 5 := by rcases h2 with h | h <;> rw [h] <;> decide
  have k4 : ¬ (pickE (enL o p) (enL a p) (enL b p)).2 = 4 := by rcases h2 with h | h <;> rw [h] <;> decide
  unfold pathE
  rw [if_neg k5, if_neg k4, h1]
theorem fold_calm {o a b : Files} {W : List Rw} (h : ∀ p, (pickE (enL o p) (enL a p) (enL b p)).1 = entG W p ∧ ((pickE (enL o p) (enL a p) (enL b p)).2 = 1 ∨ (pickE (enL o p) (enL a p) (enL b p)).2 = 2)) :
    ∀ (P : List B8) (s : Mg), Rising s.out → Rising (P.foldl (pathE o a b) s).out ∧ (P.foldl (pathE o a b) s).copies = s.copies ∧ (P.foldl (pathE o a b) s).notes = s.notes ∧
      ∀ q, look (P.foldl (pathE o a b) s).out q = if q ∈ P ∧ (entG W q).1 ≠ 0 then some (fiE (entG W q)) else look s.out q
  | [], s, hr => ⟨hr, rfl, rfl, fun q => by rw [if_neg (by rintro ⟨hq, -⟩; cases hq)]; rfl⟩
  | p :: P, s, hr => by
    rw [List.foldl_cons, pathE_calm (h p).1 (h p).2]
    have hr2 : Rising (if (entG W p).1 = 0 then s.out else putF s.out p (fiE (entG W p))) := by
      split
      · exact hr
      · exact hr.put _ _
    obtain ⟨h1, h2, h3, h4⟩ := fold_calm h P ⟨if (entG W p).1 = 0 then s.out else putF s.out p (fiE (entG W p)), s.copies, s.notes⟩ hr2
    refine ⟨h1, h2, h3, fun q => ?_⟩
    rw [h4 q]
    by_cases hz : (entG W q).1 ≠ 0
    · by_cases hq : q ∈ P
      · have m1 : q ∈ P ∧ (entG W q).1 ≠ 0 := ⟨hq, hz⟩
        have m2 : q ∈ p :: P ∧ (entG W q).1 ≠ 0 := ⟨List.mem_cons_of_mem _ hq, hz⟩
        rw [if_pos m1, if_pos m2]
      · have n1 : ¬ (q ∈ P ∧ (entG W q).1 ≠ 0) := fun hh => hq hh.1
        rw [if_neg n1]
        by_cases hqp : q = p
        · subst hqp
          have m2 : q ∈ q :: P ∧ (entG W q).1 ≠ 0 := ⟨List.mem_cons_self, hz⟩
          rw [if_pos m2]
          show look (if (entG W q).1 = 0 then s.out else putF s.out q (fiE (entG W q))) q = _
          rw [if_neg hz, look_putF_same]
        · have n2 : ¬ (q ∈ p :: P ∧ (entG W q).1 ≠ 0) := fun hh => (List.mem_cons.1 hh.1).elim hqp hq
          rw [if_neg n2]
          show look (if (entG W p).1 = 0 then s.out else putF s.out p (fiE (entG W p))) q = _
          split
          · rfl
          · exact look_putF_ne (fun hh => hqp hh.symm)
    · have n1 : ¬ (q ∈ P ∧ (entG W q).1 ≠ 0) := fun hh => hz hh.2
      have n2 : ¬ (q ∈ p :: P ∧ (entG W q).1 ≠ 0) := fun hh => hz hh.2
      rw [if_neg n1, if_neg n2]
      have hz' : (entG W q).1 = 0 := Classical.not_not.1 hz
      show look (if (entG W p).1 = 0 then s.out else putF s.out p (fiE (entG W p))) q = _
      split
      · rfl
      · rename_i hp
        exact look_putF_ne (fun hh => hp (by rw [hh]; exact hz'))
theorem ltB_one (y : UInt8) (a b : B8) : ltB (y :: a) (y :: b) = ltB a b := by
  unfold ltB
  rw [decide_eq_decide]
  constructor
  · intro h
    rcases List.cons_lt_cons_iff.1 h with h1 | ⟨-, h1⟩
    · exact absurd h1 (UInt8.lt_irrefl _)
    · exact h1
  · exact fun h => List.cons_lt_cons_iff.2 (.inr ⟨rfl, h⟩)
theorem lt_more : ∀ (p : B8) (x : UInt8) (r : B8), ltB p (p ++ x :: r) = true
  | [], x, r => rfl
  | y :: p, x, r => by
    have ih := lt_more p x r
    have := ltB_one y p (p ++ x :: r)
    rw [List.cons_append, this]
    exact ih
theorem rise_rowsE {l : Files} (h : Rising l) : RiseR (rowsE l) := List.pairwise_map.2 h
theorem tab_under {W : List Rw} (h : mayTab W = true) {x y : Rw} (hx : x ∈ W) (hy : y ∈ W) : isUnder x.path y.path = false := by
  cases hu : isUnder x.path y.path with
  | false => rfl
  | true =>
    obtain ⟨k, hk, rfl⟩ := List.mem_iff_getElem.1 hy
    have hrow := tab_row h (List.getElem?_eq_getElem hk)
    unfold mayTRow at hrow
    simp only [Bool.and_eq_true] at hrow
    obtain ⟨h0, hall⟩ := hrow
    have hp : x.path ∈ parentsL (W[k]).path := (mem_parents (path_w (mayR0_path h0))).2 hu
    have hn := List.all_eq_true.1 hall _ hp
    obtain ⟨i, hi, rfl⟩ := List.mem_iff_getElem.1 hx
    have hr := List.pairwise_iff_getElem.1 (tab_rise h).1
    have hlt : ltB (W[i]).path (W[k]).path = true := by
      obtain ⟨r, hr⟩ := (under_iff _ _).1 hu
      rw [hr]
      exact lt_more _ _ _
    have hik : i < k := by
      rcases Nat.lt_trichotomy i k with h1 | h1 | h1
      · exact h1
      · subst h1; rw [lt_irr] at hlt; cases hlt
      · have h2 := lt_trans' hlt (hr k i hk hi h1)
        rw [lt_irr] at h2; cases h2
    have hh : hasR (W.take k) (W[i]).path = true := by
      unfold hasR
      rw [List.any_eq_true]
      exact ⟨W[i], by rw [List.mem_take_iff_getElem]; exact ⟨i, by omega, rfl⟩, by simp⟩
    rw [hh] at hn
    cases hn
theorem movesE_none {o a b : Files} : ∀ (L : List Rw) (out : Files) (n : List (B8 × Int)), (∀ r ∈ L, undE out r.path = false) → movesE o a b L out n = some (out, n)
  | [], out, n, _ => rfl
  | r :: L, out, n, h => by
    rw [movesE_no (h r List.mem_cons_self)]
    exact movesE_none L out n (fun x hx => h x (List.mem_cons_of_mem _ hx))
theorem mergeE_calm {o a b W : List Rw} (hm : (mayTab o && (mayTab a && mayTab b)) = true) (hW : mayTab W = true) (hc : Calm o a b W) : mergeE o a b = .ok (W, []) := by
  have hm' := hm
  simp only [Bool.and_eq_true] at hm'
  have ro := (tab_rise hm'.1).1
  have ra := (tab_rise hm'.2.1).1
  have rb := (tab_rise hm'.2.2).1
  obtain ⟨rw', mw⟩ := tab_rise hW
  obtain ⟨P, hP⟩ : ∃ P, uniqT (pathsLs [o, a, b]) = P := ⟨_, rfl⟩
  have hcl : ∀ p, (pickE (enL (byP o) p) (enL (byP a) p) (enL (byP b) p)).1 = entG W p ∧ ((pickE (enL (byP o) p) (enL (byP a) p) (enL (byP b) p)).2 = 1 ∨ (pickE (enL (byP o) p) (enL (byP a) p) (enL (byP b) p)).2 = 2) := fun p => by
    rw [enL_byP ro, enL_byP ra, enL_byP rb]
    exact hc p
  obtain ⟨h1, h2, h3, h4⟩ := fold_calm hcl P ⟨[], [], []⟩ List.Pairwise.nil
  obtain ⟨S, hS⟩ : ∃ S, P.foldl (pathE (byP o) (byP a) (byP b)) ⟨[], [], []⟩ = S := ⟨_, rfl⟩
  rw [hS] at h1 h2 h3 h4
  have hrows : rowsE S.out = W := by
    refine riseR_ext (rise_rowsE h1) rw' fun x => ?_
    constructor
    · intro hx
      obtain ⟨e, he, rfl⟩ := List.mem_map.1 hx
      have hl := look_in h1 he
      rw [h4 e.1] at hl
      split at hl
      · rename_i hq
        have he2 := Option.some.inj hl
        rcases entR_cases rw' e.1 with ⟨y, hy, hyp, hye⟩ | ⟨-, hye⟩
        · rw [hye] at he2
          rw [← he2, ← hyp]
          exact hy
        · rw [hye] at hq
          exact absurd rfl hq.2
      · cases hl
    · intro hx
      have hg := entR_mem rw' hx
      have hz := mw x hx
      have hxp : x.path ∈ P := by
        rw [← hP, uniqT_mem]
        unfold pathsLs
        simp only [List.flatMap_cons, List.flatMap_nil, List.append_nil, List.mem_append, List.mem_map]
        apply Classical.byContradiction
        intro hn
        simp only [not_or] at hn
        obtain ⟨n1, n2, n3⟩ := hn
        have e1 : entG o x.path = (0, []) := entR_none (fun r hr he => n1 ⟨r, hr, he⟩)
        have e2 : entG a x.path = (0, []) := entR_none (fun r hr he => n2 ⟨r, hr, he⟩)
        have e3 : entG b x.path = (0, []) := entR_none (fun r hr he => n3 ⟨r, hr, he⟩)
        have h5 := (hc x.path).1
        rw [e1, e2, e3, hg] at h5
        have h6 : (0 : Int) = x.mode := congrArg Prod.fst h5
        exact hz h6.symm
      have hl := h4 x.path
      rw [if_pos ⟨hxp, by rw [hg]; exact hz⟩, hg] at hl
      exact List.mem_map.2 ⟨_, look_mem hl, rfl⟩
  have hlen : S.out.length ≤ 256 := by
    have : (rowsE S.out).length = W.length := by rw [hrows]
    rw [show (rowsE S.out).length = S.out.length from List.length_map _] at this
    have h256 : W.length ≤ 256 := by
      unfold mayTab at hW
      simp only [Bool.and_eq_true, decide_eq_true_eq] at hW
      exact hW.2
    omega
  have hu : ∀ r ∈ rowsE S.out, undE S.out r.path = false := fun r hr => by
    rw [hrows] at hr
    unfold undE
    rw [List.any_eq_false]
    intro e he
    have hy : (⟨e.1, e.2.mode, e.2.data⟩ : Rw) ∈ W := by rw [← hrows]; exact List.mem_map.2 ⟨e, he, rfl⟩
    have := tab_under hW hr hy
    dsimp only at this
    rw [this]
    simp
  have hall : allE (byP o) (byP a) (byP b) (uniqT (pathsLs [o, a, b])) = some (S.out, []) := by
    rw [hP]
    unfold allE pathsE
    rw [hS, h2, h3]
    show limE (movesE _ _ _ (rowsE S.out) S.out []) = _
    rw [movesE_none _ _ _ hu]
    show (if S.out.length > 256 then none else some (S.out, [])) = _
    rw [if_neg (by omega)]
  have := mergeE_some hm hall
  rw [this]
  show Except.ok (rowsE S.out, []) = _
  rw [hrows]
end Go.Proofs.YtalpfoomkhhgnaaGreatDoor

/-! marlaw17.ThreeLoses. Conditions: as each theorem states. -/
namespace Go.Proofs.YtalpfoomkhhgnaaGreatDoor
open Go Go.RowKit Go.Sort
set_option linter.unusedVariables false
set_option linter.unusedSimpArgs false
set_option linter.unusedSectionVars false

theorem tab_sub {o W : List Rw} (ho : mayTab o = true) (hr : RiseR W) (hs : ∀ x ∈ W, x ∈ o) (hl : W.length ≤ 256) : mayTab W = true := by
  rw [tab_yes (l := W) fun k x hx => ?_]
  · exact decide_eq_true hl
  have hxo := hs x (List.mem_of_getElem? hx)
  obtain ⟨hk, he⟩ := List.getElem?_eq_some_iff.1 hx
  obtain ⟨j, hj⟩ := List.getElem?_of_mem hxo
  have hrow := tab_row ho hj
  unfold mayTRow at hrow
  simp only [Bool.and_eq_true] at hrow
  obtain ⟨h0, hall⟩ := hrow
  have hpx := path_w (mayR0_path h0)
  unfold mayTRow
  rw [Bool.and_eq_true]
  constructor
  · unfold mayR0 at h0 ⊢
    simp only [Bool.and_eq_true, Bool.or_eq_true, decide_eq_true_eq] at h0 ⊢
    refine ⟨h0.1, h0.2.1, h0.2.2.1, h0.2.2.2.1, ?_⟩
    by_cases hz : k = 0
    · exact .inl hz
    · right
      have hk1 : k - 1 < W.length := by omega
      have h9 := List.pairwise_iff_getElem.1 hr (k - 1) k hk1 hk (by omega)
      rw [getD_at (List.getElem?_eq_getElem hk1), ← he]
      exact h9
  · rw [List.all_eq_true]
    intro p hp
    cases hh : hasR (W.take k) p with
    | false => rfl
    | true =>
      unfold hasR at hh
      obtain ⟨r, hr1, hr2⟩ := List.any_eq_true.1 hh
      have hrp : r.path = p := by simpa using hr2
      have h8 := tab_under ho (hs r (List.mem_of_mem_take hr1)) hxo
      rw [hrp, (mem_parents hpx).1 hp] at h8
      cases h8
theorem tab_len {W : List Rw} (h : mayTab W = true) : W.length ≤ 256 := by
  unfold mayTab at h
  simp only [Bool.and_eq_true, decide_eq_true_eq] at h
  exact h.2
theorem set_none {o s : List Rw} {p : B8} (ho : mayTab o = true) (hs : IsSet o p (0, []) s) : mayTab s = true ∧ (∀ x ∈ s, x ∈ o) ∧ s.length ≤ o.length := by
  have hm : ∀ x ∈ s, x ∈ o := fun x hx => by
    have h1 := (hs.1 x).1 hx
    unfold outR at h1
    rw [if_pos rfl, List.append_nil] at h1
    exact (mem_delR.1 h1).1
  have hl : s.length ≤ o.length := by
    have h1 := hs.2.1
    unfold outR at h1
    rw [if_pos rfl, List.append_nil] at h1
    rw [h1]
    exact List.length_filter_le _ _
  exact ⟨tab_sub ho hs.2.2 hm (Nat.le_trans hl (tab_len ho)), hm, hl⟩
theorem calm_oao (o a : List Rw) : Calm o a o a := fun p => by
  unfold pickE
  by_cases h : entG a p = entG o p
  · rw [if_pos h]; exact ⟨rfl, .inl rfl⟩
  · rw [if_neg h, if_neg (fun e => h e.symm), if_pos rfl]; exact ⟨rfl, .inr rfl⟩
theorem calm_oaa (o a : List Rw) : Calm o a a a := fun p => by
  unfold pickE
  rw [if_pos rfl]; exact ⟨rfl, .inl rfl⟩
theorem fit_sub {o s : List Rw} (h : Fit3 o) (hm : ∀ x ∈ s, x ∈ o) (hl : s.length ≤ o.length) : Fit3 s := ⟨Nat.le_trans hl h.1, fun r hr => h.2 r (hm r hr)⟩
theorem ok_nil {w : World} {e : Ending} {l : List Rw} (h : MergeR w e (.ok (l, []))) : ∃ (ra : Option Addr) (rc : Nat) (na : Option Addr) (nc : Nat) (ab : Option Addr) (cb : Nat), e = .returned (.tuple #[.slice ra l.length rc, .slice ab 0 cb, .slice na 0 nc, .int .i64 0]) ∧ IsRws w (.slice ra l.length rc) l := by
  obtain ⟨vr, vn, ab, cb, N, rfl, hr, hp, hn⟩ := h
  obtain rfl : N = [] := List.perm_nil.1 hp
  obtain ⟨ra, rc, rfl, -⟩ := hr.get
  obtain ⟨na, nc, rfl, -⟩ := hn
  exact ⟨ra, rc, na, nc, ab, cb, rfl, hr⟩

set_option maxRecDepth 100000 in
set_option maxHeartbeats 8000000 in
theorem threeLoses_of (vo : Value) (o : List Rw) (p : B8) (w : World) (hE : Env w) (hvo : IsRws w vo o) :
    Calls Tryz.prog 5 #[vo, S8 p] w fun e w' => e = .returned (.bool true) ∧ Ext w w' := by
  obtain ⟨oa, oc, rfl, -⟩ := hvo.get
  have HVO : Hid (IsRws w (.slice oa o.length oc) o) := hvo
  have HE : Hid (Env w) := hE
  have HF : Hid (∀ w', Ext w w' → Calls Tryz.prog 12 #[] w' fun e w'' => e = .returned (.bool true) ∧ Ext w' w'') := fun w' hx => first17_any w' (hE.ext hx)
  clear hvo hE
  go_enter Tryz.func5, Tryz.ntmps5
  go_wp2_with fail
  go_at_call 12
  refine (HF.out w (Ext.refl _)).mono ?_
  rintro e w1 ⟨rfl, hx1⟩
  have HX1 : Hid (Ext w w1) := hx1
  clear hx1
  go_wp2_with fail
  go_at_call 7
  refine (few16_any _ o w1 (HVO.out.ext HX1.out)).mono ?_
  rintro e w2 ⟨ta, rfl, rfl, hta⟩
  have HTA0 : Hid (ta = true → o.length ≤ 100 ∧ ∀ r ∈ o, r.path.length ≤ 400 ∧ r.id.length ≤ 400) := hta
  clear hta
  obtain ⟨w1, rfl⟩ : ∃ w1 : World, w1 = w2 := ⟨_, rfl⟩
  cases ta with
  | false =>
    go_wp2_with fail
    go_at_call 12
    refine (HF.out _ HX1.out).mono ?_
    rintro e wz ⟨rfl, hxz⟩
    go_wp2
    go_ret
    exact ⟨rfl, HX1.out.trans hxz⟩
  | true =>
  have ho100 := (HTA0.out rfl).1
  have HOF : Hid (Fit3 o) := ⟨Nat.le_trans ho100 (by omega), (HTA0.out rfl).2⟩
  clear HTA0
  go_wp2_with fail
  go_at_call 8
  refine (tmay_any _ o w1 (HE.out.ext HX1.out) (HVO.out.ext HX1.out) (by omega) HOF.out.2).mono ?_
  rintro e w3 ⟨rfl, hx3⟩
  have HX3 : Hid (Ext w w3) := HX1.out.trans hx3
  obtain ⟨b, hb⟩ : ∃ b, mayTab o = b := ⟨_, rfl⟩
  rw [hb]
  have HB : Hid _ := hb
  clear hx3 hb
  cases b with
  | false =>
    go_wp2_with fail
    go_at_call 12
    refine (HF.out _ HX3.out).mono ?_
    rintro e wz ⟨rfl, hxz⟩
    go_wp2
    go_ret
    exact ⟨rfl, HX3.out.trans hxz⟩
  | true =>
  by_cases hpl : (400 : Int) < (p.length : Int)
  · go_wp2_with fail
    go_at_call 12
    refine (HF.out _ HX3.out).mono ?_
    rintro e wz ⟨rfl, hxz⟩
    go_wp2
    go_ret
    exact ⟨rfl, HX3.out.trans hxz⟩
  have HRO : Hid (RiseR o) := (tab_rise HB.out).1
  go_wp2_with fail
  go_at_call 10
  refine (tset_any _ o p (0, []) w3 (HVO.out.ext HX3.out) (by omega) HRO.out).mono ?_
  rintro e w4 ⟨⟨v4, s, rfl, hS, ho4⟩, hx4⟩
  obtain ⟨hms, hsub, hsl⟩ := set_none HB.out hS
  have hr4 : IsRws w4 v4 s := Row.of_owns ho4 (by omega)
  obtain ⟨sa, sc, rfl, -⟩ := hr4.get
  have HR4 : Hid (IsRws w4 (.slice sa s.length sc) s) := hr4
  have HSF : Hid (Fit3 s) := fit_sub HOF.out hsub hsl
  have HG : Hid (entG s p = (0, [])) := by
    have h9 := set_get hS
    rwa [if_pos rfl] at h9
  have HM1 : Hid (mergeE o s o = .ok (s, [])) := mergeE_calm (by rw [HB.out, hms]; rfl) hms (calm_oao o s)
  have HM2 : Hid (mergeE o s s = .ok (s, [])) := mergeE_calm (by rw [HB.out, hms]; rfl) hms (calm_oaa o s)
  have HX4 : Hid (Ext w w4) := HX3.out.trans hx4
  clear hS ho4 hx4 hms hsub hr4
  go_wp2_with fail
  go_at_call 15
  refine (source_any (.slice none 0 0) [] false w4 ⟨[], rfl, Row.nil _, fun k u b hu => by simp at hu⟩ (Nat.zero_le _) (fun x hx => by cases hx)).mono ?_
  rintro e w5 ⟨⟨F, rfl, hF⟩, hx5⟩
  obtain ⟨b1, b2, b3, sv, svi, rfl, -⟩ := hF.get
  have HX5 : Hid (Ext w w5) := HX4.out.trans hx5
  have HX45 : Hid (Ext w4 w5) := hx5
  clear hF hx5
  go_wp2_with fail
  go_at_call 14
  refine (merge3_any _ _ _ _ _ _ o s o w5 (HE.out.ext HX5.out) (HVO.out.ext HX5.out) (HR4.out.ext HX45.out) (HVO.out.ext HX5.out) HOF.out HSF.out HOF.out (calm_oao o s).noText).mono ?_
  rw [HM1.out]
  rintro e w6 ⟨hm6, hx6⟩
  obtain ⟨ra, rc, na, nc, ab, cb, rfl, hr6⟩ := ok_nil hm6
  have HR6 : Hid (IsRws w6 (.slice ra s.length rc) s) := hr6
  have HX6 : Hid (Ext w w6) := HX5.out.trans hx6
  have HX46 : Hid (Ext w4 w6) := HX45.out.trans hx6
  clear hm6 hr6 hx6
  go_wp2_with fail
  go_at_call 14
  refine (merge3_any _ _ _ _ _ _ o s s w6 (HE.out.ext HX6.out) (HVO.out.ext HX6.out) (HR4.out.ext HX46.out) (HR4.out.ext HX46.out) HOF.out HSF.out HSF.out (calm_oaa o s).noText).mono ?_
  rw [HM2.out]
  rintro e w7 ⟨hm7, hx7⟩
  obtain ⟨qa, qc, ma, mc, ab2, cb2, rfl, hr7⟩ := ok_nil hm7
  have HR7 : Hid (IsRws w7 (.slice qa s.length qc) s) := hr7
  have HX7 : Hid (Ext w w7) := HX6.out.trans hx7
  have HS7 : Hid (IsRws w7 (.slice ra s.length rc) s) := HR6.out.ext hx7
  have HT7 : Hid (IsRws w7 (.slice sa s.length sc) s) := HR4.out.ext (HX46.out.trans hx7)
  clear hm7 hr7 hx7
  go_wp2_with fail
  go_at_call 12
  refine (HF.out _ HX7.out).mono ?_
  rintro e w8 ⟨rfl, hx8⟩
  have HX8 : Hid (Ext w w8) := HX7.out.trans hx8
  have HX78 : Hid (Ext w7 w8) := hx8
  clear hx8
  go_wp2_with fail
  go_at_call 11
  refine (tsame_any _ _ s s w8 (HS7.out.ext HX78.out) (HT7.out.ext HX78.out)).mono ?_
  rintro e w9 ⟨⟨c, rfl, hc⟩, hx9⟩
  obtain rfl : c = true := hc.2 rfl
  have HX79 : Hid (Ext w7 w9) := HX78.out.trans hx9
  have HX9 : Hid (Ext w w9) := HX8.out.trans hx9
  clear hc hx9
  go_wp2_with fail
  go_at_call 11
  refine (tsame_any _ _ s s w9 (HR7.out.ext HX79.out) (HT7.out.ext HX79.out)).mono ?_
  rintro e w10 ⟨⟨c, rfl, hc⟩, hx10⟩
  obtain rfl : c = true := hc.2 rfl
  have HX710 : Hid (Ext w7 w10) := HX79.out.trans hx10
  have HX10 : Hid (Ext w w10) := HX9.out.trans hx10
  clear hc hx10
  go_wp2_with fail
  go_at_call 9
  refine (tget_any _ s p w10 (HS7.out.ext HX710.out)).mono ?_
  rw [HG.out]
  rintro e w11 ⟨rfl, hx11⟩
  have HX11 : Hid (Ext w w11) := HX10.out.trans hx11
  unfold entV
  dsimp only
  clear hx11
  have hfd : ∀ w : World, (Instr.field 26 (.agg #[.int .i64 0, S8 []]) 0).run Tryz.prog w = .ok (.int .i64 0) w := fun _ => by kernel_rfl
  go_wp2_with fail
  go_ret
  exact ⟨rfl, HX11.out⟩
end Go.Proofs.YtalpfoomkhhgnaaGreatDoor

/-! marlaw17.ThreeApart: the table that all changes give; in plain Lean. Conditions: as each theorem states. -/
namespace Go.Proofs.YtalpfoomkhhgnaaGreatDoor
open Go Go.RowKit Go.Sort

theorem ent_zero {l : List Rw} (h : mayTab l = true) {p : B8} (hz : (entG l p).1 = 0) : entG l p = (0, []) := by
  obtain ⟨hr, hm⟩ := tab_rise h
  rcases entR_cases hr p with ⟨x, hx, -, he⟩ | ⟨-, he⟩
  · rw [he] at hz
    exact absurd hz (hm x hx)
  · exact he
/-- Of a path that one side alone changed: what stands there. -/
def aptE (x y z : En) : En := if x = y then z else y
theorem pick_apt {x y z : En} (h : x = y ∨ x = z) : (pickE x y z).1 = aptE x y z ∧ ((pickE x y z).2 = 1 ∨ (pickE x y z).2 = 2) := by
  unfold pickE aptE
  by_cases h1 : y = z
  · rw [if_pos h1]
    refine ⟨?_, .inl rfl⟩
    by_cases h2 : x = y
    · rw [if_pos h2]; exact h1
    · rw [if_neg h2]
  · rw [if_neg h1]
    by_cases h2 : x = y
    · rw [if_pos h2, if_pos h2]; exact ⟨rfl, .inr rfl⟩
    · rw [if_neg h2, if_neg h2, if_pos (h.resolve_left h2)]; exact ⟨rfl, .inr rfl⟩
/-- The table after the paths of Q. -/
structure Want (o a b : List Rw) (Q : List B8) (W : List Rw) : Prop where
  rise : RiseR W
  ent : ∀ q, entG W q = if q ∈ Q then aptE (entG o q) (entG a q) (entG b q) else entG o q
  len : W.length ≤ o.length + Q.length
  fit : ∀ r ∈ W, r.path.length ≤ 400 ∧ r.id.length ≤ 400
theorem Want.start {o a b : List Rw} (ho : mayTab o = true) (hf : Fit3 o) : Want o a b [] o :=
  ⟨(tab_rise ho).1, fun q => by rw [if_neg (by simp)], Nat.le_refl _, hf.2⟩
theorem ent_short {l : List Rw} (h : Fit3 l) (p : B8) : (entG l p).2.length ≤ 400 := by
  unfold entG
  split
  · rename_i r hr
    exact (h.2 r (List.mem_of_find?_eq_some hr)).2
  · exact Nat.zero_le _
theorem Want.step {o a b W s : List Rw} {Q : List B8} {p : B8} (h : Want o a b Q W) (ha : mayTab a = true) (hb : mayTab b = true) (fa : Fit3 a) (fb : Fit3 b) (hp : p.length ≤ 400)
    (hs : IsSet W p (aptE (entG o p) (entG a p) (entG b p)) s) : Want o a b (Q ++ [p]) s := by
  refine ⟨hs.2.2, fun q => ?_, ?_, fun r hr => ?_⟩
  · by_cases hq : q = p
    · subst hq
      rw [set_get hs, if_pos (by simp : q ∈ Q ++ [q])]
      split
      · rename_i hz
        unfold aptE at hz ⊢
        split at hz
        · rename_i h1; rw [if_pos h1]; exact (ent_zero hb hz).symm
        · rename_i h1; rw [if_neg h1]; exact (ent_zero ha hz).symm
      · rfl
    · rw [set_other h.rise hs hq, h.ent q]
      have : (q ∈ Q ++ [p]) ↔ q ∈ Q := by simp [hq]
      simp only [this]
  · rw [hs.2.1, List.length_append, List.length_singleton]
    have := outR_len W p (aptE (entG o p) (entG a p) (entG b p))
    have := h.len
    omega
  · have h1 := (hs.1 r).1 hr
    unfold outR at h1
    rcases List.mem_append.1 h1 with h1 | h1
    · exact h.fit r (mem_delR.1 h1).1
    · split at h1
      · cases h1
      · obtain rfl := List.mem_singleton.1 h1
        refine ⟨hp, ?_⟩
        show (aptE (entG o p) (entG a p) (entG b p)).2.length ≤ 400
        unfold aptE
        split
        · exact ent_short fb p
        · exact ent_short fa p
theorem Want.calm {o a b W : List Rw} (h : Want o a b (uniqT (pathsLs [o, a, b])) W) (hx : ∀ p ∈ uniqT (pathsLs [o, a, b]), entG o p = entG a p ∨ entG o p = entG b p) : Calm o a b W := fun p => by
  by_cases hp : p ∈ uniqT (pathsLs [o, a, b])
  · rw [h.ent p, if_pos hp]
    exact pick_apt (hx p hp)
  · have hn := fun hh => hp (uniqT_mem.2 hh)
    unfold pathsLs at hn
    simp only [List.flatMap_cons, List.flatMap_nil, List.append_nil, List.mem_append, List.mem_map, not_or] at hn
    have e1 : entG o p = (0, []) := entR_none (fun r hr he => hn (.inl ⟨r, hr, he⟩))
    have e2 : entG a p = (0, []) := entR_none (fun r hr he => hn (.inr (.inl ⟨r, hr, he⟩)))
    have e3 : entG b p = (0, []) := entR_none (fun r hr he => hn (.inr (.inr ⟨r, hr, he⟩)))
    rw [h.ent p, if_neg hp, e1, e2, e3]
    exact ⟨rfl, .inl rfl⟩
end Go.Proofs.YtalpfoomkhhgnaaGreatDoor

/-! marlaw17.ThreeApart. Conditions: as each theorem states. -/
namespace Go.Proofs.YtalpfoomkhhgnaaGreatDoor
open Go Go.RowKit Go.Sort
set_option linter.unusedVariables false
set_option linter.unusedSimpArgs false
set_option linter.unusedSectionVars false

theorem tup_of {w : World} {e : Ending} {R : Except Int (List Rw × List (B8 × Int))} (h : MergeR w e R) : ∃ a b c d : Value, e = .returned (.tuple #[a, b, c, d]) := by
  cases R with
  | error k => exact ⟨_, _, _, _, h⟩
  | ok y => obtain ⟨vr, vn, ab, cb, N, rfl, -⟩ := h; exact ⟨_, _, _, _, rfl⟩

set_option maxRecDepth 100000 in
set_option maxHeartbeats 16000000 in
theorem threeApart_of (vo va vb : Value) (o a b : List Rw) (w : World) (hE : Env w) (hvo : IsRws w vo o) (hva : IsRws w va a) (hvb : IsRws w vb b) :
    Calls Tryz.prog 4 #[vo, va, vb] w fun e w' => e = .returned (.bool true) ∧ Ext w w' := by
  obtain ⟨oa, oc, rfl, -⟩ := hvo.get
  obtain ⟨aa, ac, rfl, -⟩ := hva.get
  obtain ⟨ba, bc, rfl, -⟩ := hvb.get
  have HVo : Hid (IsRws w (.slice oa o.length oc) o) := hvo
  have HVa : Hid (IsRws w (.slice aa a.length ac) a) := hva
  have HVb : Hid (IsRws w (.slice ba b.length bc) b) := hvb
  have HE : Hid (Env w) := hE
  have HF : Hid (∀ w', Ext w w' → Calls Tryz.prog 12 #[] w' fun e w'' => e = .returned (.bool true) ∧ Ext w' w'') := fun w' hx => first17_any w' (hE.ext hx)
  clear hvo hva hvb hE
  go_enter Tryz.func4, Tryz.ntmps4
  go_wp2_with fail
  go_at_call 12
  refine (HF.out w (Ext.refl _)).mono ?_
  rintro e w1 ⟨rfl, hx1⟩
  have HX1 : Hid (Ext w w1) := hx1
  clear hx1
  go_wp2_with fail
  go_at_call 7
  refine (few16_any _ o w1 (HVo.out.ext HX1.out)).mono ?_
  rintro e w2 ⟨uo, rfl, rfl, hto⟩
  have HTo : Hid (uo = true → o.length ≤ 100 ∧ ∀ r ∈ o, r.path.length ≤ 400 ∧ r.id.length ≤ 400) := hto
  clear hto
  obtain ⟨w1, rfl⟩ : ∃ w1 : World, w1 = w2 := ⟨_, rfl⟩
  cases uo with
  | false =>
    go_wp2_with fail
    go_at_call 12
    refine (HF.out _ HX1.out).mono ?_
    rintro e wz ⟨rfl, hxz⟩
    go_wp2
    go_ret
    exact ⟨rfl, HX1.out.trans hxz⟩
  | true =>
  have ho100 := (HTo.out rfl).1
  have HFo : Hid (Fit3 o) := ⟨Nat.le_trans ho100 (by omega), (HTo.out rfl).2⟩
  clear HTo
  go_wp2_with fail
  go_at_call 7
  refine (few16_any _ a w1 (HVa.out.ext HX1.out)).mono ?_
  rintro e w2 ⟨ua, rfl, rfl, hta⟩
  have HTa : Hid (ua = true → a.length ≤ 100 ∧ ∀ r ∈ a, r.path.length ≤ 400 ∧ r.id.length ≤ 400) := hta
  clear hta
  obtain ⟨w1, rfl⟩ : ∃ w1 : World, w1 = w2 := ⟨_, rfl⟩
  cases ua with
  | false =>
    go_wp2_with fail
    go_at_call 12
    refine (HF.out _ HX1.out).mono ?_
    rintro e wz ⟨rfl, hxz⟩
    go_wp2
    go_ret
    exact ⟨rfl, HX1.out.trans hxz⟩
  | true =>
  have ha100 := (HTa.out rfl).1
  have HFa : Hid (Fit3 a) := ⟨Nat.le_trans ha100 (by omega), (HTa.out rfl).2⟩
  clear HTa
  go_wp2_with fail
  go_at_call 7
  refine (few16_any _ b w1 (HVb.out.ext HX1.out)).mono ?_
  rintro e w2 ⟨ub, rfl, rfl, htb⟩
  have HTb : Hid (ub = true → b.length ≤ 100 ∧ ∀ r ∈ b, r.path.length ≤ 400 ∧ r.id.length ≤ 400) := htb
  clear htb
  obtain ⟨w1, rfl⟩ : ∃ w1 : World, w1 = w2 := ⟨_, rfl⟩
  cases ub with
  | false =>
    go_wp2_with fail
    go_at_call 12
    refine (HF.out _ HX1.out).mono ?_
    rintro e wz ⟨rfl, hxz⟩
    go_wp2
    go_ret
    exact ⟨rfl, HX1.out.trans hxz⟩
  | true =>
  have hb100 := (HTb.out rfl).1
  have HFb : Hid (Fit3 b) := ⟨Nat.le_trans hb100 (by omega), (HTb.out rfl).2⟩
  clear HTb
  go_wp2_with fail
  go_at_call 8
  refine (tmay_any _ o w1 (HE.out.ext HX1.out) (HVo.out.ext HX1.out) (by omega) HFo.out.2).mono ?_
  rintro e w3 ⟨rfl, hx3⟩
  have HX3 : Hid (Ext w w3) := HX1.out.trans hx3
  obtain ⟨mo, hmo⟩ : ∃ c, mayTab o = c := ⟨_, rfl⟩
  rw [hmo]
  have HMo : Hid _ := hmo
  clear hx3 hmo
  cases mo with
  | false =>
    go_wp2_with fail
    go_at_call 12
    refine (HF.out _ HX3.out).mono ?_
    rintro e wz ⟨rfl, hxz⟩
    go_wp2
    go_ret
    exact ⟨rfl, HX3.out.trans hxz⟩
  | true =>
  go_wp2_with fail
  go_at_call 8
  refine (tmay_any _ a w3 (HE.out.ext HX3.out) (HVa.out.ext HX3.out) (by omega) HFa.out.2).mono ?_
  rintro e w4 ⟨rfl, hx4⟩
  have HX4 : Hid (Ext w w4) := HX3.out.trans hx4
  obtain ⟨ma, hma⟩ : ∃ c, mayTab a = c := ⟨_, rfl⟩
  rw [hma]
  have HMa : Hid _ := hma
  clear hx4 hma
  cases ma with
  | false =>
    go_wp2_with fail
    go_at_call 12
    refine (HF.out _ HX4.out).mono ?_
    rintro e wz ⟨rfl, hxz⟩
    go_wp2
    go_ret
    exact ⟨rfl, HX4.out.trans hxz⟩
  | true =>
  go_wp2_with fail
  go_at_call 8
  refine (tmay_any _ b w4 (HE.out.ext HX4.out) (HVb.out.ext HX4.out) (by omega) HFb.out.2).mono ?_
  rintro e w5 ⟨rfl, hx5⟩
  have HX5 : Hid (Ext w w5) := HX4.out.trans hx5
  obtain ⟨mb, hmb⟩ : ∃ c, mayTab b = c := ⟨_, rfl⟩
  rw [hmb]
  have HMb : Hid _ := hmb
  clear hx5 hmb
  cases mb with
  | false =>
    go_wp2_with fail
    go_at_call 12
    refine (HF.out _ HX5.out).mono ?_
    rintro e wz ⟨rfl, hxz⟩
    go_wp2
    go_ret
    exact ⟨rfl, HX5.out.trans hxz⟩
  | true =>
  obtain ⟨P, hP⟩ : ∃ P, uniqT (pathsLs [o, a, b]) = P := ⟨_, rfl⟩
  have HPL : Hid (P.length ≤ 900 ∧ ∀ p ∈ P, p.length ≤ 400) := by
    unfold Hid
    rw [← hP]
    refine ⟨Nat.le_trans (uniqT_len _) (paths_fit HFo.out HFa.out HFb.out).1, fun p hp => ?_⟩
    have hp := uniqT_mem.1 hp
    unfold pathsLs at hp
    simp only [List.flatMap_cons, List.flatMap_nil, List.append_nil, List.mem_append, List.mem_map] at hp
    rcases hp with ⟨r, hr, rfl⟩ | ⟨r, hr, rfl⟩ | ⟨r, hr, rfl⟩
    · exact (HFo.out.2 r hr).1
    · exact (HFa.out.2 r hr).1
    · exact (HFb.out.2 r hr).1
  have hpl := HPL.out.1
  have HLL : Hid ((pathsLs [o, a, b]).length ≤ 1000000) := Nat.le_trans (paths_fit HFo.out HFa.out HFb.out).1 (by omega)
  have HP : Hid _ := hP
  clear hP
  go_wp2_with fail
  go_at_call 13
  refine (tpaths_any _ _ _ _ (tbs3 (HVo.out.ext HX5.out) (HVa.out.ext HX5.out) (HVb.out.ext HX5.out)) HLL.out).mono ?_
  rw [HP.out]
  rintro e w6 ⟨⟨vp, rfl, hop⟩, hx6⟩
  have HX6 : Hid (Ext w w6) := HX5.out.trans ((Ext.alloc (Ext.refl _) _).trans hx6)
  have hst : IsStrs w6 vp P := Row.of_owns hop (by omega)
  have HST : Hid (IsStrs w6 vp P) := hst
  obtain ⟨pa, pc, rfl, l1, l2, l3, hpg⟩ := hst.get
  clear hop hx6 hst
  have HPG : Hid _ := hpg
  clear hpg
  go_wp2_with fail
  go_loopw [7, 9] (fun v i wr => ∃ (k : Nat) (W : List Rw), k ≤ P.length ∧ i = .int .i64 k ∧ Hid (IsRws wr v W) ∧ Hid (Want o a b (P.take k) W) ∧ Hid (∀ q ∈ P.take k, entG o q = entG a q ∨ entG o q = entG b q) ∧ Hid (Ext w6 wr)) (fun _ i _ => P.length - (intOf i).toNat)
  case atStart => exact ⟨0, o, Nat.zero_le _, rfl, HVo.out.ext HX6.out, Want.start HMo.out HFo.out, (fun q hq => by cases hq), Ext.refl _⟩
  case round =>
  obtain ⟨k, W, hk, rfl, HW, HQ, HE3, HX⟩ := hrel
  have HXW : Hid (Ext w wr) := HX6.out.trans HX.out
  by_cases hlt : k < P.length
  case neg =>
    have hkk : k = P.length := by omega
    subst hkk
    have HC : Hid (Calm o a b W) := by
      have h9 := HQ.out
      rw [List.take_length, ← HP.out] at h9
      have h8 := HE3.out
      rw [List.take_length, ← HP.out] at h8
      exact h9.calm h8
    have HWL : Hid (W.length ≤ 1000 ∧ ∀ r ∈ W, r.path.length ≤ 400 ∧ r.id.length ≤ 400) := by
      refine ⟨?_, HQ.out.fit⟩
      have h9 := HQ.out.len
      rw [List.take_length] at h9
      omega
    clear HQ HE3 HX6
    go_wp2_with fail
    go_at_call 15
    refine (source_any (.slice none 0 0) [] false wr ⟨[], rfl, Row.nil _, fun k u b hu => by simp at hu⟩ (Nat.zero_le _) (fun x hx => by cases hx)).mono ?_
    rintro e w7 ⟨⟨F, rfl, hF⟩, hx7⟩
    obtain ⟨b1, b2, b3, sv, svi, rfl, -⟩ := hF.get
    have HX7 : Hid (Ext w w7) := HXW.out.trans hx7
    have HXr7 : Hid (Ext wr w7) := hx7
    clear hF hx7
    go_wp2_with fail
    go_at_call 14
    refine (merge3_any _ _ _ _ _ _ o a b w7 (HE.out.ext HX7.out) (HVo.out.ext HX7.out) (HVa.out.ext HX7.out) (HVb.out.ext HX7.out) HFo.out HFa.out HFb.out HC.out.noText).mono ?_
    obtain ⟨mw, hmw⟩ : ∃ c, mayTab W = c := ⟨_, rfl⟩
    have HMW : Hid _ := hmw
    clear hmw
    cases mw with
    | false =>
      obtain ⟨R, hR⟩ : ∃ R, mergeE o a b = R := ⟨_, rfl⟩
      rw [hR]
      rintro e w8 ⟨hm8, hx8⟩
      obtain ⟨r0, r1, r2, r3, rfl⟩ := tup_of hm8
      have HX8 : Hid (Ext w w8) := HX7.out.trans hx8
      have HXr8 : Hid (Ext wr w8) := HXr7.out.trans hx8
      clear hm8 hx8 hR
      go_wp2_with fail
      go_at_call 8
      refine (tmay_any _ W w8 (HE.out.ext HX8.out) (HW.out.ext HXr8.out) (Nat.le_trans HWL.out.1 (by decide)) HWL.out.2).mono ?_
      rw [HMW.out]
      rintro e w9 ⟨rfl, hx9⟩
      have HX9 : Hid (Ext w w9) := HX8.out.trans hx9
      clear hx9
      go_wp2_with fail
      go_at_call 12
      refine (HF.out _ HX9.out).mono ?_
      rintro e wz ⟨rfl, hxz⟩
      go_wp2
      go_ret
      exact ⟨rfl, HX9.out.trans hxz⟩
    | true =>
      have hME : mergeE o a b = .ok (W, []) := mergeE_calm (by rw [HMo.out, HMa.out, HMb.out]; rfl) HMW.out HC.out
      rw [hME]
      rintro e w8 ⟨hm8, hx8⟩
      obtain ⟨ra, rc, na, nc, ab, cb, rfl, hr8⟩ := ok_nil hm8
      have HR8 : Hid (IsRws w8 (.slice ra W.length rc) W) := hr8
      have HX8 : Hid (Ext w w8) := HX7.out.trans hx8
      have HXr8 : Hid (Ext wr w8) := HXr7.out.trans hx8
      clear hm8 hx8 hME hr8
      go_wp2_with fail
      go_at_call 8
      refine (tmay_any _ W w8 (HE.out.ext HX8.out) (HW.out.ext HXr8.out) (Nat.le_trans HWL.out.1 (by decide)) HWL.out.2).mono ?_
      rw [HMW.out]
      rintro e w9 ⟨rfl, hx9⟩
      have HX9 : Hid (Ext w w9) := HX8.out.trans hx9
      have HX89 : Hid (Ext w8 w9) := hx9
      clear hx9
      go_wp2_with fail
      go_at_call 12
      refine (HF.out _ HX9.out).mono ?_
      rintro e w10 ⟨rfl, hx10⟩
      have HX10 : Hid (Ext w w10) := HX9.out.trans hx10
      have HX810 : Hid (Ext w8 w10) := HX89.out.trans hx10
      clear hx10
      go_wp2_with fail
      go_at_call 11
      refine (tsame_any _ _ W W w10 (HR8.out.ext HX810.out) (HW.out.ext (HXr8.out.trans HX810.out))).mono ?_
      rintro e w11 ⟨⟨c, rfl, hc⟩, hx11⟩
      obtain rfl : c = true := hc.2 rfl
      have HX11 : Hid (Ext w w11) := HX10.out.trans hx11
      clear hc hx11
      go_wp2_with fail
      go_ret
      exact ⟨rfl, HX11.out⟩
  obtain ⟨p, hp⟩ : ∃ p, P[k]? = some p := ⟨_, List.getElem?_eq_getElem hlt⟩
  obtain ⟨bb, oo, rfl, hc⟩ := HPG.out k hlt
  have y1 := HX.out.cell (hc k hlt)
  rw [show P.getD k [] = p by rw [List.getD_eq_getElem?_getD, hp]; rfl] at y1
  have HPP : Hid (P[k]? = some p) := hp
  obtain ⟨⟨om, oi⟩, heo⟩ : ∃ q, entG o p = q := ⟨_, rfl⟩
  obtain ⟨⟨am, ai⟩, hea⟩ : ∃ q, entG a p = q := ⟨_, rfl⟩
  obtain ⟨⟨bm, bi⟩, heb⟩ : ∃ q, entG b p = q := ⟨_, rfl⟩
  have HEO : Hid _ := heo
  have HEA : Hid _ := hea
  have HEB : Hid _ := heb
  have HY1 : Hid _ := y1
  have HWL : Hid (W.length ≤ 1000) := by
    have h9 := HQ.out.len
    rw [List.length_take] at h9
    exact Nat.le_trans h9 (by omega)
  have HP4 : Hid (p.length ≤ 400) := HPL.out.2 p (List.mem_of_getElem? hp)
  have HSTP : Hid (∀ (c1 : Bool), c1 = ((om, oi) != (am, ai)) → (c1 = true → (om, oi) = (bm, bi)) → ∀ s, IsSet W p (if c1 = true then (am, ai) else (bm, bi)) s → Want o a b (P.take (k + 1)) s ∧ s.length ≤ 2000 ∧ (∀ q ∈ P.take (k + 1), entG o q = entG a q ∨ entG o q = entG b q)) := by
    intro c1 hc1 hcb s hs
    have he : (if c1 = true then (am, ai) else (bm, bi)) = aptE (entG o p) (entG a p) (entG b p) := by
      rw [HEO.out, HEA.out, HEB.out]
      unfold aptE
      cases c1 with
      | true => rw [if_pos rfl, if_neg (fun e => by rw [e] at hc1; simp at hc1)]
      | false => rw [if_neg (by simp), if_pos (by simpa using hc1.symm)]
    rw [he] at hs
    have h9 := HQ.out.step HMa.out HMb.out HFa.out HFb.out HP4.out hs
    rw [take_snocR HPP.out]
    refine ⟨h9, ?_, fun q hq => ?_⟩
    · have h8 := h9.len
      rw [List.length_append, List.length_take, List.length_singleton] at h8
      omega
    · rcases List.mem_append.1 hq with hq | hq
      · exact HE3.out q hq
      · obtain rfl := List.mem_singleton.1 hq
        rw [HEO.out, HEA.out, HEB.out]
        cases c1 with
        | true => exact .inr (hcb rfl)
        | false => exact .inl (by simpa using hc1.symm)
  clear hc hp heo hea heb
  go_upto_region 10 with fail
  apply wp_region_inv 24 (fun z w' => T3 wr (p3 #[.int .i64 om, S8 oi] #[.int .i64 am, S8 ai] #[.int .i64 bm, S8 bi] #[]) (p3 (z 18) (z 19) (z 20) none) (p3 (z 21) (z 22) (z 23) none) w') [false, false, false, false, false, false, false, false, false, false, false, false, false, false, false, false, false, false, true, true, true, true, true, true] [_, _, _, _, S8 p, .agg #[.int .i64 om, S8 oi], _, _, _, _, S8 p, .agg #[.int .i64 am, S8 ai], _, _, _, _, S8 p, .agg #[.int .i64 bm, S8 bi], undef, undef, undef, undef, undef, undef] [none, none, none, none, none, none, none, none, none, none, none, none, none, none, none, none, none, none, none, none, none, none, none, none] [[], [], [], [1, 2], [3], [0, 4], [], [], [], [7, 8], [9], [6, 10], [], [], [], [13, 14], [15], [12, 16], [], [], [], [5, 18], [11, 19], [17, 20]] (by kernel_rfl) (by kernel_rfl) rfl
  · exact T3.start ⟨rfl, rfl, rfl, Nat.le_refl _, fun _ _ => rfl⟩ (fun i => by match i with | 0 => rfl | 1 => rfl | 2 => rfl | _ + 3 => rfl) (fun i => by match i with | 0 => rfl | 1 => rfl | 2 => rfl | _ + 3 => rfl)
  · simp (maxSteps := 1000000) only [oblI, stepI, knowsI, getP, mixP, List.getD_cons_zero, List.getD_cons_succ, Bool.false_eq_true, if_false, if_true, and_true, true_and, forall_const, Nat.zero_add, Nat.reduceAdd, List.take_succ_cons, List.take_zero, fillFrom, Act.put, List.setIfInBounds_toArray, List.set_cons_zero, List.set_cons_succ]
    refine ⟨?_, ?_, ?_, ?_, ?_, ?_, ?_, ?_, ?_, ?_, ?_, ?_, ?_, ?_, ?_, ?_, ?_, ?_, ?_, ?_, ?_, ?_, ?_, ?_⟩
    · intro xs z wq hj R hR
      have f1 := hj.ext.cell HY1.out
      go_simp
      exact hR _ _ hj rfl
    · intro xs z wq hj R hR
      have f1 := hj.ext.cell HY1.out
      go_simp
      exact hR _ _ hj rfl
    · intro xs z wq hj R hR
      have f1 := hj.ext.cell HY1.out
      go_simp
      exact hR _ _ hj rfl
    · intro xs z wq hj hk R hR
      obtain ⟨hk0, hk1⟩ := hk
      have f1 := hj.ext.cell HY1.out
      go_simp
      exact hR _ _ hj rfl
    · intro xs z wq hj hk R hR
      have f1 := hj.ext.cell HY1.out
      go_simp
      exact hR _ _ hj rfl
    · intro xs z wq hj hk R hR
      obtain ⟨hk0, hk1⟩ := hk
      go_simp
      exact (tget_any _ o p _ (HVo.out.ext (HXW.out.trans hj.ext))).mono (by rw [HEO.out]; rintro e' w8 ⟨rfl, hx8⟩; exact ⟨_, rfl, hR _ _ (hj.more hx8) rfl⟩)
    · intro xs z wq hj R hR
      have f1 := hj.ext.cell HY1.out
      go_simp
      exact hR _ _ hj rfl
    · intro xs z wq hj R hR
      have f1 := hj.ext.cell HY1.out
      go_simp
      exact hR _ _ hj rfl
    · intro xs z wq hj R hR
      have f1 := hj.ext.cell HY1.out
      go_simp
      exact hR _ _ hj rfl
    · intro xs z wq hj hk R hR
      obtain ⟨hk0, hk1⟩ := hk
      have f1 := hj.ext.cell HY1.out
      go_simp
      exact hR _ _ hj rfl
    · intro xs z wq hj hk R hR
      have f1 := hj.ext.cell HY1.out
      go_simp
      exact hR _ _ hj rfl
    · intro xs z wq hj hk R hR
      obtain ⟨hk0, hk1⟩ := hk
      go_simp
      exact (tget_any _ a p _ (HVa.out.ext (HXW.out.trans hj.ext))).mono (by rw [HEA.out]; rintro e' w8 ⟨rfl, hx8⟩; exact ⟨_, rfl, hR _ _ (hj.more hx8) rfl⟩)
    · intro xs z wq hj R hR
      have f1 := hj.ext.cell HY1.out
      go_simp
      exact hR _ _ hj rfl
    · intro xs z wq hj R hR
      have f1 := hj.ext.cell HY1.out
      go_simp
      exact hR _ _ hj rfl
    · intro xs z wq hj R hR
      have f1 := hj.ext.cell HY1.out
      go_simp
      exact hR _ _ hj rfl
    · intro xs z wq hj hk R hR
      obtain ⟨hk0, hk1⟩ := hk
      have f1 := hj.ext.cell HY1.out
      go_simp
      exact hR _ _ hj rfl
    · intro xs z wq hj hk R hR
      have f1 := hj.ext.cell HY1.out
      go_simp
      exact hR _ _ hj rfl
    · intro xs z wq hj hk R hR
      obtain ⟨hk0, hk1⟩ := hk
      go_simp
      exact (tget_any _ b p _ (HVb.out.ext (HXW.out.trans hj.ext))).mono (by rw [HEB.out]; rintro e' w8 ⟨rfl, hx8⟩; exact ⟨_, rfl, hR _ _ (hj.more hx8) rfl⟩)
    · intro xs z wq hj hz R hR
      go_simp
      exact hR _ _ (hj.setA 0 hz (p3_0 _ _ _ _ _))
    · intro xs z wq hj hz R hR
      go_simp
      exact hR _ _ (hj.setA 1 hz (p3_1 _ _ _ _ _))
    · intro xs z wq hj hz R hR
      go_simp
      exact hR _ _ (hj.setA 2 hz (p3_2 _ _ _ _ _))
    · intro xs z wq hj hz hk R hR
      obtain ⟨hk0, hk1⟩ := hk
      obtain ⟨g, hg, hcell, hj'⟩ := hj.setS 0 hk1 hz
      apply rel_store_rowR 26 (.tmp 10) (.tmp 65) (g := g) (cells := #[.int .i64 om, S8 oi]) (old := #[.int .i64 0, S8 []]) (t := 26)
      · rfl
      · rfl
      · exact hg
      · exact hk0
      · exact hcell
      · exact size_ent
      · rfl
      · simp [Value.oneCell']
      · exact hR _ _ (hj' _ _ (p3_0 _ _ _ _ _))
    · intro xs z wq hj hz hk R hR
      obtain ⟨hk0, hk1⟩ := hk
      obtain ⟨g, hg, hcell, hj'⟩ := hj.setS 1 hk1 hz
      apply rel_store_rowR 26 (.tmp 11) (.tmp 71) (g := g) (cells := #[.int .i64 am, S8 ai]) (old := #[.int .i64 0, S8 []]) (t := 26)
      · rfl
      · rfl
      · exact hg
      · exact hk0
      · exact hcell
      · exact size_ent
      · rfl
      · simp [Value.oneCell']
      · exact hR _ _ (hj' _ _ (p3_1 _ _ _ _ _))
    · intro xs z wq hj hz hk R hR
      obtain ⟨hk0, hk1⟩ := hk
      obtain ⟨g, hg, hcell, hj'⟩ := hj.setS 2 hk1 hz
      apply rel_store_rowR 26 (.tmp 12) (.tmp 77) (g := g) (cells := #[.int .i64 bm, S8 bi]) (old := #[.int .i64 0, S8 []]) (t := 26)
      · rfl
      · rfl
      · exact hg
      · exact hk0
      · exact hcell
      · exact size_ent
      · rfl
      · simp [Value.oneCell']
      · exact hR _ _ (hj' _ _ (p3_2 _ _ _ _ _))
  intro xs w7 hj7 hk
  simp only [zAll, List.getD_cons_zero, List.getD_cons_succ, Bool.false_eq_true, if_false, if_true] at hj7
  simp only [heldI, Nat.zero_add, Nat.reduceAdd, and_true] at hk
  have q0 := hk.1
  replace hk := hk.2
  have q1 := hk.1
  replace hk := hk.2
  have q2 := hk.1
  replace hk := hk.2
  have q3 := hk.1
  replace hk := hk.2
  have q4 := hk.1
  replace hk := hk.2
  have q5 := hk.1
  replace hk := hk.2
  have q6 := hk.1
  replace hk := hk.2
  have q7 := hk.1
  replace hk := hk.2
  have q8 := hk.1
  replace hk := hk.2
  have q9 := hk.1
  replace hk := hk.2
  have q10 := hk.1
  replace hk := hk.2
  have q11 := hk.1
  replace hk := hk.2
  have q12 := hk.1
  replace hk := hk.2
  have q13 := hk.1
  replace hk := hk.2
  have q14 := hk.1
  replace hk := hk.2
  have q15 := hk.1
  replace hk := hk.2
  have q16 := hk.1
  replace hk := hk.2
  have q17 := hk
  clear hk
  simp (maxSteps := 1000000) only [List.drop_succ_cons, List.drop_zero, Nat.zero_add, Nat.reduceAdd, List.take_succ_cons, List.take_zero, fillFrom, Act.put, List.setIfInBounds_toArray, List.set_cons_zero, List.set_cons_succ, q0, q1, q2, q3, q4, q5, q6, q7, q8, q9, q10, q11, q12, q13, q14, q15, q16, q17]
  clear q0 q1 q2 q3 q4 q5 q6 q7 q8 q9 q10 q11 q12 q13 q14 q15 q16 q17
  generalize xs 18 = x18 at *
  generalize xs 19 = x19 at *
  generalize xs 20 = x20 at *
  generalize xs 21 = x21 at *
  generalize xs 22 = x22 at *
  generalize xs 23 = x23 at *
  obtain ⟨g10, e10, h10b, h10⟩ := hj7.fit 0 _ rfl
  obtain ⟨g11, e11, h11b, h11⟩ := hj7.fit 1 _ rfl
  obtain ⟨g12, e12, h12b, h12⟩ := hj7.fit 2 _ rfl
  subst e10 e11 e12
  rw [if_neg (by simp [p3])] at h10 h11 h12
  have h10 : w7.heap[g10]? = some (.cells #[.int .i64 om, S8 oi] 26 (0, 0)) := h10
  have h11 : w7.heap[g11]? = some (.cells #[.int .i64 am, S8 ai] 26 (0, 0)) := h11
  have h12 : w7.heap[g12]? = some (.cells #[.int .i64 bm, S8 bi] 26 (0, 0)) := h12
  have HX7 : Hid (Ext wr w7) := hj7.ext
  have H11 : Hid _ := h11
  have H12 : Hid _ := h12
  obtain ⟨e0, e1⟩ := cellsE2 h10
  obtain ⟨f0, f1⟩ := cellsE2 h11
  obtain ⟨u0, u1⟩ := cellsE2 h12
  have y7 := hj7.ext.cell HY1.out
  have HY7 : Hid _ := y7
  obtain ⟨c1, hc1⟩ : ∃ c, ((om, oi) != (am, ai)) = c := ⟨_, rfl⟩
  obtain ⟨c2, hc2⟩ : ∃ c, ((om, oi) != (bm, bi)) = c := ⟨_, rfl⟩
  have hn1 : ∀ w : World, (binOp .neq 26 (.agg #[.int .i64 om, S8 oi]) (.agg #[.int .i64 am, S8 ai])).run Tryz.prog w = .ok (.bool c1) w := fun w => by
    have := neq_ent (om, oi) (am, ai) w
    rwa [hc1] at this
  have hn2 : ∀ w : World, (binOp .neq 26 (.agg #[.int .i64 om, S8 oi]) (.agg #[.int .i64 bm, S8 bi])).run Tryz.prog w = .ok (.bool c2) w := fun w => by
    have := neq_ent (om, oi) (bm, bi) w
    rwa [hc2] at this
  have HC1 : Hid _ := hc1
  have HC2 : Hid _ := hc2
  clear hj7 h10 h11 h12 h10b h11b h12b hc1 hc2 y1 y7
  cases c1 with
  | true =>
    cases c2 with
    | true =>
      go_wp2_with fail
      go_at_call 12
      refine (HF.out _ (HXW.out.trans HX7.out)).mono ?_
      rintro e wz ⟨rfl, hxz⟩
      go_wp2
      go_ret
      exact ⟨rfl, (HXW.out.trans HX7.out).trans hxz⟩
    | false =>
      have HSP : Hid _ := HSTP.out true HC1.out.symm (fun _ => by simpa using HC2.out)
      go_upto_region 14 with fail
      clear e0 e1 f0 f1 u0 u1 hn1 hn2
      apply wp_region_mix 7 [_, _, _, _, S8 p, .agg #[.int .i64 am, S8 ai], undef] [none, none, none, none, none, none, some (fun u w' => ∃ s, IsSet W p (am, ai) s ∧ IsRws w' u s)] [[], [], [], [1, 2], [3], [], [0, 4, 5]] (by kernel_rfl) (by kernel_rfl) (by simp [mixV])
      · refine ⟨?_, trivial⟩
        · exact fun _ _ _ he ⟨s, h1, h2⟩ => ⟨s, h1, h2.ext he⟩
      · simp (maxSteps := 1000000) only [List.take_succ_cons, List.take_zero, oblFrom, stepObl, fillFrom, Act.put, List.setIfInBounds_toArray, List.set_cons_zero, List.set_cons_succ, knows, getV, mixV, List.getD_cons_zero, List.getD_cons_succ, and_true, true_and, forall_const]
        refine ⟨?_, ?_, ?_, ?_, ?_, ?_, ?_⟩
        · intro xs wq hq R hR
          have f1 := hq.cell HY7.out; obtain ⟨f2, f3⟩ := cellsE2 (hq.row H11.out)
          go_simp
          exact hR _ _ (Ext.refl _) rfl
        · intro xs wq hq R hR
          have f1 := hq.cell HY7.out; obtain ⟨f2, f3⟩ := cellsE2 (hq.row H11.out)
          go_simp
          exact hR _ _ (Ext.refl _) rfl
        · intro xs wq hq R hR
          have f1 := hq.cell HY7.out; obtain ⟨f2, f3⟩ := cellsE2 (hq.row H11.out)
          go_simp
          exact hR _ _ (Ext.refl _) rfl
        · intro xs wq hq hk R hR
          obtain ⟨hk0, hk1⟩ := hk
          have f1 := hq.cell HY7.out; obtain ⟨f2, f3⟩ := cellsE2 (hq.row H11.out)
          go_simp
          exact hR _ _ (Ext.refl _) rfl
        · intro xs wq hq hk R hR
          have f1 := hq.cell HY7.out; obtain ⟨f2, f3⟩ := cellsE2 (hq.row H11.out)
          go_simp
          exact hR _ _ (Ext.refl _) rfl
        · intro xs wq hq R hR
          have f1 := hq.cell HY7.out; obtain ⟨f2, f3⟩ := cellsE2 (hq.row H11.out)
          go_simp
          exact hR _ _ (Ext.refl _) rfl
        · intro xs wq hq hk R hR
          obtain ⟨hk0, hk1, hk2⟩ := hk
          go_simp
          exact (tset_any _ W p (am, ai) _ (HW.out.ext (HX7.out.trans hq)) (Nat.le_trans HWL.out (by decide)) HQ.out.rise).mono (by rintro e' w9 ⟨⟨v', s, rfl, hS, ho9⟩, hx9⟩; exact ⟨_, rfl, hR _ _ hx9 ⟨s, hS, Row.of_owns ho9 (Nat.le_trans (HSP.out s hS).2.1 (by decide))⟩⟩)
      intro xs w8 hx8 hk
      simp only [heldV, Nat.zero_add, Nat.reduceAdd, and_true] at hk
      obtain ⟨q0, q1, q2, q3, q4, q5, q6⟩ := hk
      simp (maxSteps := 1000000) only [List.take_succ_cons, List.take_zero, List.drop_succ_cons, List.drop_zero, fillFrom, Act.put, List.setIfInBounds_toArray, List.set_cons_zero, List.set_cons_succ, Nat.zero_add, Nat.reduceAdd, q0, q1, q2, q3, q4, q5]
      clear q0 q1 q2 q3 q4 q5
      generalize xs 6 = x6 at *
      obtain ⟨s, hs, hrs⟩ := q6
      have HRS : Hid _ := hrs
      have HS9 : Hid _ := HSP.out s hs
      have HX8 : Hid (Ext w6 w8) := HX.out.trans (HX7.out.trans hx8)
      clear hs hrs hx8
      go_wp2_with fail
      go_roundw
      case rel => exact ⟨k + 1, s, by omega, by go_num, HRS, HS9.out.1, HS9.out.2.2, HX8⟩
      case measure => simp [intOf]; omega
  | false =>
    have HSP : Hid _ := HSTP.out false HC1.out.symm (fun h => by cases h)
    go_upto_region 15 with fail
    clear e0 e1 f0 f1 u0 u1 hn1 hn2
    apply wp_region_mix 7 [_, _, _, _, S8 p, .agg #[.int .i64 bm, S8 bi], undef] [none, none, none, none, none, none, some (fun u w' => ∃ s, IsSet W p (bm, bi) s ∧ IsRws w' u s)] [[], [], [], [1, 2], [3], [], [0, 4, 5]] (by kernel_rfl) (by kernel_rfl) (by simp [mixV])
    · refine ⟨?_, trivial⟩
      · exact fun _ _ _ he ⟨s, h1, h2⟩ => ⟨s, h1, h2.ext he⟩
    · simp (maxSteps := 1000000) only [List.take_succ_cons, List.take_zero, oblFrom, stepObl, fillFrom, Act.put, List.setIfInBounds_toArray, List.set_cons_zero, List.set_cons_succ, knows, getV, mixV, List.getD_cons_zero, List.getD_cons_succ, and_true, true_and, forall_const]
      refine ⟨?_, ?_, ?_, ?_, ?_, ?_, ?_⟩
      · intro xs wq hq R hR
        have f1 := hq.cell HY7.out; obtain ⟨f2, f3⟩ := cellsE2 (hq.row H12.out)
        go_simp
        exact hR _ _ (Ext.refl _) rfl
      · intro xs wq hq R hR
        have f1 := hq.cell HY7.out; obtain ⟨f2, f3⟩ := cellsE2 (hq.row H12.out)
        go_simp
        exact hR _ _ (Ext.refl _) rfl
      · intro xs wq hq R hR
        have f1 := hq.cell HY7.out; obtain ⟨f2, f3⟩ := cellsE2 (hq.row H12.out)
        go_simp
        exact hR _ _ (Ext.refl _) rfl
      · intro xs wq hq hk R hR
        obtain ⟨hk0, hk1⟩ := hk
        have f1 := hq.cell HY7.out; obtain ⟨f2, f3⟩ := cellsE2 (hq.row H12.out)
        go_simp
        exact hR _ _ (Ext.refl _) rfl
      · intro xs wq hq hk R hR
        have f1 := hq.cell HY7.out; obtain ⟨f2, f3⟩ := cellsE2 (hq.row H12.out)
        go_simp
        exact hR _ _ (Ext.refl _) rfl
      · intro xs wq hq R hR
        have f1 := hq.cell HY7.out; obtain ⟨f2, f3⟩ := cellsE2 (hq.row H12.out)
        go_simp
        exact hR _ _ (Ext.refl _) rfl
      · intro xs wq hq hk R hR
        obtain ⟨hk0, hk1, hk2⟩ := hk
        go_simp
        exact (tset_any _ W p (bm, bi) _ (HW.out.ext (HX7.out.trans hq)) (Nat.le_trans HWL.out (by decide)) HQ.out.rise).mono (by rintro e' w9 ⟨⟨v', s, rfl, hS, ho9⟩, hx9⟩; exact ⟨_, rfl, hR _ _ hx9 ⟨s, hS, Row.of_owns ho9 (Nat.le_trans (HSP.out s hS).2.1 (by decide))⟩⟩)
    intro xs w8 hx8 hk
    simp only [heldV, Nat.zero_add, Nat.reduceAdd, and_true] at hk
    obtain ⟨q0, q1, q2, q3, q4, q5, q6⟩ := hk
    simp (maxSteps := 1000000) only [List.take_succ_cons, List.take_zero, List.drop_succ_cons, List.drop_zero, fillFrom, Act.put, List.setIfInBounds_toArray, List.set_cons_zero, List.set_cons_succ, Nat.zero_add, Nat.reduceAdd, q0, q1, q2, q3, q4, q5]
    clear q0 q1 q2 q3 q4 q5
    generalize xs 6 = x6 at *
    obtain ⟨s, hs, hrs⟩ := q6
    have HRS : Hid _ := hrs
    have HS9 : Hid _ := HSP.out s hs
    have HX8 : Hid (Ext w6 w8) := HX.out.trans (HX7.out.trans hx8)
    clear hs hrs hx8
    go_wp2_with fail
    go_roundw
    case rel => exact ⟨k + 1, s, by omega, by go_num, HRS, HS9.out.1, HS9.out.2.2, HX8⟩
    case measure => simp [intOf]; omega
end Go.Proofs.YtalpfoomkhhgnaaGreatDoor

/-! marlaw5.FewEvents, Few: are events, operations few and small? Conditions: as each theorem states. -/
namespace Go.Proofs.YtalpfoomkhhgnaaGreatDoor
open Go Go.RowKit
variable [Inhabited BaseW]

theorem ReadO.dExt {p : List Value → Ev → Prop} {w w' : World} {v : Value} {L : List Ev} (h : ReadO w p v L) (hx : Ext w w') : ReadO w' p v L := h.stay hx.size (fun hn k hk => hx.block k (h.lt hn k hk))
/-- An operation, in its cells. -/
def IsOpn (w : World) (cs : List Value) (o : Opn) : Prop := ∃ vd vp, cs = [.int .i64 o.kind, .int .i64 o.mode, .int .i64 o.keep, .int .i64 o.torn, S8 o.path, S8 o.dest, vd, vp] ∧ OldB vd o.data ∧ ReadO w IsEvI vp o.plan
/-! ### FewEvents -/
def evW (n : Nat) (e : Ev) : Nat := min (n + min e.data.length 40000 + min e.path.length 1000) 160000
def fewEv (es : List Ev) : Bool := decide (es.length ≤ 60) && (es.all (fun e => decide (e.path.length ≤ 400)) && decide (es.foldl evW 0 ≤ 40000))
/-! ### Few -/
def opW (n : Nat) (o : Opn) : Nat := min (n + min o.data.length 40000) 160000
def okOp (o : Opn) : Bool := fewEv o.plan && (decide (o.path.length ≤ 400) && decide (o.dest.length ≤ 400))
def fewOps (l : List Opn) : Bool := decide (l.length ≤ 100) && (l.all okOp && decide (l.foldl opW 0 ≤ 40000))
theorem IsOpn.length {w : World} {cs : List Value} {o : Opn} (h : IsOpn w cs o) : cs.length = 8 ∧ cs.all (·.oneCell') = true := by
  obtain ⟨vd, vp, rfl, h1, h3⟩ := h
  obtain ⟨_, _, rfl, _⟩ := h1.bytes
  obtain ⟨_, ⟨_, _, rfl, _⟩, _⟩ := h3
  exact ⟨rfl, by simp [Value.oneCell']⟩
abbrev IsOps (w : World) (v : Value) (l : List Opn) : Prop := ReadO w (IsOpn w) v l
end Go.Proofs.YtalpfoomkhhgnaaGreatDoor

/-! marlaw5: what comes in: operations, by their fields, their slices, their events, read as the texts say. Conditions: what one slice may hold. -/
namespace Go.Proofs.YtalpfoomkhhgnaaGreatDoor
open Go Go.ChangeShapes Go.WideShapes Go.ChangeAt Go.RowKit Go.Deep

theorem own : ownKnob Tryz.prog.godebug = none := by kernel_rfl
theorem laidOut : laidOutB Tryz.prog = true := by kernel_rfl
theorem env_of {W : World} (hs : W.ShapedOpen Tryz.prog) : Env W :=
  ⟨Go.Proofs.cell_of_shapedOpen_int (zero := #[.int .i64 0]) (t := 3) hs (of_decide_eq_true (by kernel_rfl)) (by kernel_rfl) rfl (by kernel_rfl) (by kernel_rfl) Tryz.underlying3⟩

theorem trodAll_below (hl : laidOutB Tryz.prog = true) {H : Type} {enc : TypeId × Value → H} {W W' : World} (hb : Below W.heap.size W W') : ∀ {ts : List TypeId} {vs : List Value} {ds : List (DataW H)} {ps : List MemPlace}, DataW.TrodAll enc Tryz.prog W 0 (fun _ => true) true ts vs ds ps → (∀ x ∈ ps, x.block < W.heap.size) → (∀ t ∈ ts, Tryz.prog.readableRec t = true ∧ t < Tryz.prog.types.size) →
    DataW.TrodAll enc Tryz.prog W' 0 (fun b => decide (b < W.heap.size)) true ts vs ds ps
  | [], vs, ds, ps, h, _, _ => by
    obtain ⟨rfl, rfl, rfl⟩ := trodAll_nil h
    exact trodAll_mk0
  | t :: ts, vs, ds, ps, h, hlt, hr => by
    obtain ⟨v, vs', d, ds', p, q, rfl, rfl, rfl, h0, h1⟩ := trodAll_cons h
    exact ⟨p, q, Below.trod hl (hr t (by simp)).1 (hr t (by simp)).2 h0 hb (fun x hx => hlt x (by simp [hx])), trodAll_below hl hb h1 (fun x hx => hlt x (by simp [hx])) (fun t ht => hr t (by simp [ht])), rfl⟩

theorem i64_wf {n : Int} (h : (Lit.int .i64 n).wf = true) : I64 n := by
  have h1 : IntKind.i64.min = -9223372036854775808 := rfl
  have h2 : IntKind.i64.max = 9223372036854775807 := rfl
  simp only [Lit.wf, Bool.and_eq_true, decide_eq_true_eq] at h
  unfold I64
  omega

section
variable {H : Type} {enc : TypeId × Value → H} {P : Program} {w : World} {base : Nat} {spare : Nat → Bool} {held : Bool}
end

/-! ### What one slice may hold, at any depth -/
def Szd {H : Type} (t : TypeId) (d : DataW H) : Prop := ∀ n ∈ d.weights Tryz.prog t, n ≤ reachBytes
theorem szd_arg {H : Type} {ts : List TypeId} {ds : List (DataW H)} {j : Nat} {t : TypeId} {d : DataW H} (h : (DataW.weightsEach Tryz.prog ts ds).all (· ≤ reachBytes) = true) (ht : ts[j]? = some t) (hd : ds[j]? = some d) : Szd t d := fun n hn => by
  have := List.all_eq_true.1 h _ (DataW.weights_mem_each ht hd n hn)
  simpa using this
theorem wAll_mem {H : Type} {P : Program} {e : TypeId} : ∀ {l : List (DataW H)} {d : DataW H}, d ∈ l → ∀ n ∈ d.weights P e, n ∈ DataW.weightsAll P e l
  | d' :: r, d, hd, n, hn => by
    simp only [DataW.weightsAll, List.mem_append]
    rcases List.mem_cons.1 hd with rfl | h
    · exact Or.inl hn
    · exact Or.inr (wAll_mem h n hn)
theorem szd_slice {H : Type} {t q : TypeId} {e s : List (DataW H)} (h : Szd t (.slice e s)) (hu : Tryz.prog.underlying t = some (.slice q)) : (e.length + s.length) * Tryz.prog.bytesOf q ≤ reachBytes ∧ ∀ d ∈ e, Szd q d := by
  refine ⟨h _ (by simp [DataW.weights, hu]), fun d hd n hn => h n ?_⟩
  simp only [DataW.weights, hu, List.mem_cons, List.mem_append]
  exact Or.inr (Or.inl (wAll_mem hd n hn))
section
variable {H : Type} {enc : TypeId × Value → H} {W : World}
theorem trod_i64 {n : Nat} {v : Value} {y : DataW H × List MemPlace} (h : DataW.trod enc Tryz.prog W 0 (fun _ => true) true n 3 [v] = some y) : ∃ z, v = .int .i64 z ∧ I64 z := by
  obtain ⟨z, hc, -, hw⟩ := DataW.trod_int Tryz.underlying3 h
  simp only [List.cons.injEq, and_true] at hc
  exact ⟨z, hc, i64_wf hw⟩
theorem trod_s8 {n : Nat} {v : Value} {y : DataW H × List MemPlace} (h : DataW.trod enc Tryz.prog W 0 (fun _ => true) true n 9 [v] = some y) : ∃ l : B8, v = S8 l := by
  obtain ⟨s, hc, -, -⟩ := DataW.trod_string Tryz.underlying9 h
  simp only [List.cons.injEq, and_true] at hc
  exact ⟨s.data.toList, hc⟩

theorem row_of_cells {a : Addr} {len cap : Nat} {cs : List Value} (hl : len ≤ cap) (hm : cap ≤ maxLen) (hn : len ≤ 140737488355328) (hc : ∀ i u, cs[i]? = some u → W.cell? (a.add i) = some u) : Row W (.slice (some a) len cap) len cs := by
  unfold maxLen at hm
  refine ⟨some a, cap, rfl, hl, by omega, hn, fun hne => ?_⟩
  obtain ⟨x, r, rfl⟩ : ∃ x r, cs = x :: r := by
    cases cs with
    | nil => exact (hne rfl).elim
    | cons x r => exact ⟨x, r, rfl⟩
  have hspot : a.spot = none := by
    have := World.cell?_spot (hc 0 x rfl)
    simpa [Addr.add] using this
  obtain ⟨b, o, sp⟩ := a
  simp only at hspot
  subst hspot
  refine ⟨b, o, rfl, fun i u hu => ?_⟩
  have hadd : (⟨b, o, none⟩ : Addr).add i = ⟨b, o + i, none⟩ := by unfold Addr.add; split <;> simp_all
  rw [← hadd]
  exact hc i u hu


theorem row_low {w : World} {v : Value} {n : Nat} {cs : List Value} (h : Row w v n cs) (hn : cs ≠ []) : ∀ k, v.ownBlock = some k → k < w.heap.size := by
  obtain ⟨a, cap, rfl, h1, h2, h3, h4⟩ := h
  obtain ⟨b, o, rfl, hc⟩ := h4 hn
  intro k hk
  cases cs with
  | nil => exact (hn rfl).elim
  | cons x r =>
    have := World.block_lt_of_cell? _ _ (hc 0 x rfl)
    have hb : b = k := by simpa [Value.ownBlock] using hk
    subst hb
    exact this
theorem flat_inv (m : Nat) (hm : 0 < m) (css : List (List Value)) (h : ∀ c ∈ css, c.length = m) (q : Nat) (u : Value) (hq : css.flatten[q]? = some u) : ∃ c, css[q / m]? = some c ∧ c[q % m]? = some u := by
  induction css generalizing q with
  | nil => simp at hq
  | cons c r ih =>
    have hc := h c (by simp)
    by_cases hl : q < m
    · refine ⟨c, by rw [Nat.div_eq_of_lt hl]; rfl, ?_⟩
      rw [Nat.mod_eq_of_lt hl]
      simpa [List.flatten_cons, List.getElem?_append_left (show q < c.length by omega)] using hq
    · rw [List.flatten_cons, List.getElem?_append_right (by omega), hc] at hq
      obtain ⟨d, h1, h2⟩ := ih (fun x hx => h x (by simp [hx])) (q - m) hq
      refine ⟨d, ?_, ?_⟩
      · have : q / m = (q - m) / m + 1 := by
          rw [Nat.div_eq_sub_div hm (by omega)]
        rw [this]
        exact h1
      · rw [Nat.mod_eq_sub_mod (by omega)]
        exact h2


theorem mul_ge {a b c : Nat} (h : a * b ≤ c) (hb : 1 ≤ b) : a ≤ c := Nat.le_trans (Nat.le_mul_of_pos_right a hb) h
/-- A slice of structs, from what each row says. -/
theorem readO_of {α : Type} (m : Nat) (hm0 : 0 < m) {a : Addr} {len cap : Nat} (d0 : List Value × α) (hl : len ≤ cap) (hm : cap ≤ maxLen) (hn : len ≤ 140737488355328) {p : List Value → α → Prop} (hp : ∀ c x, p c x → c.length = m)
    (key : ∀ i, i < len → ∃ ce : List Value × α, p ce.1 ce.2 ∧ ∀ j u, ce.1[j]? = some u → W.cell? (a.add (i * m + j)) = some u) : ∃ xs : List α, ReadO W p (.slice (some a) len cap) xs ∧ xs.length = len ∧ ∀ x ∈ xs, ∃ c, p c x := by
  have key2 : ∀ i, ∃ ce : List Value × α, i < len → p ce.1 ce.2 ∧ ∀ j u, ce.1[j]? = some u → W.cell? (a.add (i * m + j)) = some u := fun i => by
    by_cases h : i < len
    · obtain ⟨ce, h1⟩ := key i h
      exact ⟨ce, fun _ => h1⟩
    · exact ⟨d0, fun hc => (h hc).elim⟩
  have CE := fun i => (key2 i).choose_spec
  generalize hce : (fun i => (key2 i).choose) = ce at CE
  have CE' : ∀ i, i < len → p (ce i).1 (ce i).2 ∧ ∀ j u, (ce i).1[j]? = some u → W.cell? (a.add (i * m + j)) = some u := fun i hil => by
    have := CE i hil
    rw [← hce]
    exact this
  have hget : ∀ (i : Nat) c, ((List.range len).map fun i => (ce i).1)[i]? = some c → i < len ∧ c = (ce i).1 := fun i c hc => by
    have hil := (List.getElem?_eq_some_iff.1 hc).1
    simp only [List.length_map, List.length_range] at hil
    refine ⟨hil, ?_⟩
    rw [List.getElem?_map, List.getElem?_range hil] at hc
    exact (Option.some.inj hc).symm
  have hrow : Row W (.slice (some a) len cap) len ((List.range len).map fun i => (ce i).1).flatten := by
    refine row_of_cells hl hm hn fun q u hq => ?_
    obtain ⟨c, hc, hu⟩ := flat_inv m hm0 _ (fun c hc => by
      obtain ⟨i, hir, rfl⟩ := List.mem_map.1 hc
      exact hp _ _ (CE' i (by simpa using hir)).1) q u hq
    obtain ⟨hil, rfl⟩ := hget _ _ hc
    have := (CE' _ hil).2 _ u hu
    rwa [show q / m * m + q % m = q by rw [Nat.mul_comm]; exact Nat.div_add_mod q m] at this
  refine ⟨(List.range len).map fun i => (ce i).2, ⟨(List.range len).map fun i => (ce i).1, by rw [List.length_map, List.length_range]; exact hrow, fun hne => ?_, by simp, fun i c e hc he => ?_⟩, by simp, fun x hx => ?_⟩
  · refine row_low hrow fun h0 => ?_
    have hlen : 0 < len := by
      cases len with
      | zero => exact (hne rfl).elim
      | succ n => omega
    have h1 := hp _ _ (CE' 0 hlen).1
    have h2 : ((List.range len).map fun i => (ce i).1)[0]? = some (ce 0).1 := by rw [List.getElem?_map, List.getElem?_range hlen]; rfl
    have h3 := List.mem_of_getElem? h2
    have h4 := List.flatten_eq_nil_iff.1 h0 _ h3
    rw [h4] at h1
    simp at h1
    omega
  · obtain ⟨hil, rfl⟩ := hget _ _ hc
    rw [List.getElem?_map, List.getElem?_range hil] at he
    cases he
    exact (CE' i hil).1
  · obtain ⟨i, hir, rfl⟩ := List.mem_map.1 hx
    exact ⟨_, (CE' i (by simpa using hir)).1⟩
end

section
variable [Inhabited BaseW] {H : Type} {enc : TypeId × Value → H} {W : World}
end

end Go.Proofs.YtalpfoomkhhgnaaGreatDoor

/-! marlaw13.Few, patterns. Conditions: as each theorem states. -/
namespace Go.Proofs.YtalpfoomkhhgnaaGreatDoor
open Go Go.RowKit
set_option linter.unusedVariables false
set_option linter.unusedSimpArgs false
set_option linter.unusedSectionVars false
variable [Inhabited BaseW]

section
variable {ops : Array Oper} {rest : List Oper} {o : Oper} {a : Act} {Q : Exit → Act → World → Prop} {w : World}
end

theorem IsOpn.ext {w w' : World} {cs : List Value} {o : Opn} (h : IsOpn w cs o) (hx : Ext w w') : IsOpn w' cs o := by
  obtain ⟨vd, vp, rfl, h1, h2⟩ := h
  exact ⟨vd, vp, rfl, h1, h2.dExt hx⟩
theorem IsOps.ext {w w' : World} {v : Value} {l : List Opn} (h : IsOps w v l) (hx : Ext w w') : IsOps w' v l :=
  (h.stay hx.size (fun hn k hk => hx.block k (h.lt hn k hk))).mono (fun c x hc => hc.ext hx)

/-- marlaw13's operations. -/
structure Sop where
  kind : Int
  f : Opn
def IsSop (w : World) (cs : List Value) (o : Sop) : Prop := ∃ fs, cs = .int .i64 o.kind :: fs ∧ IsOpn w fs o.f
theorem IsSop.length {w : World} {cs : List Value} {o : Sop} (h : IsSop w cs o) : cs.length = 9 := by
  obtain ⟨fs, rfl, h⟩ := h
  simp [(h.length).1]
abbrev IsSops (w : World) (v : Value) (l : List Sop) : Prop := ReadO w (IsSop w) v l
def fewS (l : List Sop) : Bool := decide (l.length ≤ 60) && fewOps (l.map Sop.f)
end Go.Proofs.YtalpfoomkhhgnaaGreatDoor

/-! What comes in: operations of marlaw13, texts, rows, by their fields. Conditions: what one slice may hold. -/
namespace Go.Proofs.YtalpfoomkhhgnaaGreatDoor
open Go Go.ChangeShapes Go.WideShapes Go.ChangeAt Go.RowKit Go.Deep
set_option linter.unusedVariables false
set_option linter.unusedSimpArgs false
set_option linter.unusedSectionVars false

section
variable {H : Type} {enc : TypeId × Value → H} {P : Program} {w : World} {base : Nat} {spare : Nat → Bool} {held : Bool}
theorem slice_parts {t e : TypeId} {fs : Array Field} {fuel : Nat} {cs : List Value} {x : DataW H × List MemPlace} (ht : P.underlying t = some (.slice e)) (he : P.underlying e = some (.struct fs))
    (h : DataW.trod enc P w base spare held fuel t cs = some x) :
    (cs = [.slice none 0 0] ∧ x = (.nil, [])) ∨
    ∃ (a : Addr) (len cap m : Nat) (D : Nat → DataW H) (Pl : Nat → List MemPlace), cs = [.slice (some a) len cap] ∧ len ≤ cap ∧ cap ≤ maxLen ∧ m = (if spare a.block then cap else len) ∧
      x = (.slice ((List.range len).map D) ((List.range (m - len)).map fun j => D (len + j)), MemPlace.row a (m * P.cellsOf e) ++ (List.range m).flatMap Pl) ∧
      ∀ i, i < m → ∃ (ys : List (DataW H × List MemPlace)) (n : Nat) (cs' : List Value), D i = .agg (ys.map (·.1)) ∧ ys.length = fs.size ∧ cs'.length = P.cellsOf e ∧ (∀ j u, cs'[j]? = some u → w.cell? (a.add (i * P.cellsOf e + j)) = some u) ∧
        ∀ (j : Nat) (f : Field), fs[j]? = some f → ∃ y, ys[j]? = some y ∧ DataW.trod enc P w base spare held n f.type ((cs'.drop f.offset).take (P.cellsOf f.type)) = some y := by
  rcases open_slice ht h with h0 | ⟨a, len, cap, m, n, D, Pl, hcs, hb, hl, hm, hmm, hx, hi⟩
  · exact .inl h0
  · refine .inr ⟨a, len, cap, m, D, Pl, hcs, hl, hm, hmm, hx, fun i him => ?_⟩
    obtain ⟨cs', hc, ht'⟩ := hi i him
    obtain ⟨ys, n', hn', hy, hlen, hyl, hf⟩ := DataW.trod_struct he ht'
    obtain ⟨_, hcl, hat⟩ := World.cells?_some hc
    simp only [Prod.mk.injEq] at hy
    refine ⟨ys, n', cs', hy.1, hyl, hlen, fun j u hu => ?_, fun j f hj => ?_⟩
    · have hjl := (List.getElem?_eq_some_iff.1 hu).1
      rw [← Go.Deep.add_add, hat j (by omega)]
      exact hu
    · have hjl : j < fs.size := (Array.getElem?_eq_some_iff.1 hj).1
      have hys : ys[j]? = some (ys[j]'(by omega)) := List.getElem?_eq_getElem (by omega)
      exact ⟨_, hys, (hf j f hj).trans hys⟩
end
theorem cells_int : Tryz.prog.cellsOf 3 = 1 := by kernel_rfl
theorem cells_str : Tryz.prog.cellsOf 9 = 1 := by kernel_rfl
theorem list3v {α : Type} {l : List α} (h : l.length = 3) : ∃ x0 x1 x2, l = [x0, x1, x2] := by
  match l, h with
  | [x0, x1, x2], _ => exact ⟨x0, x1, x2, rfl⟩
theorem list2v {α : Type} {l : List α} (h : l.length = 2) : ∃ x0 x1, l = [x0, x1] := by
  match l, h with
  | [x0, x1], _ => exact ⟨x0, x1, rfl⟩
theorem cells_rw : Tryz.prog.cellsOf 30 = 3 := by kernel_rfl
theorem bytes_rw : 1 ≤ Tryz.prog.bytesOf 30 := of_decide_eq_true (by kernel_rfl)
theorem cells_ent : Tryz.prog.cellsOf 26 = 2 := by kernel_rfl
section
variable [Inhabited BaseW] {H : Type} {enc : TypeId × Value → H} {W : World}
end
section
variable {H : Type} {enc : TypeId × Value → H} {W : World}
set_option maxRecDepth 100000 in
theorem trod_rows {n : Nat} {v : Value} {y : DataW H × List MemPlace} (h : DataW.trod enc Tryz.prog W 0 (fun _ => true) true n 22 [v] = some y) (hb : Szd 22 y.1) : ∃ l : List Rw, IsRws W v l ∧ ∀ r ∈ l, I64 r.mode := by
  rcases slice_parts Tryz.underlying22 Tryz.underlying30 h with ⟨hcs, hx⟩ | ⟨a, len, cap, m, D, Pl, hcs, hl, hm, hmm, rfl, hi⟩
  · simp only [List.cons.injEq, and_true] at hcs
    subst hcs
    exact ⟨[], Row.nil _, by simp⟩
  · simp only [List.cons.injEq, and_true] at hcs
    subst hcs
    simp only [if_true] at hmm
    subst hmm
    obtain ⟨hs1, hs2⟩ := szd_slice hb Tryz.underlying22
    have hlen := mul_ge hs1 bytes_rw
    have hr := reachBytes_lt
    simp only [List.length_map, List.length_range] at hlen
    obtain ⟨xs, h1, -, h2⟩ := readO_of (W := W) (a := a) (len := len) (p := fun c (o : Rw) => c = rwC o ∧ I64 o.mode) 3 (by omega) ([], ⟨[], 0, []⟩) hl hm (by omega) (fun c x hx => by rw [hx.1]; rfl) (fun i hil => by
      obtain ⟨ys, k, cs', hD, hyl, hcl, hat, hf⟩ := hi i (by omega)
      rw [cells_rw] at hcl hat
      obtain ⟨x0, x1, x2, rfl⟩ := list3v hcl
      obtain ⟨y0, e0, t0⟩ : ∃ y, ys[0]? = some y ∧ DataW.trod enc Tryz.prog W 0 (fun _ => true) true k 9 (([x0, x1, x2].drop 0).take (Tryz.prog.cellsOf 9)) = some y := hf 0 _ rfl
      obtain ⟨y1, e1, t1⟩ : ∃ y, ys[1]? = some y ∧ DataW.trod enc Tryz.prog W 0 (fun _ => true) true k 26 (([x0, x1, x2].drop 1).take (Tryz.prog.cellsOf 26)) = some y := hf 1 _ rfl
      rw [cells_str] at t0
      rw [cells_ent] at t1
      have t1 : DataW.trod enc Tryz.prog W 0 (fun _ => true) true k 26 [x1, x2] = some y1 := t1
      obtain ⟨zs, k', hk', hy, hlen', hzl, hg⟩ := DataW.trod_struct Tryz.underlying26 t1
      have hzl2 : zs.length = 2 := hzl
      obtain ⟨z0, z1, rfl⟩ := list2v hzl2
      have s0 : DataW.trod enc Tryz.prog W 0 (fun _ => true) true k' 3 (([x1, x2].drop 0).take (Tryz.prog.cellsOf 3)) = some z0 := hg 0 _ rfl
      have s1 : DataW.trod enc Tryz.prog W 0 (fun _ => true) true k' 9 (([x1, x2].drop 1).take (Tryz.prog.cellsOf 9)) = some z1 := hg 1 _ rfl
      rw [cells_int] at s0
      rw [cells_str] at s1
      obtain ⟨pp, rfl⟩ := trod_s8 t0
      obtain ⟨mm, rfl, i0⟩ := trod_i64 s0
      obtain ⟨qq, rfl⟩ := trod_s8 s1
      exact ⟨(_, ⟨pp, mm, qq⟩), ⟨rfl, i0⟩, fun j u hu => hat j u hu⟩)
    obtain ⟨css, hrow, -, heach⟩ := h1
    have hcs : ∀ (css : List (List Value)) (L : List Rw), Each (fun c (o : Rw) => c = rwC o ∧ I64 o.mode) css L → css.flatten = L.flatMap rwC := by
      intro css L hE
      have h9 : css = L.map rwC := by
        obtain ⟨hEl, hEa⟩ := hE
        apply List.ext_getElem (by rw [List.length_map]; exact hEl)
        intro k h1 h2
        rw [List.length_map] at h2
        rw [List.getElem_map]
        exact (hEa k _ _ (List.getElem?_eq_getElem h1) (List.getElem?_eq_getElem h2)).1
      rw [h9, List.flatMap_def]
    refine ⟨xs, ?_, fun e he => by obtain ⟨c, hc⟩ := h2 e he; exact hc.2⟩
    rw [hcs css xs heach] at hrow
    exact hrow
set_option maxRecDepth 100000 in
/-- An argument: rows. -/
theorem arg_rows {base : Nat} {v : Value} {d : DataW H} {p : List MemPlace} {ts : List TypeId} {ds : List (DataW H)} {j : Nat}
    (hval : Value.okWide Tryz.prog W .any base 22 v) (h : DataW.Trod enc Tryz.prog W 0 (fun _ => true) true 22 v d p)
    (hsz : (DataW.weightsEach Tryz.prog ts ds).all (· ≤ reachBytes) = true) (ht : ts[j]? = some 22) (hd : ds[j]? = some d) : ∃ l : List Rw, IsRws W v l ∧ ∀ r ∈ l, I64 r.mode := by
  obtain ⟨a0, len, cap, rfl⟩ := okWide_slice Tryz.underlying22 hval
  obtain ⟨fuel, hf⟩ := h
  exact trod_rows (y := (d, p)) (by simpa [Value.cells] using hf) (szd_arg hsz ht hd)
end

end Go.Proofs.YtalpfoomkhhgnaaGreatDoor

/-! The roots of the primes, as a row lays them. Conditions: what the row lists. -/
namespace Go.Proofs.YtalpfoomkhhgnaaGreatDoor
open Go Go.ChangeShapes Go.WideShapes Go.ChangeAt Go.RowKit Go.Deep

def tabH : List Int := shaH.map fun x => (x.toNat : Int)
def tabK : List Int := shaK.map fun x => (x.toNat : Int)
theorem tab_h : Rows.laid_marline_sha_squares = (Lib.tabData .u32 tabH : DataW Unit) := by kernel_rfl
theorem tab_k : Rows.laid_marline_sha_cubes = (Lib.tabData .u32 tabK : DataW Unit) := by kernel_rfl
theorem block_of {W : World} {name : String} {zs : List Int} {g : Nat} {zero : Array Value} {t : TypeId} (hS : W.ShapedOpen Tryz.prog) (h : Lib.TabIs Tryz.prog W name .u32 zs) (hg : Tryz.prog.globalNamed name = some g) (hlt : g < Tryz.prog.globals.size)
    (h0 : ((begin Tryz.prog (fun _ _ => 0) default).world.heap[g]?).bind Obj.row? = some (zero, t)) : W.heap[g]? = some (.cells (zs.map fun z => Value.int .u32 z).toArray t (0, 0)) := by
  obtain ⟨cs, hh, -, -⟩ := hS.1 g zero t hlt h0
  unfold Lib.TabIs World.var? at h
  rw [hg] at h
  simp only [Option.bind_some, hh, Option.some.injEq] at h
  rw [hh, h]
theorem envS_of {W : World} {x : String × DataW Unit} {rest : List (String × DataW Unit)}
    (hL : laidMet Tryz.prog (x :: ("marline/sha.cubes", Rows.laid_marline_sha_cubes) :: ("marline/sha.squares", Rows.laid_marline_sha_squares) :: rest) W) (hS : W.ShapedOpen Tryz.prog) : EnvS W := by
  have hK := laidMet.tail hL
  have hH := laidMet.tail hK
  rw [tab_k] at hK
  rw [tab_h] at hH
  have tk := Lib.tabIs_of_head (g := 1) (by kernel_rfl) (by kernel_rfl) Tryz.underlying159 Tryz.underlying139 (by kernel_rfl) (by kernel_rfl) hK
  have th := Lib.tabIs_of_head (g := 0) (by kernel_rfl) (by kernel_rfl) Tryz.underlying146 Tryz.underlying139 (by kernel_rfl) (by kernel_rfl) hH
  have bk := block_of (g := 1) (zero := (List.replicate 64 (.int .u32 0)).toArray) (t := 159) hS tk (by kernel_rfl) (of_decide_eq_true (by kernel_rfl)) (by kernel_rfl)
  have bh := block_of (g := 0) (zero := (List.replicate 8 (.int .u32 0)).toArray) (t := 146) hS th (by kernel_rfl) (of_decide_eq_true (by kernel_rfl)) (by kernel_rfl)
  have ek : (tabK.map fun z => Value.int .u32 z) = shaK.map U32 := by unfold tabK; rw [List.map_map]; rfl
  have eh : (tabH.map fun z => Value.int .u32 z) = shaH.map U32 := by unfold tabH; rw [List.map_map]; rfl
  rw [ek] at bk
  rw [eh] at bh
  exact ⟨⟨_, bh⟩, ⟨_, bk⟩⟩

end Go.Proofs.YtalpfoomkhhgnaaGreatDoor
