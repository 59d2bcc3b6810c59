/- three: all. Conditions: as each theorem states. -/
import Derived.Test.YtalpfoomkhhgnaaGreatDoorZah
import Derived.Test.YtalpfoomkhhgnaaGreatDoorZab
import Derived.Test.YtalpfoomkhhgnaaGreatDoorZai
import Derived.Test.YtalpfoomkhhgnaaGreatDoorZad
import Derived.Test.YtalpfoomkhhgnaaGreatDoorZaa
import Derived.Test.YtalpfoomkhhgnaaGreatDoorZae

set_option linter.unusedVariables false
set_option linter.unusedSimpArgs false

/-! Maps whose elements are given by a function, gone through; table.Rising. Conditions: as each theorem states. -/
namespace Go.Proofs.YtalpfoomkhhgnaaGreatDoor
open Go Go.RowKit Go.Sort
set_option linter.unusedVariables false
set_option linter.unusedSimpArgs false
set_option linter.unusedSectionVars false

section
variable {ops : Array Oper} {rest : List Oper} {o : Oper} {a : Act} {Q : Exit → Act → World → Prop} {w : World}
theorem next_mg (V : Fi → Value) (hgd : o.guard = none) (it : Operand) (hop : o.op = Op.next it false) (b r n : Nat) (l : Files) (left : Lit → Bool) (cnt : Nat)
    (hit : a.eval it = .pointer (some ⟨r, 0, none⟩)) (h : w.ranges Tryz.prog 9 elemV b r n (datG V l) left cnt)
    (hDone : cnt = 0 → (∀ kl, left kl = false) → wpList Tryz.prog ops Q rest (a.put o.dst (.tuple #[.bool false])) w)
    (hMore : ∀ (p : B8) (f : Fi) (w' : World) (cnt' : Nat), look l p = some f → left (.string p) = true →
      w'.ranges Tryz.prog 9 elemV b r n (datG V l) (fun z => left z && !z.sameKey (.string p)) cnt' → cnt' < cnt → w.grownBy w' (some r) → w'.heap.size = w.heap.size →
      (Instr.entry (.pointer (some ⟨r, 0, none⟩))).run Tryz.prog w' = .ok (.tuple #[S8 p, V f]) w' →
      wpList Tryz.prog ops Q rest (a.put o.dst (.tuple #[.bool true, S8 p, V f])) w') :
    wpList Tryz.prog ops Q (o :: rest) a w := by
  refine wpList_next_ranges w hgd it hop 9 K_str elemV Value.string (id : Value → Value) (fun key kl hk => key_inv hk) (fun v y _ => ⟨v, rfl⟩) b r n (datG V l) left cnt hit h hDone ?_
  intro x v kl y w' cnt' hkey hl hv hat hrg hlt hg hsz hen
  obtain rfl := key_lit hkey
  have hy : y.1 = .held v := by
    have : some (DataW.held v, ([] : List MemPlace)) = some y := hv
    rw [← Option.some.inj this]
  have hlk : ∃ f, look l x.data.toList = some f := by
    cases hk : look l x.data.toList with
    | some f => exact ⟨f, rfl⟩
    | none =>
      have h1 := hat .nil
      rw [datG_at, hk, hy] at h1
      cases h1
  obtain ⟨f, hf⟩ := hlk
  have hvv : v = V f := by
    have h1 := hat .nil
    rw [datG_at, hf, hy] at h1
    exact (DataW.held.inj h1).symm
  subst hvv
  exact hMore x.data.toList f w' cnt' hf hl hrg hlt hg hsz hen
end
theorem leftG_all (V : Fi → Value) {l : Files} : leftF (Maps.has (datG V l)) l = l := by
  unfold leftF
  rw [List.filter_eq_self]
  intro e he
  rw [datG_has]
  unfold look
  rw [Option.isSome_map, List.find?_isSome]
  exact ⟨e, he, by simp⟩

set_option maxRecDepth 100000 in
set_option maxHeartbeats 4000000 in
theorem rising_any (V : Fi → Value) (b : Nat) (l : Files) (w : World) (hr : Rising l) (hm : IsMG V w b l) (hl : l.length ≤ 100000) (hp : ∀ p ∈ pathsL l, p.length ≤ 1000000) (hV : ∀ p f, look l p = some f → ∃ a n c, V f = .slice a n c) :
    Calls Tryz.prog 37 #[.map (some b)] w fun e w' => (∃ a c, e = .returned (.slice a l.length c)) ∧ Ext w w' := by
  have hown := hm.map
  have hbl := hm.lt
  have HM : Hid (IsMG V w b l) := hm
  have HR : Hid (Rising l) := hr
  have HP : Hid (∀ p ∈ pathsL l, p.length ≤ 1000000) := hp
  have HA : Hid _ := leftG_all V (l := l)
  clear hr hp hm
  go_enter Tryz.func37, Tryz.ntmps37
  go_wp2_with (first
    | (at_range; refine wpList_range_own _ rfl _ 66 rfl 9 45 K_str Tryz.underlying66 _ b _ _ rfl hown ?_; intro w0 hrg0 hg0 hs0)
    | go_in)
  go_frame
  go_loopw [3] (fun sv wr => ∃ (left : Lit → Bool) (cnt : Nat) (C : List B8), wr.ranges Tryz.prog 9 elemV b w.heap.size l.length (datG V l) left cnt ∧ wr.ownsRow w.heap.size 9 1 sv C.length (C.map S8) ∧ (C ++ pathsL (leftF left l)).Perm (pathsL l) ∧ Ext w wr)
    (fun _ wr => wr.rangeLeft b w.heap.size)
  case atStart => exact ⟨_, _, [], hrg0, World.ownsRow_nil _ _ _ _, by rw [HA.out]; exact List.Perm.refl _, Below.grown (Below.refl _ _) hg0 (Nat.le_refl _) (fun j hj => by cases hj)⟩
  case round =>
    obtain ⟨left, cnt, C, hrg, hown, hpm, hx⟩ := hrel
    have HPM : Hid _ := hpm
    have hCl : C.length ≤ l.length := by
      have := hpm.length_eq
      simp only [List.length_append, pathsL, List.length_map] at this
      omega
    have HOW : Hid _ := hown
    clear hpm hown
    go_wp2_with (at_next; refine next_mg V rfl _ rfl b w.heap.size _ l _ _ rfl hrg ?_ ?_)
    · intro hc0 hl0
      have hpe : C.Perm (pathsL l) := by
        have := HPM.out
        rw [leftF_none hl0] at this
        simpa [pathsL] using this
      have hle : C.length = l.length := by have := hpe.length_eq; simpa [pathsL] using this
      have HPE : Hid (C.Perm (pathsL l)) := hpe
      have HLE : Hid (C.length = l.length) := hle
      have HXR : Hid (Ext w wr) := hx
      have HIS : Hid (IsStrs wr _ C) := Row.of_owns HOW.out (by omega)
      obtain ⟨ca, cc, he, -⟩ := HIS.out.get
      subst he
      clear hl0 hpe hle hx
      go_wp2_with fail
      go_at_call 60
      have hpl : C.length ≤ 1000000 := by have := HLE.out; omega
      refine (wsort_all C.length _ C wr (Nat.le_refl _) HIS.out hpl).mono ?_
      rintro e w2 ⟨⟨v2, rfl, hv2⟩, hx2⟩
      have HS2 : Hid (IsStrs w2 v2 (sortT C)) := by
        have h9 := Row.of_owns hv2 (by omega)
        unfold Hid IsStrs
        rw [sortT_len]
        exact h9
      obtain ⟨sa, sc, he2, s1, s2, s3, hsg⟩ := HS2.out.get
      have HSG : Hid _ := hsg
      rw [sortT_len, HLE.out] at he2 s1
      subst he2
      have HX2 : Hid (Ext w w2) := HXR.out.trans hx2
      have HM2 : Hid (IsMG V w2 b l) := HM.out.ext HX2.out
      clear hv2 hx2 hsg s2
      go_wp2_with fail
      go_loopw [5, 21] (fun sv i wq => ∃ (k : Nat) (xs : List Value), k ≤ l.length ∧ i = .int .i64 k ∧ Hid (wq.ownsRow w2.heap.size 45 1 sv k xs) ∧ Hid (Ext w2 wq)) (fun _ i _ => l.length - (intOf i).toNat)
      case atStart => exact ⟨0, [], Nat.zero_le _, rfl, World.ownsRow_nil _ _ _ _, Ext.refl _⟩
      case round =>
      obtain ⟨k, xs, hk, rfl, HOQ, HXQ⟩ := hrel
      by_cases hlt : k < l.length
      case neg =>
        have hkk : k = l.length := by omega
        subst hkk
        obtain ⟨ra, rc, he, -⟩ := Row.of_owns HOQ.out (by omega)
        subst he
        go_wp2
        go_ret
        exact ⟨⟨_, _, rfl⟩, HX2.out.trans HXQ.out⟩
      have hks : k < (sortT C).length := by rw [sortT_len, HLE.out]; exact hlt
      obtain ⟨q, hq⟩ : ∃ q, (sortT C)[k]? = some q := ⟨_, List.getElem?_eq_getElem hks⟩
      obtain ⟨bb, oo, rfl, hc⟩ := HSG.out k hks
      have y1 := HXQ.out.cell (hc k hks)
      rw [show (sortT C).getD k [] = q by rw [List.getD_eq_getElem?_getD, hq]; rfl] at y1
      have hqm : q ∈ pathsL l := HPE.out.mem_iff.1 ((sortT_perm C).mem_iff.1 (List.mem_of_getElem? hq))
      have hql := HP.out q hqm
      obtain ⟨f, hf⟩ : ∃ f, look l q = some f := Option.isSome_iff_exists.1 (by unfold look; rw [Option.isSome_map, List.find?_isSome]; obtain ⟨e, he, hee⟩ := List.mem_map.1 hqm; exact ⟨e, he, by simp [hee]⟩)
      obtain ⟨va, vn, vc, hvf⟩ := hV q f hf
      have hlk := ((HM2.out.ext HXQ.out).look_run 66 45 (.slice none 0 0) Tryz.underlying66 (by kernel_rfl) q hql).2
      rw [show lookG V (.slice none 0 0) l q = .slice va vn vc by unfold lookG; rw [hf]; exact hvf] at hlk
      have hown := HOQ.out
      have hsz := HXQ.out.size
      clear hc hq hqm hf hvf
      go_wp2_with (at_builtin; go_must (refine app_any 35 45 (.slice none 0 0) 1 24 Tryz.underlying35 (by kernel_rfl) rfl (by omega) rfl _ _ rfl w2.heap.size _ k xs rfl (hown.alloc _) ⟨wr.heap.size, 0, none⟩ 1 1 [.slice va vn vc] rfl rfl (news_of_block (alloc_at _ _)) (by simp [Value.oneCell']) (by omega) (by omega) (by simp; omega) ?_; intro v' w3 hown3 hg3 _))
      go_roundw
      case rel => exact ⟨k + 1, _, by omega, by go_num, hown3, owns_ext_app (HXQ.out.alloc _) (hown.alloc _) hg3⟩
      case measure => simp [intOf]; omega
    · intro q f w1 cnt1 hlk hlx hrg1 hlt hg1 hs1 hen
      have hst := strike_perm (f := f) hlx HR.out hlk
      have hpm1 : ((C ++ [q]) ++ pathsL (leftF (strike left q) l)).Perm (pathsL l) := by
        refine List.Perm.trans ?_ HPM.out
        rw [List.append_assoc]
        refine List.Perm.append_left C ?_
        exact (List.Perm.map Prod.fst hst).symm
      have HMM : Hid _ := hpm1
      have hne := row_ne_iter HOW.out hrg
      have hown1 := World.ownsRow.kept HOW.out hg1 (.inr hne.symm)
      have hx1 : Ext w w1 := Below.grown hx hg1 hx.size (fun j hj => by cases hj; exact Nat.le_refl _)
      have hxa : Ext w1 (w1.alloc (.cells #[S8 q] 9)) := (Ext.refl _).alloc _
      have hown2 := owns_ext hown1 hxa
      have hx2 := hx1.trans hxa
      have hsz : w.heap.size ≤ (w1.alloc (.cells #[S8 q] 9)).heap.size := hx2.size
      have hrg2 := hrg1.alloc (.cells #[S8 q] 9)
      have HNE2 : Hid _ := row_ne_iter hown2 hrg2
      have HLOW : Hid _ := row_ne_low hown2 hbl
      obtain ⟨fv, hfv⟩ : ∃ fv, V f = fv := ⟨_, rfl⟩
      rw [hfv] at hen
      clear hlk hst hpm1 hlx hne hown1 hx1 hxa hs1
      go_wp2_with (at_builtin; go_must (refine app_str rfl _ _ rfl w.heap.size _ C.length C rfl hown2 w1.heap.size 1 1 [q] rfl rfl (alloc_at _ _) (by omega) hsz ?_); intro v' w3 hown3 hgr3)
      go_roundw
      case rel => exact ⟨_, cnt1, C ++ [q], hrg2.kept hgr3 HLOW.out HNE2.out, by rw [List.length_append]; exact hown3, HMM.out, Below.grown hx2 hgr3 hx2.size (fun j hj => (hown2.lt j hj).1)⟩
      case measure => rw [(hrg2.kept hgr3 HLOW.out HNE2.out).left_eq, hrg.left_eq]; exact hlt

end Go.Proofs.YtalpfoomkhhgnaaGreatDoor

/-! three: a merge under way in memory; under, free. Conditions: as each theorem states. -/
namespace Go.Proofs.YtalpfoomkhhgnaaGreatDoor
open Go Go.RowKit Go.Sort
set_option linter.unusedVariables false
set_option linter.unusedSimpArgs false
set_option linter.unusedSectionVars false

/-- Where a merge's parts lie. -/
structure MB where
  go : Nat
  ga : Nat
  gb : Nat
  gm : Nat
  gout : Nat
  src : Value
def mrC (x : MB) (vc vn : Value) : Array Value := #[x.src, .map (some x.go), .map (some x.ga), .map (some x.gb), .map (some x.gout), vc, .map (some x.gm), vn]
structure IsMer (w : World) (g B : Nat) (x : MB) (vc vn : Value) (o a b : Files) (s : Mg) : Prop where
  row : w.heap[g]? = some (.cells (mrC x vc vn) 68 (0, 0))
  mo : IsMG entFV w x.go o
  ma : IsMG entFV w x.ga a
  mb : IsMG entFV w x.gb b
  mout : IsMG entFV w x.gout s.out
  mm : IsMG (fun _ => .slice none 0 0) w x.gm []
  cp : w.ownsRow B 30 3 vc s.copies.length (s.copies.flatMap rwC)
  nt : w.ownsRow B 59 2 vn s.notes.length (s.notes.flatMap ntC)
  lo : B ≤ g ∧ B ≤ x.gout
  ne : x.go ≠ x.gout ∧ x.ga ≠ x.gout ∧ x.gb ≠ x.gout ∧ x.gm ≠ x.gout
  rise : Rising s.out
section
variable {w w' : World} {g B : Nat} {x : MB} {vc vn : Value} {o a b : Files} {s : Mg}
theorem IsMer.ext (h : IsMer w g B x vc vn o a b s) (hx : Ext w w') : IsMer w' g B x vc vn o a b s :=
  ⟨hx.row h.row, h.mo.ext hx, h.ma.ext hx, h.mb.ext hx, h.mout.ext hx, h.mm.ext hx, owns_ext h.cp hx, owns_ext h.nt hx, h.lo, h.ne, h.rise⟩
theorem IsMer.f0 (h : IsMer w g B x vc vn o a b s) : w.cell? ⟨g, 1, none⟩ = some (.map (some x.go)) := (cell_of_row _ _ 1 _ _ _ h.row).trans rfl
theorem IsMer.f1 (h : IsMer w g B x vc vn o a b s) : w.cell? ⟨g, 2, none⟩ = some (.map (some x.ga)) := (cell_of_row _ _ 2 _ _ _ h.row).trans rfl
theorem IsMer.f2 (h : IsMer w g B x vc vn o a b s) : w.cell? ⟨g, 3, none⟩ = some (.map (some x.gb)) := (cell_of_row _ _ 3 _ _ _ h.row).trans rfl
theorem IsMer.f4 (h : IsMer w g B x vc vn o a b s) : w.cell? ⟨g, 4, none⟩ = some (.map (some x.gout)) := (cell_of_row _ _ 4 _ _ _ h.row).trans rfl
theorem IsMer.f5 (h : IsMer w g B x vc vn o a b s) : w.cell? ⟨g, 5, none⟩ = some vc := (cell_of_row _ _ 5 _ _ _ h.row).trans rfl
theorem IsMer.f6 (h : IsMer w g B x vc vn o a b s) : w.cell? ⟨g, 6, none⟩ = some (.map (some x.gm)) := (cell_of_row _ _ 6 _ _ _ h.row).trans rfl
theorem IsMer.f7 (h : IsMer w g B x vc vn o a b s) : w.cell? ⟨g, 7, none⟩ = some vn := (cell_of_row _ _ 7 _ _ _ h.row).trans rfl
end
theorem key_left {left : Lit → Bool} {p q : B8} (h : (left (.string q) && !(Lit.string q).sameKey (.string p)) = false) : left (.string q) = false ∨ q = p := by
  rw [same_str] at h
  by_cases hq : q = p
  · exact .inr hq
  · exact .inl (by simpa [hq] using h)

set_option maxRecDepth 100000 in
set_option maxHeartbeats 1000000 in
theorem under3_any {w : World} {g B : Nat} {x : MB} {vc vn : Value} {o a b : Files} {s : Mg} (path : B8) (h : IsMer w g B x vc vn o a b s) (hp : path.length ≤ 10000000) :
    Calls Tryz.prog 92 #[.pointer (some ⟨g, 0, none⟩), S8 path] w fun e w' => e = .returned (.bool (undE s.out path)) ∧ Ext w w' := by
  obtain ⟨l, hl⟩ : ∃ l, s.out = l := ⟨_, rfl⟩
  have hm := h.mout
  have e4 := h.f4
  rw [hl] at hm ⊢
  obtain ⟨bo, hbo⟩ : ∃ bo, x.gout = bo := ⟨_, rfl⟩
  rw [hbo] at hm e4
  have hown := hm.map
  have hbl := hm.lt
  have HA : Hid (∀ e ∈ l, Maps.has (datG entFV l) (.string e.1) = true) := fun e he => by
    rw [datG_has]
    unfold look
    rw [Option.isSome_map, List.find?_isSome]
    exact ⟨e, he, by simp⟩
  have hps : (path.length : Int) ≤ 10000000 := by omega
  clear h hl hbo hm
  go_enter Tryz.func92, Tryz.ntmps92
  go_wp2_with (first
    | (at_range; refine wpList_range_own _ rfl _ 64 rfl 9 26 K_str Tryz.underlying64 _ bo _ _ rfl hown ?_; intro w0 hrg0 hg0 hs0)
    | go_in)
  clear e4
  go_frame
  go_loopw [11] (fun _ wr => ∃ (left : Lit → Bool) (cnt : Nat), wr.ranges Tryz.prog 9 elemV bo w.heap.size l.length (datG entFV l) left cnt ∧ (∀ e ∈ l, left (.string e.1) = false → isUnder path e.1 = false) ∧ Ext w wr)
    (fun _ wr => wr.rangeLeft bo w.heap.size)
  case atStart => exact ⟨_, _, hrg0, (fun e he hn => by rw [HA.out e he] at hn; cases hn), Below.grown (Below.refl _ _) hg0 (Nat.le_refl _) (fun j hj => by cases hj)⟩
  case round =>
    obtain ⟨left, cnt, hrg, hk, hx⟩ := hrel
    have HK : Hid _ := hk
    clear hk
    go_wp2_with (first
      | (at_next; refine next_mg entFV rfl _ rfl bo w.heap.size _ l _ _ rfl hrg ?_ ?_)
      | go_in)
    · intro hc0 hl0
      have hno : undE l path = false := by
        unfold undE
        rw [List.any_eq_false]
        intro e he
        rw [HK.out e he (hl0 _)]
        simp
      have HN : Hid _ := hno
      clear hl0 hno
      go_wp2
      go_ret
      exact ⟨ret_b HN.out.symm, hx⟩
    · intro q f w1 cnt1 hlk hsl hrg1 hlt hg1 hs1 hen
      have hmem := look_mem hlk
      have hx1 : Ext w w1 := Below.grown hx hg1 hx.size (fun j hj => by cases hj; exact Nat.le_refl _)
      have HM : Hid _ := hmem
      have hund := und_str path
      clear hlk hsl hmem
      obtain ⟨B, hB⟩ : ∃ B, isUnder path q = B := ⟨_, rfl⟩
      have HB : Hid _ := hB
      have hB2 : (path ++ [47]).isPrefixOf q = B := hB
      clear hB
      cases B with
      | true =>
        go_wp2_with (go_at_call 148; go_must (refine (prefix_any _ _ _).mono ?_; rw [hund, hB2]; rintro e w' ⟨rfl, rfl⟩))
        go_ret
        refine ⟨ret_b (Eq.symm ?_), hx1⟩
        unfold undE
        rw [List.any_eq_true]
        exact ⟨_, HM.out, HB.out⟩
      | false =>
        go_wp2_with (go_at_call 148; go_must (refine (prefix_any _ _ _).mono ?_; rw [hund, hB2]; rintro e w' ⟨rfl, rfl⟩))
        go_roundw
        case rel => exact ⟨_, cnt1, hrg1, (fun e he hn => by
          rcases key_left hn with hn | hn
          · exact HK.out e he hn
          · rw [hn]; exact HB.out), hx1⟩
        case measure => rw [hrg1.left_eq, hrg.left_eq]; exact hlt
end Go.Proofs.YtalpfoomkhhgnaaGreatDoor

/-! three: free. Conditions: as each theorem states. -/
namespace Go.Proofs.YtalpfoomkhhgnaaGreatDoor
open Go Go.RowKit Go.Sort
set_option linter.unusedVariables false
set_option linter.unusedSimpArgs false
set_option linter.unusedSectionVars false

set_option maxRecDepth 100000 in
set_option maxHeartbeats 4000000 in
theorem free3_any {w : World} {g B : Nat} {x : MB} {vc vn : Value} {o a b : Files} {s : Mg} (path : B8) (hE : Env w) (h : IsMer w g B x vc vn o a b s) (hp : path.length ≤ 100000) :
    Calls Tryz.prog 91 #[.pointer (some ⟨g, 0, none⟩), S8 path] w fun e w' => e = .returned (.bool (freeE o a b s.out path)) ∧ Ext w w' := by
  have H : Hid _ := h
  have HE : Hid (Env w) := hE
  obtain ⟨b0, h0⟩ : ∃ c, pathB (dirW ++ path) = c := ⟨_, rfl⟩
  obtain ⟨b1, h1⟩ : ∃ c, hasE s.out path = c := ⟨_, rfl⟩
  obtain ⟨b2, h2⟩ : ∃ c, hasE o path = c := ⟨_, rfl⟩
  obtain ⟨b3, h3⟩ : ∃ c, hasE a path = c := ⟨_, rfl⟩
  obtain ⟨b4, h4⟩ : ∃ c, hasE b path = c := ⟨_, rfl⟩
  obtain ⟨b5, h5⟩ : ∃ c, undE s.out path = c := ⟨_, rfl⟩
  have HF : Hid (freeE o a b s.out path = ((b0 && !(b1 || (b2 || (b3 || (b4 || b5))))) && (parentsL path).all fun q => !hasE s.out q)) := by unfold Hid freeE; rw [h0, h1, h2, h3, h4, h5]
  have hpl : (path.length : Int) ≤ 100000 := by omega
  have C0 : Hid (∀ W, Ext w W → Calls Tryz.prog 19 #[.string (⟨#[119, 47]⟩ ++ ⟨path.toArray⟩)] W fun e w' => e = .returned (.bool b0) ∧ Ext W w') := fun W hW => by
    have h9 := path_any (⟨#[119, 47]⟩ ++ ⟨path.toArray⟩) W (HE.out.ext hW) (by rw [ByteArray.size_append]; show 2 + path.toArray.size < _; rw [List.size_toArray]; omega)
    rw [show ((⟨#[119, 47]⟩ : ByteArray) ++ ⟨path.toArray⟩).data.toList = dirW ++ path from str_app [119, 47] path] at h9
    unfold PathPost at h9
    rwa [h0] at h9
  have C1 : Hid (∀ W, Ext w W → Calls Tryz.prog 147 #[.map (some x.gout), S8 path] W fun e w' => e = .returned (.bool b1) ∧ Ext W w') := fun W hW => by have h9 := has3_any x.gout s.out path W (H.out.mout.ext hW) (by omega); rwa [h1] at h9
  have C2 : Hid (∀ W, Ext w W → Calls Tryz.prog 147 #[.map (some x.go), S8 path] W fun e w' => e = .returned (.bool b2) ∧ Ext W w') := fun W hW => by have h9 := has3_any x.go o path W (H.out.mo.ext hW) (by omega); rwa [h2] at h9
  have C3 : Hid (∀ W, Ext w W → Calls Tryz.prog 147 #[.map (some x.ga), S8 path] W fun e w' => e = .returned (.bool b3) ∧ Ext W w') := fun W hW => by have h9 := has3_any x.ga a path W (H.out.ma.ext hW) (by omega); rwa [h3] at h9
  have C4 : Hid (∀ W, Ext w W → Calls Tryz.prog 147 #[.map (some x.gb), S8 path] W fun e w' => e = .returned (.bool b4) ∧ Ext W w') := fun W hW => by have h9 := has3_any x.gb b path W (H.out.mb.ext hW) (by omega); rwa [h4] at h9
  have C5 : Hid (∀ W, Ext w W → Calls Tryz.prog 92 #[.pointer (some ⟨g, 0, none⟩), S8 path] W fun e w' => e = .returned (.bool b5) ∧ Ext W w') := fun W hW => by have h9 := under3_any path (H.out.ext hW) (by omega); rwa [h5] at h9
  have HXZ : Hid (Ext w w) := Ext.refl w
  clear h hE h0 h1 h2 h3 h4 h5
  go_enter Tryz.func91, Tryz.ntmps91
  go_wp2_with fail
  go_at_call 19
  refine (C0.out _ (Ext.refl _)).mono ?_
  rintro e w1 ⟨rfl, hx1⟩
  have HX1 : Hid (Ext w w1) := hx1
  have e4 := (H.out.ext HX1.out).f4
  clear hx1
  cases b0 with
  | false =>
    have HR : Hid (freeE o a b s.out path = false) := by unfold Hid; rw [HF.out]; simp
    go_wp2
    go_ret
    exact ⟨ret_b HR.out.symm, HX1.out⟩
  | true =>
  go_wp2_with fail
  go_at_call 147
  refine (C1.out _ HX1.out).mono ?_
  rintro e w2 ⟨rfl, hx2⟩
  have HX2 : Hid (Ext w w2) := HX1.out.trans hx2
  have e1 := (H.out.ext HX2.out).f0
  clear hx2
  cases b1 with
  | true =>
    have HR : Hid (freeE o a b s.out path = false) := by unfold Hid; rw [HF.out]; simp
    go_wp2
    go_ret
    exact ⟨ret_b HR.out.symm, HX2.out⟩
  | false =>
  go_wp2_with fail
  go_at_call 147
  refine (C2.out _ HX2.out).mono ?_
  rintro e w3 ⟨rfl, hx3⟩
  have HX3 : Hid (Ext w w3) := HX2.out.trans hx3
  have e2 := (H.out.ext HX3.out).f1
  clear hx3
  cases b2 with
  | true =>
    have HR : Hid (freeE o a b s.out path = false) := by unfold Hid; rw [HF.out]; simp
    go_wp2
    go_ret
    exact ⟨ret_b HR.out.symm, HX3.out⟩
  | false =>
  go_wp2_with fail
  go_at_call 147
  refine (C3.out _ HX3.out).mono ?_
  rintro e w4 ⟨rfl, hx4⟩
  have HX4 : Hid (Ext w w4) := HX3.out.trans hx4
  have e3 := (H.out.ext HX4.out).f2
  clear hx4
  cases b3 with
  | true =>
    have HR : Hid (freeE o a b s.out path = false) := by unfold Hid; rw [HF.out]; simp
    go_wp2
    go_ret
    exact ⟨ret_b HR.out.symm, HX4.out⟩
  | false =>
  go_wp2_with fail
  go_at_call 147
  refine (C4.out _ HX4.out).mono ?_
  rintro e w5 ⟨rfl, hx5⟩
  have HX5 : Hid (Ext w w5) := HX4.out.trans hx5
  clear hx5
  cases b4 with
  | true =>
    have HR : Hid (freeE o a b s.out path = false) := by unfold Hid; rw [HF.out]; simp
    go_wp2
    go_ret
    exact ⟨ret_b HR.out.symm, HX5.out⟩
  | false =>
  go_wp2_with fail
  go_at_call 92
  refine (C5.out _ HX5.out).mono ?_
  rintro e w6 ⟨rfl, hx6⟩
  have HX6 : Hid (Ext w w6) := HX5.out.trans hx6
  clear hx6
  cases b5 with
  | true =>
    have HR : Hid (freeE o a b s.out path = false) := by unfold Hid; rw [HF.out]; simp
    go_wp2
    go_ret
    exact ⟨ret_b HR.out.symm, HX6.out⟩
  | false =>
  have HFF : Hid (freeE o a b s.out path = (parentsL path).all fun q => !hasE s.out q) := by unfold Hid; rw [HF.out]; rfl
  obtain ⟨P, hP⟩ : ∃ P, parentsL path = P := ⟨_, rfl⟩
  have HPL : Hid (∀ q ∈ P, q.length ≤ 1000000) := fun q hq => by rw [← hP] at hq; have := parents_short path q hq; omega
  have HPP : Hid _ := hP
  rw [hP] at HFF
  clear hP e1 e2 e3 e4
  go_wp2_with fail
  go_at_call 20
  refine (parents_any path w6 (HE.out.ext HX6.out) (by omega)).mono ?_
  rw [HPP.out]
  rintro e w7 ⟨⟨v, rfl, hv⟩, hx7⟩
  have HX7 : Hid (Ext w w7) := HX6.out.trans hx7
  have HV : Hid (IsStrs w7 v P) := hv
  obtain ⟨pa, pc, rfl, p1, p2, p3, hpg⟩ := hv.get
  have HPG : Hid _ := hpg
  clear hv hx7 hpg
  go_wp2_with fail
  go_loopw [51] (fun i wr => ∃ k : Nat, k ≤ P.length ∧ i = .int .i64 k ∧ Hid (Ext w7 wr) ∧ Hid (∀ q ∈ P.take k, hasE s.out q = false)) (fun i _ => P.length - (intOf i).toNat)
  case atStart => exact ⟨0, Nat.zero_le _, rfl, Ext.refl _, fun q hq => by simp at hq⟩
  case round =>
  obtain ⟨k, hk, rfl, HX, HN⟩ := hrel
  by_cases hlt : k < P.length
  case neg =>
    have hkk : k = P.length := by omega
    subst hkk
    have HR : Hid (freeE o a b s.out path = true) := by
      unfold Hid
      rw [HFF.out, List.all_eq_true]
      intro q hq
      have h9 := HN.out
      rw [List.take_length] at h9
      rw [h9 q hq]
      rfl
    go_wp2
    go_ret
    exact ⟨ret_b HR.out.symm, HX7.out.trans HX.out⟩
  obtain ⟨q, hq⟩ : ∃ q, P[k]? = some q := ⟨_, List.getElem?_eq_getElem hlt⟩
  obtain ⟨bb, oo, rfl, hc⟩ := HPG.out k hlt
  have y0 := HX.out.cell (hc k hlt)
  rw [show P.getD k [] = q by rw [List.getD_eq_getElem?_getD, hq]; rfl] at y0
  have HXW : Hid (Ext w wr) := HX7.out.trans HX.out
  have e4 := (H.out.ext HXW.out).f4
  have hql := HPL.out q (List.mem_of_getElem? hq)
  have HSN : Hid _ := take_snocR hq
  have HQM : Hid (q ∈ P) := List.mem_of_getElem? hq
  clear hc hq
  obtain ⟨c, hcc⟩ : ∃ c, hasE s.out q = c := ⟨_, rfl⟩
  have HC : Hid _ := hcc
  clear hcc
  go_wp2_with fail
  go_at_call 147
  refine (has3_any x.gout s.out q wr (H.out.mout.ext HXW.out) (by omega)).mono ?_
  rw [HC.out]
  rintro e w8 ⟨rfl, hx8⟩
  have HX8 : Hid (Ext w7 w8) := HX.out.trans hx8
  clear hx8 e4 y0
  cases c with
  | true =>
    have HR : Hid (freeE o a b s.out path = false) := by
      unfold Hid
      rw [HFF.out, List.all_eq_false]
      exact ⟨q, HQM.out, by rw [HC.out]; simp⟩
    go_wp2
    go_ret
    exact ⟨ret_b HR.out.symm, HX7.out.trans HX8.out⟩
  | false =>
    have HNX : Hid (∀ r ∈ P.take (k + 1), hasE s.out r = false) := fun r hr => by
      rw [HSN.out] at hr
      rcases List.mem_append.1 hr with hr | hr
      · exact HN.out r hr
      · obtain rfl : r = q := by simpa using hr
        exact HC.out
    go_wp2_with fail
    go_roundw
    case rel => exact ⟨k + 1, by omega, by go_num, HX8, HNX⟩
    case measure => simp [intOf]; omega
end Go.Proofs.YtalpfoomkhhgnaaGreatDoor

/-! three: place. Conditions: as each theorem states. -/
namespace Go.Proofs.YtalpfoomkhhgnaaGreatDoor
open Go Go.RowKit Go.Sort
set_option linter.unusedVariables false
set_option linter.unusedSimpArgs false
set_option linter.unusedSectionVars false

theorem own_map {w w' : World} {base : Nat} {e : TypeId} {size : Nat} {v : Value} {n : Nat} {xs : List Value} {k : Nat} (h : w.ownsRow base e size v n xs) (hg : w.grownBy w' (some k)) (hk : ∃ es cl, w.heap[k]? = some (.map es cl)) : w'.ownsRow base e size v n xs := by
  refine ⟨h.1, ?_⟩
  rcases h.2 with h0 | ⟨g', c', cur, h1, h2, h3, h4⟩
  · exact .inl h0
  · obtain ⟨es, cl, hm⟩ := hk
    refine .inr ⟨g', c', cur, h1, h2, ?_, h4⟩
    exact but_row hg h3 (fun he => by subst he; rw [hm] at h3; cases h3)
theorem grown_of_ext {w w' : World} (h : Ext w w') (k : Option Nat) : w.grownBy w' k := ⟨h.os, h.tape, h.output, h.size, fun i hi _ => h.block i hi⟩
section
variable {w w' : World} {g B : Nat} {x : MB} {vc vn : Value} {o a b : Files} {s : Mg}
theorem IsMer.gne (h : IsMer w g B x vc vn o a b s) : g ≠ x.gout := by
  obtain ⟨es, cl, hm⟩ := h.mout.kind
  intro he
  have := h.row
  rw [he, hm] at this
  cases this
theorem IsMer.outSet (h : IsMer w g B x vc vn o a b s) (hg : w.grownBy w' (some x.gout)) {out : Files} (hm : IsMG entFV w' x.gout out) (hr : Rising out) : IsMer w' g B x vc vn o a b ⟨out, s.copies, s.notes⟩ := by
  have st : ∀ {V : Fi → Value} {k : Nat} {l : Files}, IsMG V w k l → k ≠ x.gout → IsMG V w' k l := fun {V k l} hk hne => hk.stay (hg.block k hk.lt (by simpa using hne))
  exact ⟨but_row hg h.row h.gne, st h.mo h.ne.1, st h.ma h.ne.2.1, st h.mb h.ne.2.2.1, hm, st h.mm h.ne.2.2.2, own_map h.cp hg h.mout.kind, own_map h.nt hg h.mout.kind, h.lo, h.ne, hr⟩
end
theorem placeE_ok (o a b out : Files) (r : Rw) {n : Nat} (hn : n < 21) (h : freeE o a b out (copyE r.path r.id n) = true) : placeE o a b out r (21 - n) = some (putF out (copyE r.path r.id n) (fiE (r.mode, r.id))) := by
  obtain ⟨k, hk⟩ : ∃ k, 21 - n = k + 1 := ⟨20 - n, by omega⟩
  rw [hk, placeE, show 20 - k = n by omega, if_pos h]
theorem placeE_no (o a b out : Files) (r : Rw) {n : Nat} (hn : n < 21) (h : freeE o a b out (copyE r.path r.id n) = false) : placeE o a b out r (21 - n) = placeE o a b out r (21 - (n + 1)) := by
  obtain ⟨k, hk⟩ : ∃ k, 21 - n = k + 1 := ⟨20 - n, by omega⟩
  rw [hk, placeE, show 20 - k = n by omega, if_neg (by rw [h]; simp), show 21 - (n + 1) = k by omega]
theorem copyE_len (p id : B8) (n : Nat) : (copyE p id n).length ≤ p.length + 9 + n := by
  unfold copyE
  simp only [List.length_append, List.length_take, List.length_replicate, List.length_singleton]
  omega
def outOr (m : Option Files) (d : Files) : Files := match m with | some f => f | none => d
def errOr (m : Option Files) : Int := match m with | some _ => 0 | none => 14

set_option maxRecDepth 100000 in
set_option maxHeartbeats 4000000 in
theorem place3_any {w : World} {g B : Nat} {x : MB} {vc vn : Value} {o a b : Files} {s : Mg} (r : Rw) (hE : Env w) (h : IsMer w g B x vc vn o a b s) (hp : r.path.length ≤ 50000) (hi : r.id.length ≤ 50000) (hl : s.out.length ≤ 1000000) :
    Calls Tryz.prog 62 #[.pointer (some ⟨g, 0, none⟩), .agg #[S8 r.path, .int .i64 r.mode, S8 r.id]] w fun e w' => e = .returned (.int .i64 (errOr (placeE o a b s.out r 21))) ∧ IsMer w' g B x vc vn o a b ⟨outOr (placeE o a b s.out r 21) s.out, s.copies, s.notes⟩ ∧ w.grownBy w' (some x.gout) := by
  have H : Hid _ := h
  have HE : Hid (Env w) := hE
  clear h hE
  obtain ⟨rp, rm, ri⟩ := r
  dsimp only at hp hi ⊢
  go_enter Tryz.func62, Tryz.ntmps62
  go_upto_region 1 with fail
  obtain ⟨w1, hw1⟩ : ∃ w1, w1 = w.alloc (.cells #[S8 rp, .int .i64 rm, S8 ri] 30) := ⟨_, rfl⟩
  have HX1 : Hid (Ext w w1) := by rw [hw1]; exact (Ext.refl _).alloc _
  have hb1 : w1.heap[w.heap.size]? = some (.cells #[S8 rp, .int .i64 rm, S8 ri] 30 (0, 0)) := by rw [hw1]; exact alloc_at _ _
  rw [← hw1]
  obtain ⟨gr, hgr⟩ : ∃ gr, w.heap.size = gr := ⟨_, rfl⟩
  rw [hgr] at hb1 ⊢
  have HB1 : Hid _ := hb1
  clear hw1 hgr hb1
  go_wp2_with fail
  go_loopw [7] (fun i wr => ∃ n : Nat, n ≤ 21 ∧ i = .int .i64 n ∧ Hid (Ext w1 wr) ∧ Hid (placeE o a b s.out ⟨rp, rm, ri⟩ 21 = placeE o a b s.out ⟨rp, rm, ri⟩ (21 - n))) (fun i _ => 21 - (intOf i).toNat)
  case atStart => exact ⟨0, Nat.zero_le _, rfl, Ext.refl _, rfl⟩
  case round =>
  obtain ⟨n, hn, rfl, HX, HP⟩ := hrel
  have HXW : Hid (Ext w wr) := HX1.out.trans HX.out
  by_cases hlt : n < 21
  case neg =>
    have hnn : n = 21 := by omega
    subst hnn
    have HR : Hid (placeE o a b s.out ⟨rp, rm, ri⟩ 21 = none) := HP.out
    go_wp2
    go_ret
    rw [HR.out]
    exact ⟨rfl, H.out.ext HXW.out, grown_of_ext HXW.out _⟩
  have hltz : (n : Int) < 21 := by omega
  obtain ⟨z0, z1, z2⟩ := cellsAt3 (HX.out.row HB1.out)
  go_wp2_with fail
  go_at_call 90
  refine (copyN_any rp ri n wr (by omega) (by omega) (by omega)).mono ?_
  obtain ⟨q, hq⟩ : ∃ q, copyE rp ri n = q := ⟨_, rfl⟩
  have hql := copyE_len rp ri n
  rw [hq] at hql ⊢
  have HQ : Hid _ := hq
  rintro e w2 ⟨rfl, hx2⟩
  have HX2 : Hid (Ext w w2) := HXW.out.trans hx2
  have HX12 : Hid (Ext w1 w2) := HX.out.trans hx2
  clear hq hx2 z0 z1 z2
  obtain ⟨c, hc⟩ : ∃ c, freeE o a b s.out q = c := ⟨_, rfl⟩
  have HC : Hid _ := hc
  clear hc
  go_wp2_with fail
  go_at_call 91
  refine (free3_any q (HE.out.ext HX2.out) (H.out.ext HX2.out) (by omega)).mono ?_
  rw [HC.out]
  rintro e w3 ⟨rfl, hx3⟩
  have HX3 : Hid (Ext w w3) := HX2.out.trans hx3
  have HX13 : Hid (Ext w1 w3) := HX12.out.trans hx3
  clear hx3
  cases c with
  | false =>
    have HPN : Hid (placeE o a b s.out ⟨rp, rm, ri⟩ 21 = placeE o a b s.out ⟨rp, rm, ri⟩ (21 - (n + 1))) := by
      unfold Hid
      rw [HP.out]
      exact placeE_no o a b s.out ⟨rp, rm, ri⟩ hlt (by show freeE o a b s.out (copyE rp ri n) = false; rw [HQ.out]; exact HC.out)
    go_wp2_with fail
    go_roundw
    case rel => exact ⟨n + 1, by omega, by go_num, HX13, HPN⟩
    case measure => simp [intOf]; omega
  | true =>
    have HPY : Hid (placeE o a b s.out ⟨rp, rm, ri⟩ 21 = some (putF s.out q (fiE (rm, ri)))) := by
      unfold Hid
      rw [HP.out, ← HQ.out]
      exact placeE_ok o a b s.out ⟨rp, rm, ri⟩ hlt (by show freeE o a b s.out (copyE rp ri n) = true; rw [HQ.out]; exact HC.out)
    have y4 := (H.out.ext HX3.out).f4
    obtain ⟨z0, z1, z2⟩ := cellsAt3 (HX13.out.row HB1.out)
    go_upto_region 6 with fail
    apply wp_region_mix 7 [.pointer (some ⟨g, 0, none⟩), .pointer (some ⟨g, 0, none⟩), .pointer (some ⟨g, 4, none⟩), .map (some x.gout), S8 q, .pointer (some ⟨gr, 1, none⟩), .agg #[.int .i64 rm, S8 ri]] [none, none, none, none, none, none, none] [[], [0], [1], [2], [], [], [5]] (by kernel_rfl) (by kernel_rfl) (by simp [mixV])
    · trivial
    · simp (maxSteps := 1000000) only [List.take_succ_cons, List.take_zero, oblFrom, stepObl, fillFrom, Act.put, List.setIfInBounds_toArray, List.set_cons_zero, List.set_cons_succ, knows, getV, mixV, List.getD_cons_zero, List.getD_cons_succ, and_true, true_and, forall_const]
      refine ⟨?_, ?_, ?_, ?_, ?_, ?_, ?_⟩
      · intro xs wq hq R hR
        have f0 := hq.cell y4; have f1 := hq.cell z0; have f2 := hq.cell z1; have f3 := hq.cell z2
        go_simp
        exact hR _ _ (Ext.refl _) rfl
      · intro xs wq hq hk R hR
        have f0 := hq.cell y4; have f1 := hq.cell z0; have f2 := hq.cell z1; have f3 := hq.cell z2
        go_simp
        exact hR _ _ (Ext.refl _) rfl
      · intro xs wq hq hk R hR
        have f0 := hq.cell y4; have f1 := hq.cell z0; have f2 := hq.cell z1; have f3 := hq.cell z2
        go_simp
        exact hR _ _ (Ext.refl _) rfl
      · intro xs wq hq hk R hR
        have f0 := hq.cell y4; have f1 := hq.cell z0; have f2 := hq.cell z1; have f3 := hq.cell z2
        go_simp
        exact hR _ _ (Ext.refl _) rfl
      · intro xs wq hq R hR
        have f0 := hq.cell y4; have f1 := hq.cell z0; have f2 := hq.cell z1; have f3 := hq.cell z2
        go_simp
        exact hR _ _ (Ext.refl _) rfl
      · intro xs wq hq R hR
        have f0 := hq.cell y4; have f1 := hq.cell z0; have f2 := hq.cell z1; have f3 := hq.cell z2
        go_simp
        exact hR _ _ (Ext.refl _) rfl
      · intro xs wq hq hk R hR
        have f0 := hq.cell y4; have f1 := hq.cell z0; have f2 := hq.cell z1; have f3 := hq.cell z2
        go_simp
        exact hR _ _ (Ext.refl _) rfl
    intro xs w4 hx4 hk
    simp only [heldV, Nat.zero_add, Nat.reduceAdd, and_true] at hk
    obtain ⟨q0, q1, q2, q3, q4, q5, q6⟩ := hk
    simp (maxSteps := 1000000) only [List.take_succ_cons, List.take_zero, List.drop_succ_cons, List.drop_zero, fillFrom, Act.put, List.setIfInBounds_toArray, List.set_cons_zero, List.set_cons_succ, Nat.zero_add, Nat.reduceAdd, q0, q1, q2, q3, q4, q5, q6]
    clear q0 q1 q2 q3 q4 q5 q6
    have HX4 : Hid (Ext w w4) := HX3.out.trans hx4
    have HM4 : Hid (IsMG entFV w4 x.gout s.out) := (H.out.ext HX4.out).mout
    clear hx4 y4 z0 z1 z2
    go_wp2_with (refine set_mg 64 26 Tryz.underlying64 rfl _ _ _ rfl HM4.out (by omega) rfl q (by omega) rfl ⟨rm, ri, 0⟩ rfl ?_; intro w5 hm5 hg5)
    go_ret
    rw [HPY.out]
    exact ⟨rfl, (H.out.ext HX4.out).outSet hg5 hm5 (H.out.rise.put _ _), grown_trans HX4.out hg5⟩
end Go.Proofs.YtalpfoomkhhgnaaGreatDoor

/-! three: rows. Conditions: as each theorem states. -/
namespace Go.Proofs.YtalpfoomkhhgnaaGreatDoor
open Go Go.Shelf Go.RowKit Go.Lib Go.Sort
set_option linter.unusedVariables false
set_option linter.unusedSimpArgs false
set_option linter.unusedSectionVars false

theorem sortRows_any (v : Value) (l : List Rw) (base : Nat) (w : World) (h : w.ownsRow base 30 3 v l.length (l.flatMap rwC)) (hl : l.length ≤ 1000000) :
    Calls Tryz.prog 66 #[v, .func (.func 67) #[] #[]] w fun e w' => e = .returned (.tuple #[]) ∧ ∃ s : List Rw, s.Perm l ∧ (s.Pairwise fun a b => ltB b.path a.path = false) ∧ w'.ownsRow base 30 3 v s.length (s.flatMap rwC) ∧ w.grownBy w' v.ownBlock := by
  rcases h.2 with ⟨rfl, h0⟩ | ⟨g, cap, cur, rfl, -⟩
  · obtain rfl : l = [] := List.eq_nil_of_length_eq_zero h0
    exact (AnyF.slices_SortFunc_none { Tryz.laysSortR with } none 0 _ w).mono fun e w' ⟨he, hw⟩ => ⟨he, [], List.Perm.refl _, List.Pairwise.nil, World.ownsRow_nil _ _ _ _, by rw [hw]; exact ⟨rfl, rfl, rfl, Nat.le_refl _, fun _ _ _ => rfl⟩⟩
  · have hg := own_lt h
    have eg : ∀ args w, (callFunc 67 args).run Tryz.prog w = .ok (.enter 67 args) w := enters_of Tryz.func67 (by kernel_rfl) rfl
    have hcmp : CmpLays Tryz.prog 67 #[] rwC 3 cmpR g 0 l.toArray.size w := fun m os dk hdk x y => (rows1_any x y _).mono fun e w' ⟨he, os', hw⟩ => ⟨he, 0, os', hw⟩
    have hs : l.toArray.size = l.length := by simp
    have hc := AnyQ.slices_SortFunc Tryz.laysSortR 3 (fun w => Tryz.isAgg30 w) (fun w => Tryz.sizeOf30 w) rwC rwC_len rwC_one cmpR cmpR_swo 67 #[] g 0 cap l.toArray w eg hcmp (own_holds h) hg (by omega)
    rw [hs] at hc
    refine Calls.mono hc fun e w' ⟨he, d', n, os, hp, hsd, hw⟩ => ?_
    have S : SWK rwC 3 w g 0 d' w' := ⟨n, os, hw⟩
    have hds : d'.size = l.length := by rw [hp.1, hs]
    refine ⟨he, d'.toList, ?_, ?_, ?_, swk_grown S⟩
    · have h1 := hp.2.2
      rw [Array.extract_eq_self_of_le (by omega), Array.extract_eq_self_of_le (by omega)] at h1
      exact h1
    · rw [List.pairwise_iff_getElem]
      intro i j hi hj hij
      have h2 := hsd i j (Nat.zero_le _) hij (by rw [Array.length_toList, hds] at hj; exact hj)
      rw [cmpR_lt, getElem!_pos d' j (by simpa using hj), getElem!_pos d' i (by simpa using hi)] at h2
      simpa using h2
    · have h3 := swk_own h S hds
      have hdl : d'.toList.length = l.length := by rw [Array.length_toList, hds]
      rw [hdl]
      exact h3
theorem rowsE_rise {l : Files} (h : Rising l) : RiseR (rowsE l) := by
  unfold RiseR rowsE
  rw [List.pairwise_map]
  exact h
theorem sort_is {s l : List Rw} (hl : RiseR l) (hp : s.Perm l) (hs : s.Pairwise fun a b => ltB b.path a.path = false) : s = l := by
  have hd : l.Pairwise fun a b => a.path ≠ b.path := List.Pairwise.imp (fun h => lt_ne h) hl
  have hd2 : s.Pairwise fun a b => a.path ≠ b.path := (List.Perm.pairwise_iff (fun h => Ne.symm h) hp).2 hd
  exact riseR_ext (List.Pairwise.imp₂ (fun a b h1 h2 => lt_tri h1 (fun he => h2 he.symm)) hs hd2) hl (fun x => hp.mem_iff)

set_option maxRecDepth 100000 in
set_option maxHeartbeats 4000000 in
theorem rows3_any {w : World} {g B : Nat} {x : MB} {vc vn : Value} {o a b : Files} {s : Mg} (h : IsMer w g B x vc vn o a b s) (hl : s.out.length ≤ 100000) :
    Calls Tryz.prog 36 #[.pointer (some ⟨g, 0, none⟩)] w fun e w' => (∃ v, e = .returned v ∧ w'.ownsRow w.heap.size 30 3 v s.out.length ((rowsE s.out).flatMap rwC)) ∧ Ext w w' := by
  obtain ⟨l, hol⟩ : ∃ l, s.out = l := ⟨_, rfl⟩
  have hm := h.mout
  have hr := h.rise
  have e4 := h.f4
  rw [hol] at hm hr hl ⊢
  obtain ⟨bo, hbo⟩ : ∃ bo, x.gout = bo := ⟨_, rfl⟩
  rw [hbo] at hm e4
  have hown := hm.map
  have hbl := hm.lt
  have HR : Hid (Rising l) := hr
  have HA : Hid _ := leftG_all entFV (l := l)
  clear h hol hbo hm hr
  go_enter Tryz.func36, Tryz.ntmps36
  go_wp2_with (first
    | (at_range; refine wpList_range_own _ rfl _ 64 rfl 9 26 K_str Tryz.underlying64 _ bo _ _ rfl hown ?_; intro w0 hrg0 hg0 hs0)
    | go_in)
  clear e4
  go_frame
  go_loopw [3] (fun sv wr => ∃ (left : Lit → Bool) (cnt : Nat) (C : List Rw), wr.ranges Tryz.prog 9 elemV bo w.heap.size l.length (datG entFV l) left cnt ∧ wr.ownsRow w.heap.size 30 3 sv C.length (C.flatMap rwC) ∧ (C ++ rowsE (leftF left l)).Perm (rowsE l) ∧ Ext w wr)
    (fun _ wr => wr.rangeLeft bo w.heap.size)
  case atStart => exact ⟨_, _, [], hrg0, World.ownsRow_nil _ _ _ _, by rw [HA.out]; exact List.Perm.refl _, Below.grown (Below.refl _ _) hg0 (Nat.le_refl _) (fun j hj => by cases hj)⟩
  case round =>
    obtain ⟨left, cnt, C, hrg, hown, hpm, hx⟩ := hrel
    have HPM : Hid _ := hpm
    have hCl : C.length ≤ l.length := by
      have := hpm.length_eq
      simp only [List.length_append, rowsE, List.length_map] at this
      omega
    have HOW : Hid _ := hown
    clear hpm hown
    go_wp2_with (at_next; refine next_mg entFV rfl _ rfl bo w.heap.size _ l _ _ rfl hrg ?_ ?_)
    · intro hc0 hl0
      have hpe : C.Perm (rowsE l) := by
        have := HPM.out
        rw [leftF_none hl0] at this
        simpa [rowsE] using this
      have HPE : Hid (C.Perm (rowsE l)) := hpe
      have HXR : Hid (Ext w wr) := hx
      clear hl0 hpe hx
      go_wp2_with fail
      go_at_call 66
      refine (sortRows_any _ C w.heap.size wr HOW.out (by omega)).mono ?_
      rintro e w2 ⟨rfl, S, hSp, hSs, hSo, hSg⟩
      have hSe := sort_is (rowsE_rise HR.out) (hSp.trans HPE.out) hSs
      subst hSe
      have HSO : Hid _ := hSo
      have hX2 : Ext w w2 := owns_ext_app HXR.out HOW.out hSg
      clear hSp hSs hSg hSo
      go_wp2
      go_ret
      have hO := HSO.out
      rw [show (rowsE l).length = l.length by simp [rowsE]] at hO
      exact ⟨⟨_, rfl, hO⟩, hX2⟩
    · intro q f w1 cnt1 hlk hlx hrg1 hlt hg1 hs1 hen
      have hst := strike_perm (f := f) hlx HR.out hlk
      obtain ⟨fm, fd, ft⟩ := f
      have hpm1 : ((C ++ [(⟨q, fm, fd⟩ : Rw)]) ++ rowsE (leftF (strike left q) l)).Perm (rowsE l) := by
        refine List.Perm.trans ?_ HPM.out
        rw [List.append_assoc]
        refine List.Perm.append_left C ?_
        exact (List.Perm.map (fun e : B8 × Fi => (⟨e.1, e.2.mode, e.2.data⟩ : Rw)) hst).symm
      have HMM : Hid _ := hpm1
      have hne := row_ne_iter HOW.out hrg
      have hown1 := World.ownsRow.kept HOW.out hg1 (.inr hne.symm)
      have hx1 : Ext w w1 := Below.grown hx hg1 hx.size (fun j hj => by cases hj; exact Nat.le_refl _)
      have hen2 : (Instr.entry (.pointer (some ⟨w.heap.size, 0, none⟩))).run Tryz.prog w1 = .ok (.tuple #[S8 q, .agg #[.int .i64 fm, S8 fd]]) w1 := hen
      have HX1 : Hid (Ext w w1) := hx1
      have HO1 : Hid _ := hown1
      have hrg1a := hrg1.alloc (.cells #[.int .i64 fm, S8 fd] 26)
      have HLT : Hid (cnt1 < cnt) := hlt
      clear hlk hst hpm1 hlx hne hown1 hx1 hs1 hen hg1 hrg1 hlt
      go_upto_region 5 with fail
      obtain ⟨w2, hw2⟩ : ∃ w2, w2 = w1.alloc (.cells #[.int .i64 fm, S8 fd] 26) := ⟨_, rfl⟩
      have hx2 : Ext w1 w2 := by rw [hw2]; exact (Ext.refl _).alloc _
      have hb2 : w2.heap[w1.heap.size]? = some (.cells #[.int .i64 fm, S8 fd] 26 (0, 0)) := by rw [hw2]; exact alloc_at _ _
      rw [← hw2] at hrg1a ⊢
      have z0 := (cell_of_row _ _ 0 _ _ _ hb2).trans rfl
      have z1 := (cell_of_row _ _ 1 _ _ _ hb2).trans rfl
      have hxa : Ext w2 (w2.alloc (.cells #[S8 q, .int .i64 fm, S8 fd] 30)) := (Ext.refl _).alloc _
      have hown2 := owns_ext HO1.out (hx2.trans hxa)
      have hx3 := (HX1.out.trans hx2).trans hxa
      have hsz : w.heap.size ≤ (w2.alloc (.cells #[S8 q, .int .i64 fm, S8 fd] 30)).heap.size := hx3.size
      have hrg2 := hrg1a.alloc (.cells #[S8 q, .int .i64 fm, S8 fd] 30)
      have HNE2 : Hid _ := row_ne_iter hown2 hrg2
      have HLOW : Hid _ := row_ne_low hown2 hbl
      have HX3 : Hid _ := hx3
      clear hw2 hx2 hb2 hxa hrg1a hx3 hen2
      go_wp2_with (at_builtin; go_must (refine app_rw rfl _ _ rfl w.heap.size _ C.length _ rfl hown2 w2.heap.size 1 ⟨q, fm, fd⟩ rfl (alloc_at _ _) (by omega) hsz ?_; intro v' w3 hown3 hgr3 _))
      go_roundw
      case rel => exact ⟨_, cnt1, C ++ [⟨q, fm, fd⟩], hrg2.kept hgr3 HLOW.out HNE2.out, by rw [List.length_append, List.flatMap_append]; exact hown3, HMM.out, Below.grown HX3.out hgr3 HX3.out.size (fun j hj => (hown2.lt j hj).1)⟩
      case measure => rw [(hrg2.kept hgr3 HLOW.out HNE2.out).left_eq, hrg.left_eq]; exact HLT.out
end Go.Proofs.YtalpfoomkhhgnaaGreatDoor

/-! three: what is appended to a merge's parts; fights. Conditions: as each theorem states. -/
namespace Go.Proofs.YtalpfoomkhhgnaaGreatDoor
open Go Go.RowKit Go.Sort
set_option linter.unusedVariables false
set_option linter.unusedSimpArgs false
set_option linter.unusedSectionVars false

theorem info_nt : (Tryz.prog.info? 59).map (fun i => (i.zero, i.size, i.bytes)) = some (some (.agg #[S8 [], .int .i64 0]), 2, 24) := by kernel_rfl
theorem size_rws : (Tryz.prog.info? 22).map (·.size) = some 1 := by kernel_rfl
theorem size_nts : (Tryz.prog.info? 36).map (·.size) = some 1 := by kernel_rfl
section
variable {ops : Array Oper} {rest : List Oper} {o : Oper} {a : Act} {Q : Exit → Act → World → Prop} {w : World}
theorem app_nt (hgd : o.guard = none) (s x : Operand) (ho : o.op = .call { callee := .builtin .append, args := #[s, x], argTypes := #[36, 36] })
    (base : Nat) (v : Value) (n : Nat) (xs : List Value) (hs : a.eval s = v) (hown : w.ownsRow base 59 2 v n xs)
    (g c : Nat) (r : B8 × Int) (hx : a.eval x = .slice (some ⟨g, 0, none⟩) 1 c) {fr : Nat × Nat} (hg : w.heap[g]? = some (.cells #[S8 r.1, .int .i64 r.2] 59 fr))
    (hb : n ≤ 10000000) (hbase : base ≤ w.heap.size)
    (h : ∀ v' w', w'.ownsRow base 59 2 v' (n + 1) (xs ++ ntC r) → w.grownBy w' v.ownBlock → wpList Tryz.prog ops Q rest (a.put o.dst v') w') : wpList Tryz.prog ops Q (o :: rest) a w := by
  obtain ⟨i0, hi, hz0, hz1, hz2⟩ := info_parts info_nt
  exact wpList_append_own_at w hgd s x _ ho base _ i0 _ 2 24 Tryz.underlying36 hi hz0 hz1 hz2 rfl (by omega) v n xs hs hown ⟨g, 0, none⟩ 1 c (ntC r) hx rfl (by simpa [ntC] using news_of_block hg) (fun u hu => by simp [ntC] at hu; rcases hu with rfl | rfl <;> rfl) (by unfold maxLen; omega) (by omega) hbase
    (fun v' w' h1 h2 _ _ => h v' w' h1 h2)
end
theorem own_type {w : World} {base : Nat} {e : TypeId} {size : Nat} {v : Value} {n : Nat} {xs : List Value} (h : w.ownsRow base e size v n xs) : ∀ k, v.ownBlock = some k → base ≤ k ∧ ∃ cur, w.heap[k]? = some (.cells cur e (0, 0)) := by
  intro k hk
  rcases h.2 with ⟨h1, -⟩ | ⟨g', c', cur, h1, h2, h3, h4⟩
  · rw [h1] at hk; cases hk
  · rw [h1] at hk
    simp only [Value.ownBlock, Option.some.injEq] at hk
    subst hk
    exact ⟨h2, cur, h3⟩
theorem own_keep {w w' : World} {base : Nat} {e : TypeId} {size : Nat} {v : Value} {n : Nat} {xs : List Value} {k : Option Nat} (h : w.ownsRow base e size v n xs) (hg : w.grownBy w' k) (hk : ∀ q, k = some q → ∀ cur, w.heap[q]? ≠ some (.cells cur e (0, 0))) : w'.ownsRow base e size v n xs := by
  refine ⟨h.1, ?_⟩
  rcases h.2 with h0 | ⟨g', c', cur, h1, h2, h3, h4⟩
  · exact .inl h0
  · refine .inr ⟨g', c', cur, h1, h2, ?_, h4⟩
    rw [hg.block g' (Array.getElem?_eq_some_iff.1 h3).1 (fun he => hk g' he.symm cur h3)]
    exact h3
theorem row_keep {w w' : World} {g : Nat} {cs : Array Value} {t e : TypeId} {k : Option Nat} (h : w.heap[g]? = some (.cells cs t (0, 0))) (hg : w.grownBy w' k) (hk : ∀ q, k = some q → ∃ cur, w.heap[q]? = some (.cells cur e (0, 0))) (hne : t ≠ e) : w'.heap[g]? = some (.cells cs t (0, 0)) := by
  rw [hg.block g (Array.getElem?_eq_some_iff.1 h).1 (fun he => ?_)]
  · exact h
  · obtain ⟨cur, hc⟩ := hk g he.symm
    rw [h] at hc
    simp only [Option.some.injEq, Obj.cells.injEq] at hc
    exact hne hc.2.1
theorem mg_keep {V : Fi → Value} {w w' : World} {b : Nat} {l : Files} {e : TypeId} {k : Option Nat} (h : IsMG V w b l) (hg : w.grownBy w' k) (hk : ∀ q, k = some q → ∃ cur, w.heap[q]? = some (.cells cur e (0, 0))) : IsMG V w' b l := by
  refine h.stay (hg.block b h.lt (fun he => ?_))
  obtain ⟨cur, hc⟩ := hk b he.symm
  obtain ⟨es, cl, hm⟩ := h.kind
  rw [hm] at hc
  cases hc
/-- What a step of a merge leaves as it was: what lay below B, and texts' rows. -/
structure FrM (B : Nat) (w w' : World) : Prop where
  os : w'.os = w.os
  tape : w'.tape = w.tape
  output : w'.output = w.output
  size : w.heap.size ≤ w'.heap.size
  low : ∀ k, k < w.heap.size → k < B → w'.heap[k]? = w.heap[k]?
  str : ∀ (k : Nat) cs fr, w.heap[k]? = some (.cells cs 9 fr) → w'.heap[k]? = some (.cells cs 9 fr)
theorem FrM.of_ext {B : Nat} {w w' : World} (h : Ext w w') : FrM B w w' := ⟨h.os, h.tape, h.output, h.size, fun k hk _ => h.block k hk, fun k cs fr hk => h.row hk⟩
theorem FrM.trans {B : Nat} {w w1 w2 : World} (h : FrM B w w1) (k : FrM B w1 w2) : FrM B w w2 :=
  ⟨k.os.trans h.os, k.tape.trans h.tape, k.output.trans h.output, Nat.le_trans h.size k.size, fun i hi hb => (k.low i (Nat.lt_of_lt_of_le hi h.size) hb).trans (h.low i hi hb), fun i cs fr hi => k.str i cs fr (h.str i cs fr hi)⟩
theorem FrM.of_grown {B : Nat} {w w' : World} {k : Option Nat} (hg : w.grownBy w' k) (hb : ∀ q, k = some q → B ≤ q) (hs : ∀ q, k = some q → ∀ cs fr, w.heap[q]? ≠ some (.cells cs 9 fr)) : FrM B w w' :=
  ⟨hg.os, hg.tape, hg.output, hg.size, fun i hi hlt => hg.block i hi (fun he => by have := hb i he.symm; omega), fun i cs fr hi => by rw [hg.block i (Array.getElem?_eq_some_iff.1 hi).1 (fun he => hs i he.symm cs fr hi)]; exact hi⟩
theorem FrM.ext {B : Nat} {w0 w w' : World} (h : Ext w0 w) (k : FrM B w w') (hB : w0.heap.size ≤ B) : Ext w0 w' :=
  ⟨k.os.trans h.os, k.tape.trans h.tape, k.output.trans h.output, Nat.le_trans h.size k.size, fun i hi => (k.low i (Nat.lt_of_lt_of_le hi h.size) (Nat.lt_of_lt_of_le hi hB)).trans (h.block i hi)⟩
theorem FrM.strs {B : Nat} {w w' : World} {v : Value} {l : List B8} (h : FrM B w w') (hv : IsStrs w v l) (ht : ∀ k, v.ownBlock = some k → ∃ cs fr, w.heap[k]? = some (.cells cs 9 fr)) : IsStrs w' v l :=
  row_same hv (fun q hq => by obtain ⟨cs, fr, h1⟩ := ht q hq; rw [h.str q cs fr h1, h1])
section
variable {w w1 w2 : World} {g B : Nat} {x : MB} {vc vn vc' vn' : Value} {o a b : Files} {s : Mg}
theorem IsMer.rowC (h : IsMer w g B x vc vn o a b s) (hg : w.grownBy w1 vc.ownBlock) : w1.heap[g]? = some (.cells (mrC x vc vn) 68 (0, 0)) := row_keep h.row hg (fun q hq => (own_type h.cp q hq).2) (by decide)
theorem IsMer.rowN (h : IsMer w g B x vc vn o a b s) (hg : w.grownBy w1 vn.ownBlock) : w1.heap[g]? = some (.cells (mrC x vc vn) 68 (0, 0)) := row_keep h.row hg (fun q hq => (own_type h.nt q hq).2) (by decide)
theorem IsMer.appC (h : IsMer w g B x vc vn o a b s) (r : Rw) (hg1 : w.grownBy w1 vc.ownBlock) (hc : w1.ownsRow B 30 3 vc' (s.copies.length + 1) (s.copies.flatMap rwC ++ rwC r)) (hg2 : w1.grownBy w2 (some g)) (hrow : w2.heap[g]? = some (.cells (mrC x vc' vn) 68 (0, 0))) :
    IsMer w2 g B x vc' vn o a b ⟨s.out, s.copies ++ [r], s.notes⟩ ∧ FrM B w w2 := by
  have ht1 : ∀ q, vc.ownBlock = some q → ∃ cur, w.heap[q]? = some (.cells cur 30 (0, 0)) := fun q hq => (own_type h.cp q hq).2
  have hr1 := h.rowC hg1
  have ht2 : ∀ q, some g = some q → ∃ cur, w1.heap[q]? = some (.cells cur 68 (0, 0)) := fun q hq => by cases hq; exact ⟨_, hr1⟩
  have m2 : ∀ {V : Fi → Value} {k : Nat} {l : Files}, IsMG V w k l → IsMG V w2 k l := fun hk => mg_keep (mg_keep hk hg1 ht1) hg2 ht2
  refine ⟨⟨hrow, m2 h.mo, m2 h.ma, m2 h.mb, m2 h.mout, m2 h.mm, ?_, ?_, h.lo, h.ne, h.rise⟩, ?_⟩
  · refine own_keep (by rw [List.length_append, List.flatMap_append]; exact hc) hg2 (fun q hq cur he => ?_)
    cases hq
    rw [hr1] at he
    simp at he
  · refine own_keep (own_keep h.nt hg1 (fun q hq cur he => ?_)) hg2 (fun q hq cur he => ?_)
    · obtain ⟨c2, h2⟩ := ht1 q hq
      rw [h2] at he
      simp at he
    · cases hq
      rw [hr1] at he
      simp at he
  · refine (FrM.of_grown hg1 (fun q hq => (own_type h.cp q hq).1) (fun q hq cs fr he => ?_)).trans (FrM.of_grown hg2 (fun q hq => by cases hq; exact h.lo.1) (fun q hq cs fr he => ?_))
    · obtain ⟨c2, h2⟩ := ht1 q hq
      rw [h2] at he
      simp at he
    · cases hq
      rw [hr1] at he
      simp at he
theorem IsMer.appN (h : IsMer w g B x vc vn o a b s) (r : B8 × Int) (hg1 : w.grownBy w1 vn.ownBlock) (hc : w1.ownsRow B 59 2 vn' (s.notes.length + 1) (s.notes.flatMap ntC ++ ntC r)) (hg2 : w1.grownBy w2 (some g)) (hrow : w2.heap[g]? = some (.cells (mrC x vc vn') 68 (0, 0))) :
    IsMer w2 g B x vc vn' o a b ⟨s.out, s.copies, s.notes ++ [r]⟩ ∧ FrM B w w2 := by
  have ht1 : ∀ q, vn.ownBlock = some q → ∃ cur, w.heap[q]? = some (.cells cur 59 (0, 0)) := fun q hq => (own_type h.nt q hq).2
  have hr1 := h.rowN hg1
  have ht2 : ∀ q, some g = some q → ∃ cur, w1.heap[q]? = some (.cells cur 68 (0, 0)) := fun q hq => by cases hq; exact ⟨_, hr1⟩
  have m2 : ∀ {V : Fi → Value} {k : Nat} {l : Files}, IsMG V w k l → IsMG V w2 k l := fun hk => mg_keep (mg_keep hk hg1 ht1) hg2 ht2
  refine ⟨⟨hrow, m2 h.mo, m2 h.ma, m2 h.mb, m2 h.mout, m2 h.mm, ?_, ?_, h.lo, h.ne, h.rise⟩, ?_⟩
  · refine own_keep (own_keep h.cp hg1 (fun q hq cur he => ?_)) hg2 (fun q hq cur he => ?_)
    · obtain ⟨c2, h2⟩ := ht1 q hq
      rw [h2] at he
      simp at he
    · cases hq
      rw [hr1] at he
      simp at he
  · refine own_keep (by rw [List.length_append, List.flatMap_append]; exact hc) hg2 (fun q hq cur he => ?_)
    cases hq
    rw [hr1] at he
    simp at he
  · refine (FrM.of_grown hg1 (fun q hq => (own_type h.nt q hq).1) (fun q hq cs fr he => ?_)).trans (FrM.of_grown hg2 (fun q hq => by cases hq; exact h.lo.1) (fun q hq cs fr he => ?_))
    · obtain ⟨c2, h2⟩ := ht1 q hq
      rw [h2] at he
      simp at he
    · cases hq
      rw [hr1] at he
      simp at he
theorem IsMer.frOut (h : IsMer w g B x vc vn o a b s) (hg : w.grownBy w1 (some x.gout)) : FrM B w w1 := by
  refine FrM.of_grown hg (fun q hq => by cases hq; exact h.lo.2) (fun q hq cs fr he => ?_)
  cases hq
  obtain ⟨es, cl, hm⟩ := h.mout.kind
  rw [hm] at he
  cases he
end
end Go.Proofs.YtalpfoomkhhgnaaGreatDoor

/-! three: fights. Conditions: as each theorem states. -/
namespace Go.Proofs.YtalpfoomkhhgnaaGreatDoor
open Go Go.RowKit Go.Sort
set_option linter.unusedVariables false
set_option linter.unusedSimpArgs false
set_option linter.unusedSectionVars false

theorem row_map {w w' : World} {k q : Nat} {cs : Array Value} {t : TypeId} {fr : Nat × Nat} (h : w.heap[k]? = some (.cells cs t fr)) (hg : w.grownBy w' (some q)) (hm : ∃ es cl, w.heap[q]? = some (.map es cl)) : w'.heap[k]? = some (.cells cs t fr) :=
  but_row hg h (fun he => by obtain ⟨es, cl, hm⟩ := hm; rw [he, hm] at h; cases h)
theorem two_at (w : World) (a b : Obj) : ((w.alloc a).alloc b).heap[w.heap.size]? = some a ∧ ((w.alloc a).alloc b).heap[w.heap.size + 1]? = some b := by
  have e1 : Ext (w.alloc a) ((w.alloc a).alloc b) := (Ext.refl _).alloc _
  have h1 := alloc_at (w.alloc a) b
  rw [show (w.alloc a).heap.size = w.heap.size + 1 from Array.size_push _] at h1
  exact ⟨e1.row (alloc_at w a), h1⟩

set_option maxRecDepth 100000 in
set_option maxHeartbeats 8000000 in
theorem fights3_any {w : World} {g B : Nat} {x : MB} {vc vn : Value} {o a b : Files} {s : Mg} (p : B8) (am bm : Int) (ai bi : B8) (h : IsMer w g B x vc vn o a b s) (hB : B ≤ w.heap.size) (hp : p.length ≤ 100000) (ho : s.out.length ≤ 1000000) (hc : s.copies.length ≤ 1000000) (hn : s.notes.length ≤ 1000000) :
    Calls Tryz.prog 89 #[.pointer (some ⟨g, 0, none⟩), S8 p, .agg #[.int .i64 am, S8 ai], .agg #[.int .i64 bm, S8 bi]] w fun e w' => e = .returned (.tuple #[]) ∧ (∃ vc' vn', IsMer w' g B x vc' vn' o a b (fightsE s p (am, ai) (bm, bi))) ∧ FrM B w w' := by
  have H : Hid (IsMer w g B x vc vn o a b s) := h
  clear h
  go_enter Tryz.func89, Tryz.ntmps89
  go_upto_region 1 with fail
  obtain ⟨b0, b1⟩ := two_at w (.cells #[.int .i64 am, S8 ai] 26) (.cells #[.int .i64 bm, S8 bi] 26)
  obtain ⟨wa, hwa⟩ : ∃ wa, wa = (w.alloc (.cells #[.int .i64 am, S8 ai] 26)).alloc (.cells #[.int .i64 bm, S8 bi] 26) := ⟨_, rfl⟩
  have HXA : Hid (Ext w wa) := by rw [hwa]; exact ((Ext.refl _).alloc _).alloc _
  rw [← hwa] at b0 b1 ⊢
  have e0 := (cell_of_row _ _ 0 _ _ _ b0).trans rfl
  have e1 := (cell_of_row _ _ 1 _ _ _ b0).trans rfl
  have f0 := (cell_of_row _ _ 0 _ _ _ b1).trans rfl
  have f1 := (cell_of_row _ _ 1 _ _ _ b1).trans rfl
  clear hwa b0 b1
  go_wp2_with fail
  go_at_call 143
  refine (fight_any am bm ai bi wa).mono ?_
  obtain ⟨⟨⟨sm, si⟩, ⟨lm, li⟩⟩, hfe⟩ : ∃ q, fightE (am, ai) (bm, bi) = q := ⟨_, rfl⟩
  rw [hfe]
  have HFE : Hid _ := hfe
  unfold entV
  dsimp only
  rintro e wb ⟨rfl, hxb⟩
  have HXB : Hid (Ext w wb) := HXA.out.trans hxb
  clear hxb hfe e0 e1 f0 f1
  go_upto_region 2 with fail
  obtain ⟨c0, c1⟩ := two_at wb (.cells #[.int .i64 sm, S8 si] 26) (.cells #[.int .i64 lm, S8 li] 26)
  obtain ⟨w3, hw3⟩ : ∃ w3, w3 = (wb.alloc (.cells #[.int .i64 sm, S8 si] 26)).alloc (.cells #[.int .i64 lm, S8 li] 26) := ⟨_, rfl⟩
  have HX3 : Hid (Ext w w3) := by rw [hw3]; exact (HXB.out.alloc _).alloc _
  rw [← hw3] at c0 c1 ⊢
  obtain ⟨gs, hgs⟩ : ∃ k, wb.heap.size = k := ⟨_, rfl⟩
  rw [hgs] at c0 c1 ⊢
  obtain ⟨gl, hgl⟩ : ∃ k, gs + 1 = k := ⟨_, rfl⟩
  rw [hgl] at c1 ⊢
  have HC1 : Hid _ := c1
  have v0 := (cell_of_row _ _ 0 _ _ _ c0).trans rfl
  have v1 := (cell_of_row _ _ 1 _ _ _ c0).trans rfl
  have y4 := (H.out.ext HX3.out).f4
  clear hw3 hgs hgl c0 c1
  apply wp_region_mix 6 [.pointer (some ⟨g, 0, none⟩), .pointer (some ⟨g, 0, none⟩), .pointer (some ⟨g, 4, none⟩), .map (some x.gout), S8 p, .agg #[.int .i64 sm, S8 si]] [none, none, none, none, none, none] [[], [0], [1], [2], [], []] (by kernel_rfl) (by kernel_rfl) (by simp [mixV])
  · trivial
  · simp (maxSteps := 1000000) only [List.take_succ_cons, List.take_zero, oblFrom, stepObl, fillFrom, Act.put, List.setIfInBounds_toArray, List.set_cons_zero, List.set_cons_succ, knows, getV, mixV, List.getD_cons_zero, List.getD_cons_succ, and_true, true_and, forall_const]
    refine ⟨?_, ?_, ?_, ?_, ?_, ?_⟩
    · intro xs wq hq R hR
      have k0 := hq.cell y4; have k1 := hq.cell v0; have k2 := hq.cell v1
      go_simp
      exact hR _ _ (Ext.refl _) rfl
    · intro xs wq hq hk R hR
      have k0 := hq.cell y4; have k1 := hq.cell v0; have k2 := hq.cell v1
      go_simp
      exact hR _ _ (Ext.refl _) rfl
    · intro xs wq hq hk R hR
      have k0 := hq.cell y4; have k1 := hq.cell v0; have k2 := hq.cell v1
      go_simp
      exact hR _ _ (Ext.refl _) rfl
    · intro xs wq hq hk R hR
      have k0 := hq.cell y4; have k1 := hq.cell v0; have k2 := hq.cell v1
      go_simp
      exact hR _ _ (Ext.refl _) rfl
    · intro xs wq hq R hR
      have k0 := hq.cell y4; have k1 := hq.cell v0; have k2 := hq.cell v1
      go_simp
      exact hR _ _ (Ext.refl _) rfl
    · intro xs wq hq R hR
      have k0 := hq.cell y4; have k1 := hq.cell v0; have k2 := hq.cell v1
      go_simp
      exact hR _ _ (Ext.refl _) rfl
  intro xs w4 hx4 hk
  simp only [heldV, Nat.zero_add, Nat.reduceAdd, and_true] at hk
  obtain ⟨q0, q1, q2, q3, q4, q5⟩ := hk
  simp (maxSteps := 1000000) only [List.take_succ_cons, List.take_zero, List.drop_succ_cons, List.drop_zero, fillFrom, Act.put, List.setIfInBounds_toArray, List.set_cons_zero, List.set_cons_succ, Nat.zero_add, Nat.reduceAdd, q0, q1, q2, q3, q4, q5]
  clear q0 q1 q2 q3 q4 q5
  have HX4 : Hid (Ext w w4) := HX3.out.trans hx4
  have HM4 : Hid (IsMG entFV w4 x.gout s.out) := (H.out.ext HX4.out).mout
  have HC4 : Hid _ := hx4.row HC1.out
  clear hx4 y4 v0 v1
  go_upto_region 3 with (refine set_mg 64 26 Tryz.underlying64 rfl _ _ _ rfl HM4.out (by omega) rfl p (by omega) rfl ⟨sm, si, 0⟩ rfl ?_; intro w5 hm5 hg5)
  have H5 : Hid (IsMer w5 g B x vc vn o a b ⟨putF s.out p ⟨sm, si, 0⟩, s.copies, s.notes⟩) := (H.out.ext HX4.out).outSet hg5 hm5 (H.out.rise.put _ _)
  have HF5 : Hid (FrM B w w5) := (FrM.of_ext HX4.out).trans ((H.out.ext HX4.out).frOut hg5)
  have hc5 := row_map HC4.out hg5 (H.out.ext HX4.out).mout.kind
  have u0 := (cell_of_row _ _ 0 _ _ _ hc5).trans rfl
  have u1 := (cell_of_row _ _ 1 _ _ _ hc5).trans rfl
  have y5 := H5.out.f5
  clear hm5 hg5 hc5
  apply wp_region_free 9 0 (.pointer (some ⟨g, 0, none⟩)) [.pointer (some ⟨g, 0, none⟩), .pointer (some ⟨g, 0, none⟩), .pointer (some ⟨g, 0, none⟩), .pointer (some ⟨g, 5, none⟩), vc, S8 p, .agg #[.int .i64 lm, S8 li], .agg #[S8 p, .int .i64 lm, S8 li], undef] [none, none, none, none, none, none, none, none, some (fun u w' => ∃ k, u = .slice (some ⟨k, 0, none⟩) 1 1 ∧ w'.heap[k]? = some (.cells #[S8 p, .int .i64 lm, S8 li] 30 (0, 0)))] [[], [], [1], [2], [3], [], [], [5, 6], [7]] (by kernel_rfl) (by kernel_rfl) (by simp [mixV])
  · refine ⟨?_, trivial⟩
    · exact fun _ _ _ he ⟨k, h1, h3⟩ => ⟨k, h1, he.row h3⟩
  · exact ⟨_, rfl, rfl, fun w => by go_simp⟩
  · exact fun _ => rfl
  · simp (maxSteps := 1000000) only [List.take_succ_cons, List.take_zero, oblFrom, stepObl, fillFrom, Act.put, List.setIfInBounds_toArray, List.set_cons_zero, List.set_cons_succ, knows, getV, mixV, List.getD_cons_zero, List.getD_cons_succ, and_true, true_and, forall_const]
    refine ⟨?_, ?_, ?_, ?_, ?_, ?_, ?_, ?_, ?_⟩
    · intro xs wq hq R hR
      have k0 := hq.cell y5; have k1 := hq.cell u0; have k2 := hq.cell u1
      go_simp
      exact hR _ _ (Ext.refl _) rfl
    · intro xs wq hq R hR
      have k0 := hq.cell y5; have k1 := hq.cell u0; have k2 := hq.cell u1
      go_simp
      exact hR _ _ (Ext.refl _) rfl
    · intro xs wq hq hk R hR
      have k0 := hq.cell y5; have k1 := hq.cell u0; have k2 := hq.cell u1
      go_simp
      exact hR _ _ (Ext.refl _) rfl
    · intro xs wq hq hk R hR
      have k0 := hq.cell y5; have k1 := hq.cell u0; have k2 := hq.cell u1
      go_simp
      exact hR _ _ (Ext.refl _) rfl
    · intro xs wq hq hk R hR
      have k0 := hq.cell y5; have k1 := hq.cell u0; have k2 := hq.cell u1
      go_simp
      exact hR _ _ (Ext.refl _) rfl
    · intro xs wq hq R hR
      have k0 := hq.cell y5; have k1 := hq.cell u0; have k2 := hq.cell u1
      go_simp
      exact hR _ _ (Ext.refl _) rfl
    · intro xs wq hq R hR
      have k0 := hq.cell y5; have k1 := hq.cell u0; have k2 := hq.cell u1
      go_simp
      exact hR _ _ (Ext.refl _) rfl
    · intro xs wq hq hk R hR
      obtain ⟨hk0, hk1⟩ := hk
      have k0 := hq.cell y5; have k1 := hq.cell u0; have k2 := hq.cell u1
      go_simp
      exact hR _ _ (Ext.refl _) rfl
    · intro xs wq hq hk R hR
      go_simp
      exact hR _ _ ((Ext.refl _).alloc _) ⟨_, rfl, alloc_at _ _⟩
  intro xs w6 hx6 hk
  simp only [heldV, Nat.zero_add, Nat.reduceAdd, and_true] at hk
  obtain ⟨q0, q1, q2, q3, q4, q5, q6, q7, q8⟩ := hk
  simp (maxSteps := 1000000) only [List.take_succ_cons, List.take_zero, List.drop_succ_cons, List.drop_zero, fillFrom, Act.put, List.setIfInBounds_toArray, List.set_cons_zero, List.set_cons_succ, Nat.zero_add, Nat.reduceAdd, q0, q1, q2, q3, q4, q5, q6, q7]
  clear q0 q1 q2 q3 q4 q5 q6 q7
  generalize xs 8 = x8 at *
  obtain ⟨k8, rfl, hk8⟩ := q8
  have H6 : Hid (IsMer w6 g B x vc vn o a b ⟨putF s.out p ⟨sm, si, 0⟩, s.copies, s.notes⟩) := H5.out.ext hx6
  have HF6 : Hid (FrM B w w6) := HF5.out.trans (FrM.of_ext hx6)
  have hB6 : B ≤ w6.heap.size := Nat.le_trans hB HF6.out.size
  clear hx6 y5 u0 u1
  go_wp2_with (first | (at_builtin; go_must (refine app_rw rfl _ _ rfl B _ s.copies.length _ rfl H6.out.cp k8 1 ⟨p, lm, li⟩ rfl hk8 (by omega) hB6 ?_; intro v7 w7 hown7 hgr7 _; obtain ⟨va, vd, rfl⟩ := owns_some hown7 (by omega); have hgg7 := H6.out.rowC hgr7)) | (refine store_field rfl 22 (.tmp 33) (.tmp 31) rfl g 5 rfl (.slice (some ⟨va, 0, none⟩) (s.copies.length + 1) vd) rfl rfl _ _ hgg7 (Nat.le_of_ble_eq_true rfl) size_rws (mrC x (.slice (some ⟨va, 0, none⟩) (s.copies.length + 1) vd) vn) (by simp [mrC]) ?_; intro w8 hg8 hgr8))
  refine NoP.intro ?_
  obtain ⟨h8, f8⟩ := H6.out.appC ⟨p, lm, li⟩ hgr7 hown7 hgr8 hg8
  have H8 : Hid (IsMer w8 g B x (.slice (some ⟨va, 0, none⟩) (s.copies.length + 1) vd) vn o a b ⟨putF s.out p ⟨sm, si, 0⟩, s.copies ++ [⟨p, lm, li⟩], s.notes⟩) := h8
  have HF8 : Hid (FrM B w w8) := HF6.out.trans f8
  have hB8 : B ≤ w8.heap.size := Nat.le_trans hB HF8.out.size
  have y7 := h8.f7
  have hxa : Ext w8 (w8.alloc (.cells #[S8 p, .int .i64 1] 59)) := (Ext.refl _).alloc _
  have hnt := (h8.ext hxa).nt
  have HA8 : Hid (IsMer (w8.alloc (.cells #[S8 p, .int .i64 1] 59)) g B x (.slice (some ⟨va, 0, none⟩) (s.copies.length + 1) vd) vn o a b ⟨putF s.out p ⟨sm, si, 0⟩, s.copies ++ [⟨p, lm, li⟩], s.notes⟩) := h8.ext hxa
  have HFA : Hid (FrM B w (w8.alloc (.cells #[S8 p, .int .i64 1] 59))) := HF8.out.trans (FrM.of_ext hxa)
  have hBA := Nat.le_trans hB8 hxa.size
  clear h8 f8 hown7 hgr7 hgr8 hg8 hgg7 hk8 hxa
  go_wp2_with (first | (at_builtin; go_must (refine app_nt rfl _ _ rfl B _ s.notes.length _ rfl hnt w8.heap.size 1 (p, 1) rfl (alloc_at _ _) (by omega) hBA ?_; intro v9 w9 hown9 hgr9; obtain ⟨vb, ve, rfl⟩ := owns_some hown9 (by omega); have hgg9 := HA8.out.rowN hgr9)) | (refine store_field rfl 36 (.tmp 44) (.tmp 42) rfl g 7 rfl (.slice (some ⟨vb, 0, none⟩) (s.notes.length + 1) ve) rfl rfl _ _ hgg9 (Nat.le_of_ble_eq_true rfl) size_nts (mrC x (.slice (some ⟨va, 0, none⟩) (s.copies.length + 1) vd) (.slice (some ⟨vb, 0, none⟩) (s.notes.length + 1) ve)) (by simp [mrC]) ?_; intro w10 hg10 hgr10))
  go_end0
  obtain ⟨h10, f10⟩ := HA8.out.appN (p, 1) hgr9 hown9 hgr10 hg10
  refine ⟨rfl, ⟨.slice (some ⟨va, 0, none⟩) (s.copies.length + 1) vd, .slice (some ⟨vb, 0, none⟩) (s.notes.length + 1) ve, ?_⟩, HFA.out.trans f10⟩
  unfold fightsE fiE
  rw [HFE.out]
  exact h10
end Go.Proofs.YtalpfoomkhhgnaaGreatDoor

/-! marref16.same, Status: what they answer. Conditions: as each theorem states. -/
namespace Go.Proofs.YtalpfoomkhhgnaaGreatDoor
open Go Go.RowKit Go.Sort
set_option linter.unusedVariables false
set_option linter.unusedSimpArgs false
set_option linter.unusedSectionVars false

theorem rel_store_rowR {c : Prop} [Decidable c] {ev : Operand → Value} {R : Value → World → Prop} {o : Oper} {w : World} (ty : TypeId) (x y : Operand) {g : Nat} {cells old : Array Value} {t : TypeId} (hc : c) (ho : o.op = .store ty x y) (hx : ev x = .pointer (some ⟨g, 0, none⟩)) (hy : ev y = .agg cells)
    (hg : w.heap[g]? = some (.cells old t (0, 0))) (hi : (Tryz.prog.info? ty).map (·.size) = some cells.size) (hold : old.size = cells.size) (h1 : cells.all (·.oneCell') = true) (h : R undef (w.setRow g cells)) :
    if c then relUpon Tryz.prog R ((execOp ev o).run Tryz.prog w) else R undef w := by
  rw [if_pos hc]
  unfold execOp
  simp only [ho, hx, hy, Instr.storeAt, Instr.sureAddr, Sem.run_bind, Sem.run_pure, Result.andThen_ok, run_storeVar_row w g t ty old cells hg hi hold h1]
  exact h
theorem cellsE2 {w : World} {g : Nat} {v0 v1 : Value} {t : TypeId} {fr : Nat × Nat} (h : w.heap[g]? = some (.cells #[v0, v1] t fr)) : w.cell? ⟨g, 0, none⟩ = some v0 ∧ w.cell? ⟨g, 1, none⟩ = some v1 :=
  ⟨(cell_of_row _ _ 0 _ _ _ h).trans rfl, (cell_of_row _ _ 1 _ _ _ h).trans rfl⟩
/-- What holds while two entries are laid in variables. -/
structure SJ (w0 : World) (e1 e2 : Array Value) (z12 z13 z14 z15 : Option Value) (w : World) : Prop where
  ext : Ext w0 w
  o14 : z14 ≠ none → z12 ≠ none
  o15 : z15 ≠ none → z13 ≠ none
  f12 : ∀ v, z12 = some v → ∃ g, v = .pointer (some ⟨g, 0, none⟩) ∧ w0.heap.size ≤ g ∧ w.heap[g]? = some (.cells (if z14 = none then #[.int .i64 0, S8 []] else e1) 26 (0, 0))
  f13 : ∀ v, z13 = some v → ∃ g, v = .pointer (some ⟨g, 0, none⟩) ∧ w0.heap.size ≤ g ∧ w.heap[g]? = some (.cells (if z15 = none then #[.int .i64 0, S8 []] else e2) 26 (0, 0))
  ne : ∀ g h, z12 = some (.pointer (some ⟨g, 0, none⟩)) → z13 = some (.pointer (some ⟨h, 0, none⟩)) → g ≠ h
section
variable {w0 w w' : World} {e1 e2 : Array Value} {z12 z13 z14 z15 : Option Value}
theorem SJ.start (hx : Ext w0 w) : SJ w0 e1 e2 none none none none w := ⟨hx, fun h => absurd rfl h, fun h => absurd rfl h, fun v hv => (by cases hv), fun v hv => (by cases hv), fun g h hg => (by cases hg)⟩
theorem SJ.more (h : SJ w0 e1 e2 z12 z13 z14 z15 w) (hx : Ext w w') : SJ w0 e1 e2 z12 z13 z14 z15 w' :=
  ⟨h.ext.trans hx, h.o14, h.o15, fun v hv => by obtain ⟨g, a, b, c⟩ := h.f12 v hv; exact ⟨g, a, b, hx.row c⟩, fun v hv => by obtain ⟨g, a, b, c⟩ := h.f13 v hv; exact ⟨g, a, b, hx.row c⟩, h.ne⟩
end
section
variable {ops : Array Oper} {rest : List Oper} {o : Oper} {a : Act} {Q : Exit → Act → World → Prop} {w : World}
end

end Go.Proofs.YtalpfoomkhhgnaaGreatDoor

/-! three: path, where no text is merged. Conditions: as each theorem states. -/
namespace Go.Proofs.YtalpfoomkhhgnaaGreatDoor
open Go Go.RowKit Go.Sort
set_option linter.unusedVariables false
set_option linter.unusedSimpArgs false
set_option linter.unusedSectionVars false

def p3 {α : Type} (a b c d : α) : Nat → α
  | 0 => a
  | 1 => b
  | 2 => c
  | _ => d
theorem p3_0 {α : Type} (v a b c d : α) : ∀ j, p3 v b c d j = if j = 0 then v else p3 a b c d j
  | 0 => rfl
  | 1 => rfl
  | 2 => rfl
  | _ + 3 => rfl
theorem p3_1 {α : Type} (v a b c d : α) : ∀ j, p3 a v c d j = if j = 1 then v else p3 a b c d j
  | 0 => rfl
  | 1 => rfl
  | 2 => rfl
  | _ + 3 => rfl
theorem p3_2 {α : Type} (v a b c d : α) : ∀ j, p3 a b v d j = if j = 2 then v else p3 a b c d j
  | 0 => rfl
  | 1 => rfl
  | 2 => rfl
  | _ + 3 => rfl
def zCells : Array Value := #[.int .i64 0, S8 []]
/-- What holds while entries are laid in variables. -/
structure T3 (w0 : World) (e : Nat → Array Value) (za zs : Nat → Option Value) (w : World) : Prop where
  ext : Ext w0 w
  ord : ∀ i, zs i ≠ none → za i ≠ none
  fit : ∀ i v, za i = some v → ∃ g, v = .pointer (some ⟨g, 0, none⟩) ∧ w0.heap.size ≤ g ∧ w.heap[g]? = some (.cells (if zs i = none then zCells else e i) 26 (0, 0))
  ne : ∀ i j g h, i ≠ j → za i = some (.pointer (some ⟨g, 0, none⟩)) → za j = some (.pointer (some ⟨h, 0, none⟩)) → g ≠ h
section
variable {w0 w w' : World} {e : Nat → Array Value} {za zs : Nat → Option Value}
theorem T3.start (hx : Ext w0 w) (ha : ∀ i, za i = none) (hs : ∀ i, zs i = none) : T3 w0 e za zs w := ⟨hx, fun i h => absurd (hs i) h, fun i v hv => (by rw [ha] at hv; cases hv), fun i j g h _ hg => (by rw [ha] at hg; cases hg)⟩
theorem T3.more (h : T3 w0 e za zs w) (hx : Ext w w') : T3 w0 e za zs w' :=
  ⟨h.ext.trans hx, h.ord, fun i v hv => by obtain ⟨g, a, b, c⟩ := h.fit i v hv; exact ⟨g, a, b, hx.row c⟩, h.ne⟩
theorem T3.setA (h : T3 w0 e za zs w) (i : Nat) (hz : za i = none) {za' : Nat → Option Value} (hza : ∀ j, za' j = if j = i then some (.pointer (some ⟨w.heap.size, 0, none⟩)) else za j) : T3 w0 e za' zs (w.alloc (.cells #[.int .i64 0, S8 []] 26)) := by
  have k := h.more ((Ext.refl w).alloc (.cells #[.int .i64 0, S8 []] 26))
  have hs : zs i = none := by
    cases hq : zs i with
    | none => rfl
    | some v => exact absurd hz (h.ord i (by rw [hq]; simp))
  have hlt : ∀ j v, za j = some v → ∃ g, v = .pointer (some ⟨g, 0, none⟩) ∧ g < w.heap.size := fun j v hv => by
    obtain ⟨g, a, b, c⟩ := h.fit j v hv
    exact ⟨g, a, (Array.getElem?_eq_some_iff.1 c).1⟩
  refine ⟨k.ext, fun j hj => ?_, fun j v hv => ?_, fun j q g g2 hne hg hg2 => ?_⟩
  · rw [hza]
    split
    · simp
    · exact h.ord j hj
  · rw [hza] at hv
    split at hv
    · rename_i hji
      subst hji
      cases hv
      exact ⟨_, rfl, h.ext.size, by rw [if_pos hs]; exact alloc_at _ _⟩
    · exact k.fit j v hv
  · rw [hza] at hg hg2
    split at hg
    · split at hg2
      · rename_i h1 h2
        exact absurd (h1.trans h2.symm) hne
      · obtain ⟨g3, h3, h4⟩ := hlt q _ hg2
        cases hg; cases h3
        omega
    · split at hg2
      · obtain ⟨g3, h3, h4⟩ := hlt j _ hg
        cases hg2; cases h3
        omega
      · exact h.ne j q g g2 hne hg hg2
theorem T3.setS {v : Value} (h : T3 w0 e za zs w) (i : Nat) (hv : za i = some v) (hz : zs i = none) : ∃ g, v = .pointer (some ⟨g, 0, none⟩) ∧ w.heap[g]? = some (.cells #[.int .i64 0, S8 []] 26 (0, 0)) ∧ ∀ (u : Value) (zs' : Nat → Option Value), (∀ j, zs' j = if j = i then some u else zs j) → T3 w0 e za zs' (w.setRow g (e i)) := by
  obtain ⟨g, rfl, hb, hc⟩ := h.fit i _ hv
  rw [if_pos hz] at hc
  have hgr := setRow_grown w g (e i)
  refine ⟨g, rfl, hc, fun u zs' hzs => ⟨Ext.but h.ext hgr hb, fun j hj => ?_, fun j v hj => ?_, h.ne⟩⟩
  · rw [hzs] at hj
    split at hj
    · rename_i hji; subst hji; rw [hv]; simp
    · exact h.ord j hj
  · rw [hzs]
    by_cases hji : j = i
    · subst hji
      rw [hv] at hj
      cases hj
      exact ⟨g, rfl, hb, by rw [if_pos rfl, if_neg (by simp)]; exact setRow_heap _ _ _ _ _ _ hc⟩
    · obtain ⟨g2, a, b, c⟩ := h.fit j v hj
      subst a
      rw [if_neg hji]
      exact ⟨g2, rfl, b, but_row hgr c (h.ne j i g2 g hji hj hv)⟩
end

set_option maxRecDepth 100000 in
set_option maxHeartbeats 8000000 in
theorem path3_any {w : World} {g B : Nat} {x : MB} {vc vn : Value} {o a b : Files} {s : Mg} (p : B8) (h : IsMer w g B x vc vn o a b s) (hB : B ≤ w.heap.size) (hp : p.length ≤ 100000) (ho : s.out.length ≤ 1000000) (hc : s.copies.length ≤ 1000000) (hn : s.notes.length ≤ 1000000) (hk : (pickE (enL o p) (enL a p) (enL b p)).2 ≠ 3) :
    Calls Tryz.prog 61 #[.pointer (some ⟨g, 0, none⟩), S8 p] w fun e w' => e = .returned (.int .i64 0) ∧ (∃ vc' vn', IsMer w' g B x vc' vn' o a b (pathE o a b s p)) ∧ FrM B w w' := by
  have H : Hid (IsMer w g B x vc vn o a b s) := h
  have L1 : Hid (∀ W, Ext w W → ∀ (m : Files) (k : Nat), IsMG entFV W k m → (Instr.lookup 64 (.map (some k)) (S8 p) false).run Tryz.prog W = .ok (.agg #[.int .i64 (enL m p).1, S8 (enL m p).2]) W) := fun W hW m k hm => by
    obtain ⟨-, hlk⟩ := hm.look_run 64 26 _ Tryz.underlying64 (zero_ent W) p (by omega)
    rwa [enL_lookG] at hlk
  obtain ⟨⟨om, oi⟩, h1⟩ : ∃ q, enL o p = q := ⟨_, rfl⟩
  obtain ⟨⟨am, ai⟩, h2⟩ : ∃ q, enL a p = q := ⟨_, rfl⟩
  obtain ⟨⟨bm, bi⟩, h3⟩ : ∃ q, enL b p = q := ⟨_, rfl⟩
  have HP : Hid (pathE o a b s p = if (pickE (om, oi) (am, ai) (bm, bi)).2 = 5 then fightsE s p (am, ai) (bm, bi)
    else ⟨if (pickE (om, oi) (am, ai) (bm, bi)).1.1 = 0 then s.out else putF s.out p (fiE (pickE (om, oi) (am, ai) (bm, bi)).1), s.copies, if (pickE (om, oi) (am, ai) (bm, bi)).2 = 4 then s.notes ++ [(p, 2)] else s.notes⟩) := by unfold Hid pathE; rw [h1, h2, h3]
  rw [h1, h2, h3] at hk
  have HK : Hid _ := hk
  have LO : Hid (∀ W, Ext w W → (Instr.lookup 64 (.map (some x.go)) (S8 p) false).run Tryz.prog W = .ok (.agg #[.int .i64 om, S8 oi]) W) := fun W hW => by have := L1.out W hW o x.go (H.out.mo.ext hW); rwa [h1] at this
  have LA : Hid (∀ W, Ext w W → (Instr.lookup 64 (.map (some x.ga)) (S8 p) false).run Tryz.prog W = .ok (.agg #[.int .i64 am, S8 ai]) W) := fun W hW => by have := L1.out W hW a x.ga (H.out.ma.ext hW); rwa [h2] at this
  have LB : Hid (∀ W, Ext w W → (Instr.lookup 64 (.map (some x.gb)) (S8 p) false).run Tryz.prog W = .ok (.agg #[.int .i64 bm, S8 bi]) W) := fun W hW => by have := L1.out W hW b x.gb (H.out.mb.ext hW); rwa [h3] at this
  clear h hk h1 h2 h3
  go_enter Tryz.func61, Tryz.ntmps61
  have y1 := H.out.f0
  have y2 := H.out.f1
  have y3 := H.out.f2
  go_upto_region 1 with fail
  apply wp_region_inv 24 (fun z w' => T3 w (p3 #[.int .i64 om, S8 oi] #[.int .i64 am, S8 ai] #[.int .i64 bm, S8 bi] #[]) (p3 (z 18) (z 19) (z 20) none) (p3 (z 21) (z 22) (z 23) none) w') [false, false, false, false, false, false, false, false, false, false, false, false, false, false, false, false, false, false, true, true, true, true, true, true] [.pointer (some ⟨g, 0, none⟩), .pointer (some ⟨g, 0, none⟩), .pointer (some ⟨g, 1, none⟩), .map (some x.go), S8 p, .agg #[.int .i64 om, S8 oi], .pointer (some ⟨g, 0, none⟩), .pointer (some ⟨g, 0, none⟩), .pointer (some ⟨g, 2, none⟩), .map (some x.ga), S8 p, .agg #[.int .i64 am, S8 ai], .pointer (some ⟨g, 0, none⟩), .pointer (some ⟨g, 0, none⟩), .pointer (some ⟨g, 3, none⟩), .map (some x.gb), S8 p, .agg #[.int .i64 bm, S8 bi], undef, undef, undef, undef, undef, undef] [none, none, none, none, none, none, none, none, none, none, none, none, none, none, none, none, none, none, none, none, none, none, none, none] [[], [0], [1], [2], [], [3, 4], [], [6], [7], [8], [], [9, 10], [], [12], [13], [14], [], [15, 16], [], [], [], [5, 18], [11, 19], [17, 20]] (by kernel_rfl) (by kernel_rfl) rfl
  · exact T3.start ⟨rfl, rfl, rfl, Nat.le_refl _, fun _ _ => rfl⟩ (fun i => by match i with | 0 => rfl | 1 => rfl | 2 => rfl | _ + 3 => rfl) (fun i => by match i with | 0 => rfl | 1 => rfl | 2 => rfl | _ + 3 => rfl)
  · simp (maxSteps := 1000000) only [oblI, stepI, knowsI, getP, mixP, List.getD_cons_zero, List.getD_cons_succ, Bool.false_eq_true, if_false, if_true, and_true, true_and, forall_const, Nat.zero_add, Nat.reduceAdd, List.take_succ_cons, List.take_zero, fillFrom, Act.put, List.setIfInBounds_toArray, List.set_cons_zero, List.set_cons_succ]
    refine ⟨?_, ?_, ?_, ?_, ?_, ?_, ?_, ?_, ?_, ?_, ?_, ?_, ?_, ?_, ?_, ?_, ?_, ?_, ?_, ?_, ?_, ?_, ?_, ?_⟩
    · intro xs z wq hj R hR
      have k1 := hj.ext.cell y1; have k2 := hj.ext.cell y2; have k3 := hj.ext.cell y3; have k4 := LO.out _ hj.ext; have k5 := LA.out _ hj.ext; have k6 := LB.out _ hj.ext
      go_simp
      exact hR _ _ hj rfl
    · intro xs z wq hj hk R hR
      have k1 := hj.ext.cell y1; have k2 := hj.ext.cell y2; have k3 := hj.ext.cell y3; have k4 := LO.out _ hj.ext; have k5 := LA.out _ hj.ext; have k6 := LB.out _ hj.ext
      go_simp
      exact hR _ _ hj rfl
    · intro xs z wq hj hk R hR
      have k1 := hj.ext.cell y1; have k2 := hj.ext.cell y2; have k3 := hj.ext.cell y3; have k4 := LO.out _ hj.ext; have k5 := LA.out _ hj.ext; have k6 := LB.out _ hj.ext
      go_simp
      exact hR _ _ hj rfl
    · intro xs z wq hj hk R hR
      have k1 := hj.ext.cell y1; have k2 := hj.ext.cell y2; have k3 := hj.ext.cell y3; have k4 := LO.out _ hj.ext; have k5 := LA.out _ hj.ext; have k6 := LB.out _ hj.ext
      go_simp
      exact hR _ _ hj rfl
    · intro xs z wq hj R hR
      have k1 := hj.ext.cell y1; have k2 := hj.ext.cell y2; have k3 := hj.ext.cell y3; have k4 := LO.out _ hj.ext; have k5 := LA.out _ hj.ext; have k6 := LB.out _ hj.ext
      go_simp
      exact hR _ _ hj rfl
    · intro xs z wq hj hk R hR
      obtain ⟨hk0, hk1⟩ := hk
      have k1 := hj.ext.cell y1; have k2 := hj.ext.cell y2; have k3 := hj.ext.cell y3; have k4 := LO.out _ hj.ext; have k5 := LA.out _ hj.ext; have k6 := LB.out _ hj.ext
      go_simp
      exact hR _ _ hj rfl
    · intro xs z wq hj R hR
      have k1 := hj.ext.cell y1; have k2 := hj.ext.cell y2; have k3 := hj.ext.cell y3; have k4 := LO.out _ hj.ext; have k5 := LA.out _ hj.ext; have k6 := LB.out _ hj.ext
      go_simp
      exact hR _ _ hj rfl
    · intro xs z wq hj hk R hR
      have k1 := hj.ext.cell y1; have k2 := hj.ext.cell y2; have k3 := hj.ext.cell y3; have k4 := LO.out _ hj.ext; have k5 := LA.out _ hj.ext; have k6 := LB.out _ hj.ext
      go_simp
      exact hR _ _ hj rfl
    · intro xs z wq hj hk R hR
      have k1 := hj.ext.cell y1; have k2 := hj.ext.cell y2; have k3 := hj.ext.cell y3; have k4 := LO.out _ hj.ext; have k5 := LA.out _ hj.ext; have k6 := LB.out _ hj.ext
      go_simp
      exact hR _ _ hj rfl
    · intro xs z wq hj hk R hR
      have k1 := hj.ext.cell y1; have k2 := hj.ext.cell y2; have k3 := hj.ext.cell y3; have k4 := LO.out _ hj.ext; have k5 := LA.out _ hj.ext; have k6 := LB.out _ hj.ext
      go_simp
      exact hR _ _ hj rfl
    · intro xs z wq hj R hR
      have k1 := hj.ext.cell y1; have k2 := hj.ext.cell y2; have k3 := hj.ext.cell y3; have k4 := LO.out _ hj.ext; have k5 := LA.out _ hj.ext; have k6 := LB.out _ hj.ext
      go_simp
      exact hR _ _ hj rfl
    · intro xs z wq hj hk R hR
      obtain ⟨hk0, hk1⟩ := hk
      have k1 := hj.ext.cell y1; have k2 := hj.ext.cell y2; have k3 := hj.ext.cell y3; have k4 := LO.out _ hj.ext; have k5 := LA.out _ hj.ext; have k6 := LB.out _ hj.ext
      go_simp
      exact hR _ _ hj rfl
    · intro xs z wq hj R hR
      have k1 := hj.ext.cell y1; have k2 := hj.ext.cell y2; have k3 := hj.ext.cell y3; have k4 := LO.out _ hj.ext; have k5 := LA.out _ hj.ext; have k6 := LB.out _ hj.ext
      go_simp
      exact hR _ _ hj rfl
    · intro xs z wq hj hk R hR
      have k1 := hj.ext.cell y1; have k2 := hj.ext.cell y2; have k3 := hj.ext.cell y3; have k4 := LO.out _ hj.ext; have k5 := LA.out _ hj.ext; have k6 := LB.out _ hj.ext
      go_simp
      exact hR _ _ hj rfl
    · intro xs z wq hj hk R hR
      have k1 := hj.ext.cell y1; have k2 := hj.ext.cell y2; have k3 := hj.ext.cell y3; have k4 := LO.out _ hj.ext; have k5 := LA.out _ hj.ext; have k6 := LB.out _ hj.ext
      go_simp
      exact hR _ _ hj rfl
    · intro xs z wq hj hk R hR
      have k1 := hj.ext.cell y1; have k2 := hj.ext.cell y2; have k3 := hj.ext.cell y3; have k4 := LO.out _ hj.ext; have k5 := LA.out _ hj.ext; have k6 := LB.out _ hj.ext
      go_simp
      exact hR _ _ hj rfl
    · intro xs z wq hj R hR
      have k1 := hj.ext.cell y1; have k2 := hj.ext.cell y2; have k3 := hj.ext.cell y3; have k4 := LO.out _ hj.ext; have k5 := LA.out _ hj.ext; have k6 := LB.out _ hj.ext
      go_simp
      exact hR _ _ hj rfl
    · intro xs z wq hj hk R hR
      obtain ⟨hk0, hk1⟩ := hk
      have k1 := hj.ext.cell y1; have k2 := hj.ext.cell y2; have k3 := hj.ext.cell y3; have k4 := LO.out _ hj.ext; have k5 := LA.out _ hj.ext; have k6 := LB.out _ hj.ext
      go_simp
      exact hR _ _ hj rfl
    · intro xs z wq hj hz R hR
      go_simp
      exact hR _ _ (hj.setA 0 hz (p3_0 _ _ _ _ _))
    · intro xs z wq hj hz R hR
      go_simp
      exact hR _ _ (hj.setA 1 hz (p3_1 _ _ _ _ _))
    · intro xs z wq hj hz R hR
      go_simp
      exact hR _ _ (hj.setA 2 hz (p3_2 _ _ _ _ _))
    · intro xs z wq hj hz hk R hR
      obtain ⟨hk0, hk1⟩ := hk
      obtain ⟨g, hg, hcell, hj'⟩ := hj.setS 0 hk1 hz
      apply rel_store_rowR 26 (.tmp 5) (.tmp 18) (g := g) (cells := #[.int .i64 om, S8 oi]) (old := #[.int .i64 0, S8 []]) (t := 26)
      · rfl
      · rfl
      · exact hg
      · exact hk0
      · exact hcell
      · exact size_ent
      · rfl
      · simp [Value.oneCell']
      · exact hR _ _ (hj' _ _ (p3_0 _ _ _ _ _))
    · intro xs z wq hj hz hk R hR
      obtain ⟨hk0, hk1⟩ := hk
      obtain ⟨g, hg, hcell, hj'⟩ := hj.setS 1 hk1 hz
      apply rel_store_rowR 26 (.tmp 6) (.tmp 24) (g := g) (cells := #[.int .i64 am, S8 ai]) (old := #[.int .i64 0, S8 []]) (t := 26)
      · rfl
      · rfl
      · exact hg
      · exact hk0
      · exact hcell
      · exact size_ent
      · rfl
      · simp [Value.oneCell']
      · exact hR _ _ (hj' _ _ (p3_1 _ _ _ _ _))
    · intro xs z wq hj hz hk R hR
      obtain ⟨hk0, hk1⟩ := hk
      obtain ⟨g, hg, hcell, hj'⟩ := hj.setS 2 hk1 hz
      apply rel_store_rowR 26 (.tmp 7) (.tmp 30) (g := g) (cells := #[.int .i64 bm, S8 bi]) (old := #[.int .i64 0, S8 []]) (t := 26)
      · rfl
      · rfl
      · exact hg
      · exact hk0
      · exact hcell
      · exact size_ent
      · rfl
      · simp [Value.oneCell']
      · exact hR _ _ (hj' _ _ (p3_2 _ _ _ _ _))
  intro xs w2 hj2 hk
  simp only [zAll, List.getD_cons_zero, List.getD_cons_succ, Bool.false_eq_true, if_false, if_true] at hj2
  simp only [heldI, Nat.zero_add, Nat.reduceAdd, and_true] at hk
  have q0 := hk.1
  replace hk := hk.2
  have q1 := hk.1
  replace hk := hk.2
  have q2 := hk.1
  replace hk := hk.2
  have q3 := hk.1
  replace hk := hk.2
  have q4 := hk.1
  replace hk := hk.2
  have q5 := hk.1
  replace hk := hk.2
  have q6 := hk.1
  replace hk := hk.2
  have q7 := hk.1
  replace hk := hk.2
  have q8 := hk.1
  replace hk := hk.2
  have q9 := hk.1
  replace hk := hk.2
  have q10 := hk.1
  replace hk := hk.2
  have q11 := hk.1
  replace hk := hk.2
  have q12 := hk.1
  replace hk := hk.2
  have q13 := hk.1
  replace hk := hk.2
  have q14 := hk.1
  replace hk := hk.2
  have q15 := hk.1
  replace hk := hk.2
  have q16 := hk.1
  replace hk := hk.2
  have q17 := hk
  clear hk
  simp (maxSteps := 1000000) only [List.drop_succ_cons, List.drop_zero, Nat.zero_add, Nat.reduceAdd, List.take_succ_cons, List.take_zero, fillFrom, Act.put, List.setIfInBounds_toArray, List.set_cons_zero, List.set_cons_succ, q0, q1, q2, q3, q4, q5, q6, q7, q8, q9, q10, q11, q12, q13, q14, q15, q16, q17]
  clear q0 q1 q2 q3 q4 q5 q6 q7 q8 q9 q10 q11 q12 q13 q14 q15 q16 q17
  generalize xs 18 = x18 at *
  generalize xs 19 = x19 at *
  generalize xs 20 = x20 at *
  generalize xs 21 = x21 at *
  generalize xs 22 = x22 at *
  generalize xs 23 = x23 at *
  obtain ⟨g5, e5, h5b, h5⟩ := hj2.fit 0 _ rfl
  obtain ⟨g6, e6, h6b, h6⟩ := hj2.fit 1 _ rfl
  obtain ⟨g7, e7, h7b, h7⟩ := hj2.fit 2 _ rfl
  subst e5 e6 e7
  rw [if_neg (by simp [p3])] at h5 h6 h7
  have h5 : w2.heap[g5]? = some (.cells #[.int .i64 om, S8 oi] 26 (0, 0)) := h5
  have h6 : w2.heap[g6]? = some (.cells #[.int .i64 am, S8 ai] 26 (0, 0)) := h6
  have h7 : w2.heap[g7]? = some (.cells #[.int .i64 bm, S8 bi] 26 (0, 0)) := h7
  have HX2 : Hid (Ext w w2) := hj2.ext
  have H6 : Hid _ := h6
  have H7 : Hid _ := h7
  have e0 := (cell_of_row _ _ 0 _ _ _ h5).trans rfl
  have e1 := (cell_of_row _ _ 1 _ _ _ h5).trans rfl
  have f0 := (cell_of_row _ _ 0 _ _ _ h6).trans rfl
  have f1 := (cell_of_row _ _ 1 _ _ _ h6).trans rfl
  have u0 := (cell_of_row _ _ 0 _ _ _ h7).trans rfl
  have u1 := (cell_of_row _ _ 1 _ _ _ h7).trans rfl
  clear hj2 h5 h6 h7 h5b h6b h7b y1 y2 y3
  go_wp2_with fail
  go_at_call 87
  refine (pick_any om am bm oi ai bi w2 HK.out).mono ?_
  obtain ⟨⟨⟨km, ki⟩, kk⟩, hpk⟩ : ∃ q, pickE (om, oi) (am, ai) (bm, bi) = q := ⟨_, rfl⟩
  rw [hpk]
  rw [hpk] at HP HK
  dsimp only at HP HK
  unfold entV
  dsimp only
  rintro e w3 ⟨rfl, hx3⟩
  have HX3 : Hid (Ext w w3) := HX2.out.trans hx3
  have B6 : Hid _ := hx3.row H6.out
  have B7 : Hid _ := hx3.row H7.out
  have hk3 : (kk == 3) = false := by rw [beq_eq_false_iff_ne]; exact HK.out
  clear hpk hx3 e0 e1 f0 f1 u0 u1
  go_upto_region 3 with fail
  obtain ⟨w4, hw4⟩ : ∃ w4, w4 = w3.alloc (.cells #[.int .i64 km, S8 ki] 26) := ⟨_, rfl⟩
  have hx4 : Ext w3 w4 := by rw [hw4]; exact (Ext.refl _).alloc _
  have hb4 : w4.heap[w3.heap.size]? = some (.cells #[.int .i64 km, S8 ki] 26 (0, 0)) := by rw [hw4]; exact alloc_at _ _
  have HX4 : Hid (Ext w w4) := HX3.out.trans hx4
  rw [← hw4]
  obtain ⟨ge, hge⟩ : ∃ k, w3.heap.size = k := ⟨_, rfl⟩
  rw [hge] at hb4 ⊢
  have HB4 : Hid _ := hb4
  have b6 := hx4.row B6.out
  have b7 := hx4.row B7.out
  have f0 := (cell_of_row _ _ 0 _ _ _ b6).trans rfl
  have f1 := (cell_of_row _ _ 1 _ _ _ b6).trans rfl
  have u0 := (cell_of_row _ _ 0 _ _ _ b7).trans rfl
  have u1 := (cell_of_row _ _ 1 _ _ _ b7).trans rfl
  have hB4 : B ≤ w4.heap.size := Nat.le_trans hB HX4.out.size
  clear hw4 hx4 hb4 hge b6 b7
  obtain ⟨z5, hz5⟩ : ∃ z, (kk == 5) = z := ⟨_, rfl⟩
  have HZ5 : Hid (z5 = true ↔ kk = 5) := by unfold Hid; rw [← hz5]; exact beq_iff_eq
  cases z5 with
  | true =>
    have HPF : Hid (pathE o a b s p = fightsE s p (am, ai) (bm, bi)) := by unfold Hid; rw [HP.out, if_pos (HZ5.out.1 rfl)]
    go_wp2_with fail
    go_at_call 89
    refine (fights3_any p am bm ai bi (H.out.ext HX4.out) hB4 hp ho hc hn).mono ?_
    rintro e w5 ⟨rfl, hm5, hf5⟩
    have HM5 : Hid _ := hm5
    have HF5 : Hid _ := hf5
    clear hm5 hf5
    go_wp2
    go_ret
    rw [HPF.out]
    exact ⟨rfl, HM5.out, (FrM.of_ext HX4.out).trans HF5.out⟩
  | false =>
  have HPN : Hid (pathE o a b s p = ⟨if km = 0 then s.out else putF s.out p (fiE (km, ki)), s.copies, if kk = 4 then s.notes ++ [(p, 2)] else s.notes⟩) := by
    unfold Hid
    rw [HP.out, if_neg (fun h => by have := HZ5.out.2 h; cases this)]
  obtain ⟨z4, hz4⟩ : ∃ z, (kk == 4) = z := ⟨_, rfl⟩
  have HZ4 : Hid (z4 = true ↔ kk = 4) := by unfold Hid; rw [← hz4]; exact beq_iff_eq
  clear f0 f1 u0 u1
  cases z4
  case' true =>
    have y7 := (H.out.ext HX4.out).f7
    have hxa : Ext w4 (w4.alloc (.cells #[S8 p, .int .i64 2] 59)) := (Ext.refl _).alloc _
    have HA4 : Hid (IsMer (w4.alloc (.cells #[S8 p, .int .i64 2] 59)) g B x vc vn o a b s) := H.out.ext (HX4.out.trans hxa)
    have hnt := HA4.out.nt
    have hba := hxa.row HB4.out
    have hBA := Nat.le_trans hB4 hxa.size
    have HFA : Hid (FrM B w (w4.alloc (.cells #[S8 p, .int .i64 2] 59))) := FrM.of_ext (HX4.out.trans hxa)
    clear hxa
    go_upto_region 17 with (first | (at_builtin; go_must (refine app_nt rfl _ _ rfl B _ s.notes.length _ rfl hnt w4.heap.size 1 (p, 2) rfl (alloc_at _ _) (by omega) hBA ?_; intro v9 w9 hown9 hgr9; obtain ⟨vb, ve, rfl⟩ := owns_some hown9 (by omega); have hgg9 := HA4.out.rowN hgr9)) | (refine store_field rfl 36 (.tmp 81) (.tmp 79) rfl g 7 rfl (.slice (some ⟨vb, 0, none⟩) (s.notes.length + 1) ve) rfl rfl _ _ hgg9 (Nat.le_of_ble_eq_true rfl) size_nts (mrC x vc (.slice (some ⟨vb, 0, none⟩) (s.notes.length + 1) ve)) (by simp [mrC]) ?_; intro w10 hg10 hgr10))
    obtain ⟨h10, f10⟩ := HA4.out.appN (p, 2) hgr9 hown9 hgr10 hg10
    have hb10 : w10.heap[ge]? = some (.cells #[.int .i64 km, S8 ki] 26 (0, 0)) := row_keep (row_keep hba hgr9 (fun q hq => (own_type hnt q hq).2) (by decide)) hgr10 (fun q hq => by cases hq; exact ⟨_, hgg9⟩) (by decide)
    obtain ⟨N, hN⟩ : ∃ N, N = s.notes ++ [(p, 2)] := ⟨_, rfl⟩
    have HPX : Hid (pathE o a b s p = ⟨if km = 0 then s.out else putF s.out p (fiE (km, ki)), s.copies, N⟩) := by unfold Hid; rw [HPN.out, if_pos (HZ4.out.1 rfl), hN]
    obtain ⟨vq, hvq⟩ : ∃ vq, vq = Value.slice (some ⟨vb, 0, none⟩) (s.notes.length + 1) ve := ⟨_, rfl⟩
    rw [← hvq, ← hN] at h10
    have HM10 : Hid (IsMer w10 g B x vc vq o a b ⟨s.out, s.copies, N⟩) := h10
    have HF10 : Hid (FrM B w w10) := HFA.out.trans f10
    clear h10 f10 hown9 hgr9 hgr10 hg10 hgg9 hnt hba hN hvq y7
  case' false =>
    go_upto_region 17 with fail
    obtain ⟨w10, hw10⟩ : ∃ w10, w10 = w4 := ⟨_, rfl⟩
    obtain ⟨N, hN⟩ : ∃ N, N = s.notes := ⟨_, rfl⟩
    obtain ⟨vq, hvq⟩ : ∃ vq, vq = vn := ⟨_, rfl⟩
    have hb10 : w10.heap[ge]? = some (.cells #[.int .i64 km, S8 ki] 26 (0, 0)) := by rw [hw10]; exact HB4.out
    have HPX : Hid (pathE o a b s p = ⟨if km = 0 then s.out else putF s.out p (fiE (km, ki)), s.copies, N⟩) := by unfold Hid; rw [HPN.out, if_neg (show ¬ kk = 4 from fun h => by have := HZ4.out.2 h; cases this), hN]
    have HM10 : Hid (IsMer w10 g B x vc vq o a b ⟨s.out, s.copies, N⟩) := by rw [hw10, hN, hvq]; exact H.out.ext HX4.out
    have HF10 : Hid (FrM B w w10) := by rw [hw10]; exact FrM.of_ext HX4.out
    rw [← hw10]
    clear hw10 hN hvq
  all_goals
    have e0 := (cell_of_row _ _ 0 _ _ _ hb10).trans rfl
    have e1 := (cell_of_row _ _ 1 _ _ _ hb10).trans rfl
    have y4 := HM10.out.f4
    obtain ⟨z, hz⟩ : ∃ z, (km == 0) = z := ⟨_, rfl⟩
    have HZ : Hid (z = true ↔ km = 0) := by unfold Hid; rw [← hz]; exact beq_iff_eq
    clear hb10
    cases z with
    | true =>
      have HPY : Hid (pathE o a b s p = ⟨s.out, s.copies, N⟩) := by unfold Hid; rw [HPX.out, if_pos (HZ.out.1 rfl)]
      go_wp2
      go_ret
      rw [HPY.out]
      exact ⟨rfl, ⟨_, _, HM10.out⟩, HF10.out⟩
    | false =>
      have HPY : Hid (pathE o a b s p = ⟨putF s.out p ⟨km, ki, 0⟩, s.copies, N⟩) := by unfold Hid; rw [HPX.out, if_neg (fun h => by have := HZ.out.2 h; cases this)]; rfl
      go_upto_region 18 with fail
      apply wp_region_mix 6 [.pointer (some ⟨g, 0, none⟩), .pointer (some ⟨g, 0, none⟩), .pointer (some ⟨g, 4, none⟩), .map (some x.gout), S8 p, .agg #[.int .i64 km, S8 ki]] [none, none, none, none, none, none] [[], [0], [1], [2], [], []] (by kernel_rfl) (by kernel_rfl) (by simp [mixV])
      · trivial
      · simp (maxSteps := 1000000) only [List.take_succ_cons, List.take_zero, oblFrom, stepObl, fillFrom, Act.put, List.setIfInBounds_toArray, List.set_cons_zero, List.set_cons_succ, knows, getV, mixV, List.getD_cons_zero, List.getD_cons_succ, and_true, true_and, forall_const]
        refine ⟨?_, ?_, ?_, ?_, ?_, ?_⟩
        · intro xs wq hq R hR
          have k1 := hq.cell y4; have k2 := hq.cell e0; have k3 := hq.cell e1
          go_simp
          exact hR _ _ (Ext.refl _) rfl
        · intro xs wq hq hk R hR
          have k1 := hq.cell y4; have k2 := hq.cell e0; have k3 := hq.cell e1
          go_simp
          exact hR _ _ (Ext.refl _) rfl
        · intro xs wq hq hk R hR
          have k1 := hq.cell y4; have k2 := hq.cell e0; have k3 := hq.cell e1
          go_simp
          exact hR _ _ (Ext.refl _) rfl
        · intro xs wq hq hk R hR
          have k1 := hq.cell y4; have k2 := hq.cell e0; have k3 := hq.cell e1
          go_simp
          exact hR _ _ (Ext.refl _) rfl
        · intro xs wq hq R hR
          have k1 := hq.cell y4; have k2 := hq.cell e0; have k3 := hq.cell e1
          go_simp
          exact hR _ _ (Ext.refl _) rfl
        · intro xs wq hq R hR
          have k1 := hq.cell y4; have k2 := hq.cell e0; have k3 := hq.cell e1
          go_simp
          exact hR _ _ (Ext.refl _) rfl
      intro xs w11 hx11 hk
      simp only [heldV, Nat.zero_add, Nat.reduceAdd, and_true] at hk
      obtain ⟨q0, q1, q2, q3, q4, q5⟩ := hk
      simp (maxSteps := 1000000) only [List.take_succ_cons, List.take_zero, List.drop_succ_cons, List.drop_zero, fillFrom, Act.put, List.setIfInBounds_toArray, List.set_cons_zero, List.set_cons_succ, Nat.zero_add, Nat.reduceAdd, q0, q1, q2, q3, q4, q5]
      clear q0 q1 q2 q3 q4 q5
      have HM11 : Hid (IsMer w11 g B x vc vq o a b ⟨s.out, s.copies, N⟩) := HM10.out.ext hx11
      have HF11 : Hid (FrM B w w11) := HF10.out.trans (FrM.of_ext hx11)
      have HMO : Hid (IsMG entFV w11 x.gout s.out) := HM11.out.mout
      clear hx11 y4 e0 e1
      go_wp2_with (refine set_mg 64 26 Tryz.underlying64 rfl _ _ _ rfl HMO.out (by omega) rfl p (by omega) rfl ⟨km, ki, 0⟩ rfl ?_; intro w12 hm12 hg12)
      go_ret
      rw [HPY.out]
      exact ⟨rfl, ⟨_, _, HM11.out.outSet hg12 hm12 (HM11.out.rise.put _ _)⟩, HF11.out.trans (HM11.out.frOut hg12)⟩
end Go.Proofs.YtalpfoomkhhgnaaGreatDoor

/-! three: moves. Conditions: as each theorem states. -/
namespace Go.Proofs.YtalpfoomkhhgnaaGreatDoor
open Go Go.RowKit Go.Sort
set_option linter.unusedVariables false
set_option linter.unusedSimpArgs false
set_option linter.unusedSectionVars false

theorem datG_del (V : Fi → Value) (l : Files) (p : B8) : (datG V l).del (.string p) = datG V (delF l p) := by
  unfold datG DataW.del
  simp only
  rw [filter_enG]
section
variable {ops : Array Oper} {rest : List Oper} {o : Oper} {a : Act} {Q : Exit → Act → World → Prop} {w : World} {V : Fi → Value}
theorem del_mg (T E : TypeId) (hT : Tryz.prog.underlying T = some (.map 9 E)) (hgd : o.guard = none) (m x : Operand) (hop : o.op = Op.call { callee := Callee.builtin Builtin.delete, args := #[m, x], argTypes := #[T, 9] }) {b : Nat} {l : Files} (hf : IsMG V w b l)
    (hm : a.eval m = .map (some b)) (p : B8) (hp : p.length ≤ 1000000) (hx : a.eval x = S8 p)
    (h : ∀ w', IsMG V w' b (delF l p) → w.grownBy w' (some b) → wpList Tryz.prog ops Q rest (a.put o.dst (.tuple #[])) w') : wpList Tryz.prog ops Q (o :: rest) a w := by
  refine wpList_delete_own w hgd m x _ _ hop _ K_str hT elemV b _ _ hm hf.map (S8 p) (.string p) hx (key_str p (by omega)) ?_
  intro w' hown ht
  rw [datG_del] at hown
  refine h w' ⟨?_⟩ ht.grown
  obtain ⟨es, clock, hb, F, hs, hD⟩ := hown
  refine ⟨es, clock, hb, F, ?_, hD⟩
  have : Maps.size (datG V (delF l p)) = es.size := by rw [hD]; simp [Maps.size, length_sorted]
  rw [← this]
  simp [datG, Maps.size]
end
def errM (m : Option (Files × List (B8 × Int))) : Int := match m with | some _ => 0 | none => 14
theorem movesE_no {o a b : Files} {r : Rw} {l : List Rw} {out : Files} {n : List (B8 × Int)} (h : undE out r.path = false) : movesE o a b (r :: l) out n = movesE o a b l out n := by
  rw [movesE, if_neg (by rw [h]; simp)]
theorem movesE_fail {o a b : Files} {r : Rw} {l : List Rw} {out : Files} {n : List (B8 × Int)} (h : undE out r.path = true) (hp : placeE o a b (delF out r.path) r 21 = none) : movesE o a b (r :: l) out n = none := by
  rw [movesE, if_pos h, hp]
theorem movesE_go {o a b : Files} {r : Rw} {l : List Rw} {out out' : Files} {n : List (B8 × Int)} (h : undE out r.path = true) (hp : placeE o a b (delF out r.path) r 21 = some out') : movesE o a b (r :: l) out n = movesE o a b l out' (n ++ [(r.path, 3)]) := by
  rw [movesE, if_pos h, hp]
theorem drop_cons {α : Type} {l : List α} {k : Nat} {x : α} (h : l[k]? = some x) : l.drop k = x :: l.drop (k + 1) := by
  obtain ⟨h1, rfl⟩ := List.getElem?_eq_some_iff.1 h
  exact List.drop_eq_getElem_cons h1

set_option maxRecDepth 100000 in
set_option maxHeartbeats 8000000 in
theorem moves3_any {w : World} {g B : Nat} {x : MB} {vc vn : Value} {o a b : Files} {s : Mg} (hE : ∀ w', FrM B w w' → Env w') (h : IsMer w g B x vc vn o a b s) (hB : B ≤ w.heap.size) (ho : s.out.length ≤ 10000) (hn : s.notes.length ≤ 10000) (hs : ∀ r ∈ rowsE s.out, r.path.length ≤ 50000 ∧ r.id.length ≤ 50000) :
    Calls Tryz.prog 63 #[.pointer (some ⟨g, 0, none⟩)] w fun e w' => e = .returned (.int .i64 (errM (movesE o a b (rowsE s.out) s.out s.notes))) ∧ (∀ y, movesE o a b (rowsE s.out) s.out s.notes = some y → ∃ vn', IsMer w' g B x vc vn' o a b ⟨y.1, s.copies, y.2⟩) ∧ FrM B w w' := by
  have H : Hid (IsMer w g B x vc vn o a b s) := h
  have HE : Hid (∀ w', FrM B w w' → Env w') := hE
  have HS : Hid _ := hs
  obtain ⟨L, hL⟩ : ∃ L, rowsE s.out = L := ⟨_, rfl⟩
  have hLl : L.length ≤ 10000 := by rw [← hL]; unfold rowsE; rw [List.length_map]; exact ho
  rw [hL] at HS ⊢
  have HL : Hid _ := hL
  clear h hE hs hL
  go_enter Tryz.func63, Tryz.ntmps63
  go_wp2_with fail
  go_at_call 36
  refine (rows3_any H.out (by omega)).mono ?_
  rw [HL.out, show s.out.length = L.length by rw [← HL.out]; unfold rowsE; rw [List.length_map]]
  rintro e w1 ⟨⟨v, rfl, hv⟩, hx1⟩
  have HOW1 : Hid (w1.ownsRow w.heap.size 30 3 v L.length (L.flatMap rwC)) := hv
  have HR1 : Hid (IsRws w1 v L) := Row.of_owns hv (by omega)
  obtain ⟨ra, rc, rfl, -⟩ := HR1.out.get
  have HX1 : Hid (Ext w w1) := hx1
  clear hv hx1 HR1
  go_wp2_with fail
  go_loopw [9] (fun i wr => ∃ (k : Nat) (out : Files) (n : List (B8 × Int)) (vq : Value), k ≤ L.length ∧ i = .int .i64 k ∧ out.length ≤ s.out.length + k ∧ n.length ≤ s.notes.length + k ∧ Hid (IsMer wr g B x vc vq o a b ⟨out, s.copies, n⟩) ∧ Hid (FrM B w wr) ∧ Hid (wr.ownsRow w.heap.size 30 3 (.slice ra L.length rc) L.length (L.flatMap rwC)) ∧ Hid (movesE o a b L s.out s.notes = movesE o a b (L.drop k) out n)) (fun i _ => L.length - (intOf i).toNat)
  case atStart => exact ⟨0, s.out, s.notes, vn, Nat.zero_le _, rfl, by omega, by omega, H.out.ext HX1.out, FrM.of_ext HX1.out, HOW1, rfl⟩
  case round =>
  obtain ⟨k, out, n, vq, hk, rfl, hol, hnl, HM, HF, HOW, HP⟩ := hrel
  by_cases hlt : k < L.length
  case neg =>
    have hkk : k = L.length := by omega
    subst hkk
    have HR : Hid (movesE o a b L s.out s.notes = some (out, n)) := by
      unfold Hid
      rw [HP.out, List.drop_length]
      rfl
    go_wp2
    go_ret
    rw [HR.out]
    exact ⟨rfl, fun y hy => by cases hy; exact ⟨_, HM.out⟩, HF.out⟩
  obtain ⟨r, hr⟩ : ∃ r, L[k]? = some r := ⟨_, List.getElem?_eq_getElem hlt⟩
  have hrw : IsRws wr (.slice ra L.length rc) L := Row.of_owns HOW.out (by omega)
  obtain ⟨_, _, he, -, -, -, hgr⟩ := hrw.get
  cases he
  obtain ⟨rb, ro, rfl, c0, c1, c2⟩ := hgr k r hr
  have y0 : wr.cell? ⟨rb, ro + k * 3, none⟩ = some (S8 r.path) := by rw [Nat.mul_comm k 3]; exact c0
  have y1 : wr.cell? ⟨rb, ro + k * 3 + 1, none⟩ = some (.int .i64 r.mode) := by rw [Nat.mul_comm k 3]; exact c1
  have y2 : wr.cell? ⟨rb, ro + k * 3 + 2, none⟩ = some (S8 r.id) := by rw [Nat.mul_comm k 3]; exact c2
  have HSZ := HS.out r (List.mem_of_getElem? hr)
  have HDR : Hid (L.drop k = r :: L.drop (k + 1)) := drop_cons hr
  obtain ⟨rp, rm, ri⟩ := r
  dsimp only at y0 y1 y2 HSZ
  obtain ⟨hpl, hil⟩ := HSZ
  clear hrw hgr c0 c1 c2 hr
  go_upto_region 4 with fail
  obtain ⟨w2, hw2⟩ : ∃ w2, w2 = wr.alloc (.cells #[S8 rp, .int .i64 rm, S8 ri] 30) := ⟨_, rfl⟩
  have hx2 : Ext wr w2 := by rw [hw2]; exact (Ext.refl _).alloc _
  have hb2 : w2.heap[wr.heap.size]? = some (.cells #[S8 rp, .int .i64 rm, S8 ri] 30 (0, 0)) := by rw [hw2]; exact alloc_at _ _
  rw [← hw2]
  obtain ⟨gi, hgi⟩ : ∃ q, wr.heap.size = q := ⟨_, rfl⟩
  rw [hgi] at hb2 ⊢
  have HB2 : Hid _ := hb2
  obtain ⟨z0, z1, z2⟩ := cellsAt3 hb2
  have HM2 : Hid (IsMer w2 g B x vc vq o a b ⟨out, s.copies, n⟩) := HM.out.ext hx2
  have HF2 : Hid (FrM B w w2) := HF.out.trans (FrM.of_ext hx2)
  have HOW2 : Hid (w2.ownsRow w.heap.size 30 3 (.slice (some ⟨rb, ro, none⟩) L.length rc) L.length (L.flatMap rwC)) := owns_ext HOW.out hx2
  clear hw2 hx2 hb2 hgi y0 y1 y2
  obtain ⟨c, hc⟩ : ∃ c, undE out rp = c := ⟨_, rfl⟩
  have HC : Hid _ := hc
  clear hc
  go_wp2_with fail
  go_at_call 92
  refine (under3_any rp HM2.out (by omega)).mono ?_
  rw [HC.out]
  rintro e w3 ⟨rfl, hx3⟩
  have HM3 : Hid (IsMer w3 g B x vc vq o a b ⟨out, s.copies, n⟩) := HM2.out.ext hx3
  have HF3 : Hid (FrM B w w3) := HF2.out.trans (FrM.of_ext hx3)
  have HOW3 : Hid (w3.ownsRow w.heap.size 30 3 (.slice (some ⟨rb, ro, none⟩) L.length rc) L.length (L.flatMap rwC)) := owns_ext HOW2.out hx3
  have HB3 : Hid _ := hx3.row HB2.out
  clear hx3 z0 z1 z2
  cases c with
  | false =>
    have HPN : Hid (movesE o a b L s.out s.notes = movesE o a b (L.drop (k + 1)) out n) := by unfold Hid; rw [HP.out, HDR.out]; exact movesE_no HC.out
    go_wp2_with fail
    go_roundw
    case rel => exact ⟨k + 1, out, n, vq, by omega, by go_num, by omega, by omega, HM3.out, HF3.out, HOW3.out, HPN.out⟩
    case measure => simp [intOf]; omega
  | true =>
  have y4 := HM3.out.f4
  obtain ⟨z0, z1, z2⟩ := cellsAt3 HB3.out
  go_upto_region 5 with fail
  apply wp_region_mix 6 [.pointer (some ⟨g, 0, none⟩), .pointer (some ⟨g, 0, none⟩), .pointer (some ⟨g, 4, none⟩), .map (some x.gout), .pointer (some ⟨gi, 0, none⟩), S8 rp] [none, none, none, none, none, none] [[], [0], [1], [2], [], [4]] (by kernel_rfl) (by kernel_rfl) (by simp [mixV])
  · trivial
  · simp (maxSteps := 1000000) only [List.take_succ_cons, List.take_zero, oblFrom, stepObl, fillFrom, Act.put, List.setIfInBounds_toArray, List.set_cons_zero, List.set_cons_succ, knows, getV, mixV, List.getD_cons_zero, List.getD_cons_succ, and_true, true_and, forall_const]
    refine ⟨?_, ?_, ?_, ?_, ?_, ?_⟩
    · intro xs wq hq R hR
      have k1 := hq.cell y4; have k2 := hq.cell z0
      go_simp
      exact hR _ _ (Ext.refl _) rfl
    · intro xs wq hq hk R hR
      have k1 := hq.cell y4; have k2 := hq.cell z0
      go_simp
      exact hR _ _ (Ext.refl _) rfl
    · intro xs wq hq hk R hR
      have k1 := hq.cell y4; have k2 := hq.cell z0
      go_simp
      exact hR _ _ (Ext.refl _) rfl
    · intro xs wq hq hk R hR
      have k1 := hq.cell y4; have k2 := hq.cell z0
      go_simp
      exact hR _ _ (Ext.refl _) rfl
    · intro xs wq hq R hR
      have k1 := hq.cell y4; have k2 := hq.cell z0
      go_simp
      exact hR _ _ (Ext.refl _) rfl
    · intro xs wq hq hk R hR
      have k1 := hq.cell y4; have k2 := hq.cell z0
      go_simp
      exact hR _ _ (Ext.refl _) rfl
  intro xs w4 hx4 hk
  simp only [heldV, Nat.zero_add, Nat.reduceAdd, and_true] at hk
  obtain ⟨q0, q1, q2, q3, q4, q5⟩ := hk
  simp (maxSteps := 1000000) only [List.take_succ_cons, List.take_zero, List.drop_succ_cons, List.drop_zero, fillFrom, Act.put, List.setIfInBounds_toArray, List.set_cons_zero, List.set_cons_succ, Nat.zero_add, Nat.reduceAdd, q0, q1, q2, q3, q4, q5]
  clear q0 q1 q2 q3 q4 q5
  have HM4 : Hid (IsMer w4 g B x vc vq o a b ⟨out, s.copies, n⟩) := HM3.out.ext hx4
  have HMO : Hid (IsMG entFV w4 x.gout out) := HM4.out.mout
  have HF4 : Hid (FrM B w w4) := HF3.out.trans (FrM.of_ext hx4)
  have HOW4 : Hid _ := owns_ext HOW3.out hx4
  have HB4 : Hid _ := hx4.row HB3.out
  clear hx4 y4 z0 z1 z2
  go_upto_region 6 with (refine del_mg 64 26 Tryz.underlying64 rfl _ _ rfl HMO.out rfl rp (by omega) rfl ?_; intro w5 hm5 hg5)
  have HM5 : Hid (IsMer w5 g B x vc vq o a b ⟨delF out rp, s.copies, n⟩) := HM4.out.outSet hg5 hm5 (HM4.out.rise.del _)
  have HF5 : Hid (FrM B w w5) := HF4.out.trans (HM4.out.frOut hg5)
  have HOW5 : Hid _ := own_map HOW4.out hg5 HM4.out.mout.kind
  have hb5 := row_map HB4.out hg5 HM4.out.mout.kind
  have HB5 : Hid _ := hb5
  obtain ⟨z0, z1, z2⟩ := cellsAt3 hb5
  have hdl := delF_length out rp
  clear hm5 hg5 hb5
  go_wp2_with fail
  go_at_call 62
  refine (place3_any ⟨rp, rm, ri⟩ (HE.out _ HF5.out) HM5.out hpl hil (by show (delF out rp).length ≤ _; omega)).mono ?_
  obtain ⟨pe, hpe⟩ : ∃ q, placeE o a b (delF out rp) ⟨rp, rm, ri⟩ 21 = q := ⟨_, rfl⟩
  dsimp only
  rw [hpe]
  have HPE : Hid _ := hpe
  rintro e w6 ⟨rfl, hm6, hg6⟩
  have HF6 : Hid (FrM B w w6) := HF5.out.trans (HM5.out.frOut hg6)
  have HOW6 : Hid _ := own_map HOW5.out hg6 HM5.out.mout.kind
  have hb6 := row_map HB5.out hg6 HM5.out.mout.kind
  have HB6 : Hid _ := hb6
  have hlen : ∀ out', pe = some out' → out'.length ≤ (delF out rp).length + 1 := fun out' h => placeE_len o a b ⟨rp, rm, ri⟩ 21 _ _ (by rw [hpe]; exact h)
  have HM6 : Hid _ := hm6
  clear hm6 hg6 hb6 hpe z0 z1 z2
  cases pe with
  | none =>
    have HR : Hid (movesE o a b L s.out s.notes = none) := by unfold Hid; rw [HP.out, HDR.out]; exact movesE_fail HC.out HPE.out
    go_wp2_with fail
    go_ret
    rw [HR.out]
    exact ⟨rfl, fun y hy => (by cases hy), HF6.out⟩
  | some out' =>
    have hol' := hlen out' rfl
    have HPN : Hid (movesE o a b L s.out s.notes = movesE o a b (L.drop (k + 1)) out' (n ++ [(rp, 3)])) := by unfold Hid; rw [HP.out, HDR.out]; exact movesE_go HC.out HPE.out
    have HM7 : Hid (IsMer w6 g B x vc vq o a b ⟨out', s.copies, n⟩) := HM6.out
    have y7 := HM7.out.f7
    obtain ⟨z0, z1, z2⟩ := cellsAt3 HB6.out
    go_upto_region 9 with fail
    apply wp_region_free 9 0 (.pointer (some ⟨g, 0, none⟩)) [.pointer (some ⟨g, 0, none⟩), .pointer (some ⟨g, 0, none⟩), .pointer (some ⟨g, 0, none⟩), .pointer (some ⟨g, 7, none⟩), vq, .pointer (some ⟨gi, 0, none⟩), S8 rp, .agg #[S8 rp, .int .i64 3], undef] [none, none, none, none, none, none, none, none, some (fun u w' => ∃ k, u = .slice (some ⟨k, 0, none⟩) 1 1 ∧ w'.heap[k]? = some (.cells #[S8 rp, .int .i64 3] 59 (0, 0)))] [[], [], [1], [2], [3], [], [5], [6], [7]] (by kernel_rfl) (by kernel_rfl) (by simp [mixV])
    · refine ⟨?_, trivial⟩
      · exact fun _ _ _ he ⟨k, h1, h3⟩ => ⟨k, h1, he.row h3⟩
    · exact ⟨_, rfl, rfl, fun w => by go_simp⟩
    · exact fun _ => rfl
    · simp (maxSteps := 1000000) only [List.take_succ_cons, List.take_zero, oblFrom, stepObl, fillFrom, Act.put, List.setIfInBounds_toArray, List.set_cons_zero, List.set_cons_succ, knows, getV, mixV, List.getD_cons_zero, List.getD_cons_succ, and_true, true_and, forall_const]
      refine ⟨?_, ?_, ?_, ?_, ?_, ?_, ?_, ?_, ?_⟩
      · intro xs wq hq R hR
        have k0 := hq.cell y7; have k1 := hq.cell z0
        go_simp
        exact hR _ _ (Ext.refl _) rfl
      · intro xs wq hq R hR
        have k0 := hq.cell y7; have k1 := hq.cell z0
        go_simp
        exact hR _ _ (Ext.refl _) rfl
      · intro xs wq hq hk R hR
        have k0 := hq.cell y7; have k1 := hq.cell z0
        go_simp
        exact hR _ _ (Ext.refl _) rfl
      · intro xs wq hq hk R hR
        have k0 := hq.cell y7; have k1 := hq.cell z0
        go_simp
        exact hR _ _ (Ext.refl _) rfl
      · intro xs wq hq hk R hR
        have k0 := hq.cell y7; have k1 := hq.cell z0
        go_simp
        exact hR _ _ (Ext.refl _) rfl
      · intro xs wq hq R hR
        have k0 := hq.cell y7; have k1 := hq.cell z0
        go_simp
        exact hR _ _ (Ext.refl _) rfl
      · intro xs wq hq hk R hR
        have k0 := hq.cell y7; have k1 := hq.cell z0
        go_simp
        exact hR _ _ (Ext.refl _) rfl
      · intro xs wq hq hk R hR
        have k0 := hq.cell y7; have k1 := hq.cell z0
        go_simp
        exact hR _ _ (Ext.refl _) rfl
      · intro xs wq hq hk R hR
        go_simp
        exact hR _ _ ((Ext.refl _).alloc _) ⟨_, rfl, alloc_at _ _⟩
    intro xs w8 hx8 hk
    simp only [heldV, Nat.zero_add, Nat.reduceAdd, and_true] at hk
    obtain ⟨q0, q1, q2, q3, q4, q5, q6, q7, q8⟩ := hk
    simp (maxSteps := 1000000) only [List.take_succ_cons, List.take_zero, List.drop_succ_cons, List.drop_zero, fillFrom, Act.put, List.setIfInBounds_toArray, List.set_cons_zero, List.set_cons_succ, Nat.zero_add, Nat.reduceAdd, q0, q1, q2, q3, q4, q5, q6, q7]
    clear q0 q1 q2 q3 q4 q5 q6 q7
    generalize xs 8 = x8 at *
    obtain ⟨k8, rfl, hk8⟩ := q8
    have HM8 : Hid (IsMer w8 g B x vc vq o a b ⟨out', s.copies, n⟩) := HM7.out.ext hx8
    have HF8 : Hid (FrM B w w8) := HF6.out.trans (FrM.of_ext hx8)
    have HOW8 : Hid _ := owns_ext HOW6.out hx8
    have hnt : w8.ownsRow B 59 2 vq n.length (n.flatMap ntC) := HM8.out.nt
    have hB8 : B ≤ w8.heap.size := Nat.le_trans hB HF8.out.size
    clear hx8 y7 z0 z1 z2
    go_wp2_with (first | (at_builtin; go_must (refine app_nt rfl _ _ rfl B _ n.length _ rfl hnt k8 1 (rp, 3) rfl hk8 (by omega) hB8 ?_; intro v9 w9 hown9 hgr9; obtain ⟨vb, ve, rfl⟩ := owns_some hown9 (by omega); have hgg9 := HM8.out.rowN hgr9)) | (refine store_field rfl 36 (.tmp 41) (.tmp 39) rfl g 7 rfl (.slice (some ⟨vb, 0, none⟩) (n.length + 1) ve) rfl rfl _ _ hgg9 (Nat.le_of_ble_eq_true rfl) size_nts (mrC x vc (.slice (some ⟨vb, 0, none⟩) (n.length + 1) ve)) (by simp [mrC]) ?_; intro w10 hg10 hgr10))
    refine NoP.intro ?_
    obtain ⟨h10, f10⟩ := HM8.out.appN (rp, 3) hgr9 hown9 hgr10 hg10
    have HM10 : Hid (IsMer w10 g B x vc (.slice (some ⟨vb, 0, none⟩) (n.length + 1) ve) o a b ⟨out', s.copies, n ++ [(rp, 3)]⟩) := h10
    have HF10 : Hid (FrM B w w10) := HF8.out.trans f10
    have HOW10 : Hid (w10.ownsRow w.heap.size 30 3 (.slice (some ⟨rb, ro, none⟩) L.length rc) L.length (L.flatMap rwC)) := by
      refine own_keep (own_keep HOW8.out hgr9 (fun q hq cur he => ?_)) hgr10 (fun q hq cur he => ?_)
      · obtain ⟨c2, h2⟩ := (own_type hnt q hq).2
        rw [h2] at he
        simp at he
      · cases hq
        rw [hgg9] at he
        simp at he
    clear h10 f10 hown9 hgr9 hgr10 hg10 hgg9 hnt hk8
    go_wp2_with fail
    go_roundw
    case rel => exact ⟨k + 1, out', n ++ [(rp, 3)], _, by omega, by go_num, by omega, by rw [List.length_append, List.length_singleton]; omega, HM10.out, HF10.out, HOW10.out, HPN.out⟩
    case measure => simp [intOf]; omega
end Go.Proofs.YtalpfoomkhhgnaaGreatDoor

/-! three: all. Conditions: as each theorem states. -/
namespace Go.Proofs.YtalpfoomkhhgnaaGreatDoor
open Go Go.RowKit Go.Sort
set_option linter.unusedVariables false
set_option linter.unusedSimpArgs false
set_option linter.unusedSectionVars false

def BndR (n : Nat) (l : List Rw) : Prop := ∀ r ∈ l, r.path.length ≤ n ∧ r.id.length ≤ 1000
def BndF (n : Nat) (m : Files) : Prop := ∀ e ∈ m, e.1.length ≤ n ∧ e.2.data.length ≤ 1000
def BndE (m : Files) : Prop := ∀ p, (enL m p).2.length ≤ 1000
theorem BndF.put {n : Nat} {m : Files} (h : BndF n m) {p : B8} {f : Fi} (hp : p.length ≤ n) (hf : f.data.length ≤ 1000) : BndF n (putF m p f) := fun e he => by
  rcases mem_putF he with rfl | ⟨he, -⟩
  · exact ⟨hp, hf⟩
  · exact h e he
theorem pick_id {o a b : En} (ha : a.2.length ≤ 1000) (hb : b.2.length ≤ 1000) : (pickE o a b).1.2.length ≤ 1000 := by
  have hf : (fightE a b).1.2.length ≤ 1000 := by unfold fightE; split <;> assumption
  unfold pickE
  repeat' split
  all_goals first | exact ha | exact hb | exact hf | exact Nat.zero_le _
theorem fight_id {a b : En} (ha : a.2.length ≤ 1000) (hb : b.2.length ≤ 1000) : (fightE a b).1.2.length ≤ 1000 ∧ (fightE a b).2.2.length ≤ 1000 := by
  unfold fightE
  split
  · exact ⟨ha, hb⟩
  · exact ⟨hb, ha⟩
structure BndM (k : Nat) (s : Mg) : Prop where
  o : s.out.length ≤ k
  c : s.copies.length ≤ k
  n : s.notes.length ≤ k
  f : BndF 1000 s.out
  r : BndR 1000 s.copies
theorem BndM.path {k : Nat} {s : Mg} {o a b : Files} {p : B8} (h : BndM k s) (hp : p.length ≤ 1000) (ha : BndE a) (hb : BndE b) : BndM (k + 1) (pathE o a b s p) := by
  have l0 := h.o
  have l1 := h.c
  have l2 := h.n
  have hf := fight_id (ha p) (hb p)
  unfold pathE
  split
  · unfold fightsE
    refine ⟨?_, ?_, ?_, h.f.put hp hf.1, fun r hr => ?_⟩
    · have := putF_length s.out p (fiE (fightE (enL a p) (enL b p)).1)
      show (putF s.out p _).length ≤ _
      omega
    · show (s.copies ++ [_]).length ≤ _
      rw [List.length_append, List.length_singleton]; omega
    · show (s.notes ++ [_]).length ≤ _
      rw [List.length_append, List.length_singleton]; omega
    · rcases List.mem_append.1 hr with hr | hr
      · exact h.r r hr
      · obtain rfl := List.mem_singleton.1 hr
        exact ⟨hp, hf.2⟩
  · refine ⟨?_, ?_, ?_, ?_, h.r⟩
    · have := putF_length s.out p (fiE (pickE (enL o p) (enL a p) (enL b p)).1)
      show (if _ then _ else _ : Files).length ≤ _
      split <;> omega
    · show s.copies.length ≤ _
      omega
    · show (if _ then _ else _ : List (B8 × Int)).length ≤ _
      split
      · rw [List.length_append, List.length_singleton]; omega
      · omega
    · show BndF 1000 (if _ then _ else _)
      split
      · exact h.f
      · exact h.f.put hp (pick_id (ha p) (hb p))
theorem placeE_bnd {o a b : Files} {r : Rw} (hp : r.path.length ≤ 1000) (hi : r.id.length ≤ 1000) : ∀ (k : Nat) (out out' : Files), BndF 1100 out → placeE o a b out r k = some out' → BndF 1100 out'
  | 0, out, out', _, h => by cases h
  | k + 1, out, out', hb, h => by
    unfold placeE at h
    split at h
    · cases h
      refine hb.put ?_ hi
      have := copyE_len r.path r.id (20 - k)
      omega
    · exact placeE_bnd hp hi k out out' hb h
theorem foldP_snoc (o a b : Files) {P : List B8} {k : Nat} {p : B8} (h : P[k]? = some p) (s : Mg) : (P.take (k + 1)).foldl (pathE o a b) s = pathE o a b ((P.take k).foldl (pathE o a b) s) p := by
  rw [take_snocR h, List.foldl_append]
  rfl
def errA (m : Option (Files × List (B8 × Int))) : Int := match m with | some _ => 0 | none => 14
theorem copiesE_none {o a b : Files} {r : Rw} {l : List Rw} {out : Files} (h : placeE o a b out r 21 = none) : copiesE o a b (r :: l) out = none := by
  unfold copiesE
  rw [h]
theorem copiesE_some {o a b : Files} {r : Rw} {l : List Rw} {out out' : Files} (h : placeE o a b out r 21 = some out') : copiesE o a b (r :: l) out = copiesE o a b l out' := by
  rw [copiesE, h]

set_option maxRecDepth 100000 in
set_option maxHeartbeats 8000000 in
theorem all3_any {w : World} {g B : Nat} {x : MB} {vc vn : Value} {o a b : Files} (v : Value) (P : List B8) (hE : ∀ w', FrM B w w' → Env w') (h : IsMer w g B x vc vn o a b ⟨[], [], []⟩) (hB : B ≤ w.heap.size)
    (hv : IsStrs w v P) (ht : ∀ k, v.ownBlock = some k → ∃ cs fr, w.heap[k]? = some (.cells cs 9 fr)) (hP : P.length ≤ 1000) (hpl : ∀ p ∈ P, p.length ≤ 1000) (ha : BndE a) (hb : BndE b) (hk : ∀ p, (pickE (enL o p) (enL a p) (enL b p)).2 ≠ 3) :
    Calls Tryz.prog 32 #[.pointer (some ⟨g, 0, none⟩), v] w fun e w' => e = .returned (.int .i64 (errA (allE o a b P))) ∧ (∀ y, allE o a b P = some y → ∃ vc' vn' cs, IsMer w' g B x vc' vn' o a b ⟨y.1, cs, y.2⟩) ∧ FrM B w w' := by
  have H : Hid (IsMer w g B x vc vn o a b ⟨[], [], []⟩) := h
  have HE : Hid (∀ w', FrM B w w' → Env w') := hE
  have HV : Hid (IsStrs w v P) := hv
  have HT : Hid _ := ht
  have HPL : Hid _ := hpl
  have HK : Hid _ := hk
  obtain ⟨va, vb, rfl, v1, v2, v3, -⟩ := hv.get
  clear h hE hv ht hpl hk
  go_enter Tryz.func32, Tryz.ntmps32
  go_wp2_with fail
  go_loopw [14] (fun i wr => ∃ (k : Nat) (vq vm : Value), k ≤ P.length ∧ i = .int .i64 k ∧ Hid (IsMer wr g B x vq vm o a b ((P.take k).foldl (pathE o a b) ⟨[], [], []⟩)) ∧ Hid (BndM k ((P.take k).foldl (pathE o a b) ⟨[], [], []⟩)) ∧ Hid (FrM B w wr)) (fun i _ => P.length - (intOf i).toNat)
  case atStart => exact ⟨0, vc, vn, Nat.zero_le _, rfl, H.out, ⟨Nat.le_refl _, Nat.le_refl _, Nat.le_refl _, fun e he => (by cases he), fun r hr => (by cases hr)⟩, FrM.of_ext (Ext.refl w)⟩
  case round =>
  obtain ⟨k, vq, vm, hkk, rfl, HM, HBM, HF⟩ := hrel
  by_cases hlt : k < P.length
  case pos =>
    obtain ⟨p, hp⟩ : ∃ p, P[k]? = some p := ⟨_, List.getElem?_eq_getElem hlt⟩
    have hvr : IsStrs wr _ P := HF.out.strs HV.out HT.out
    obtain ⟨_, _, he, -, -, -, hgr⟩ := hvr.get
    cases he
    obtain ⟨bb, oo, rfl, hc⟩ := hgr k hlt
    have y0 := hc k hlt
    rw [show P.getD k [] = p by rw [List.getD_eq_getElem?_getD, hp]; rfl] at y0
    have hpl := HPL.out p (List.mem_of_getElem? hp)
    obtain ⟨S, hS⟩ : ∃ S, (P.take k).foldl (pathE o a b) ⟨[], [], []⟩ = S := ⟨_, rfl⟩
    have HSN : Hid _ := foldP_snoc o a b hp ⟨[], [], []⟩
    rw [hS] at HM HBM HSN
    have hB2 : B ≤ wr.heap.size := Nat.le_trans hB HF.out.size
    have b1 := HBM.out.o
    have b2 := HBM.out.c
    have b3 := HBM.out.n
    clear hvr hgr hc hp hS
    go_wp2_with fail
    go_at_call 61
    refine (path3_any p HM.out hB2 (by omega) (by omega) (by omega) (by omega) (HK.out p)).mono ?_
    rintro e w2 ⟨rfl, hm2, hf2⟩
    have HM2 : Hid _ := hm2
    have HF2 : Hid (FrM B w w2) := HF.out.trans hf2
    have HBN : Hid (BndM (k + 1) (pathE o a b S p)) := HBM.out.path hpl ha hb
    clear hm2 hf2 y0
    go_wp2_with fail
    go_roundw
    case rel =>
      obtain ⟨vq2, vm2, hm2⟩ := HM2.out
      refine ⟨k + 1, vq2, vm2, by omega, by go_num, ?_, ?_, HF2.out⟩
      · unfold Hid; rw [HSN.out]; exact hm2
      · unfold Hid; rw [HSN.out]; exact HBN.out
    case measure => simp [intOf]; omega
  have hke : k = P.length := by omega
  subst hke
  obtain ⟨S, hS⟩ : ∃ S, P.foldl (pathE o a b) ⟨[], [], []⟩ = S := ⟨_, rfl⟩
  rw [List.take_length, hS] at HM HBM
  have HAE : Hid (allE o a b P = thenE o a b S.notes (copiesE o a b S.copies S.out)) := by unfold Hid allE pathsE; rw [hS]
  have b1 := HBM.out.o
  have b2 := HBM.out.c
  have b3 := HBM.out.n
  have y5 := HM.out.f5
  have hcp : IsRws wr vq S.copies := Row.of_owns HM.out.cp (by omega)
  obtain ⟨ca, cc, rfl, -⟩ := hcp.get
  clear hS hcp hlt hkk
  go_wp2_with fail
  clear y5
  go_loopw [30] (fun i wq => ∃ (j : Nat) (out : Files), j ≤ S.copies.length ∧ i = .int .i64 j ∧ Hid (IsMer wq g B x (.slice ca S.copies.length cc) vm o a b ⟨out, S.copies, S.notes⟩) ∧ out.length ≤ P.length + j ∧ Hid (BndF 1100 out) ∧ Hid (FrM B w wq) ∧ Hid (copiesE o a b S.copies S.out = copiesE o a b (S.copies.drop j) out)) (fun i _ => S.copies.length - (intOf i).toNat)
  case atStart => exact ⟨0, S.out, Nat.zero_le _, rfl, HM.out, by omega, fun e he => ⟨Nat.le_trans (HBM.out.f e he).1 (by omega), (HBM.out.f e he).2⟩, HF.out, rfl⟩
  case round =>
  clear HM HF
  obtain ⟨j, out, hj, rfl, HM, hol, HBF, HF, HCE⟩ := hrel
  by_cases hjl : j < S.copies.length
  case pos =>
    obtain ⟨r, hr⟩ : ∃ r, S.copies[j]? = some r := ⟨_, List.getElem?_eq_getElem hjl⟩
    have hrw : IsRws wr (.slice ca S.copies.length cc) S.copies := Row.of_owns HM.out.cp (by omega)
    obtain ⟨_, _, he, -, -, -, hgr⟩ := hrw.get
    cases he
    obtain ⟨rb, ro, rfl, c0, c1, c2⟩ := hgr j r hr
    have y0 : wr.cell? ⟨rb, ro + j * 3, none⟩ = some (S8 r.path) := by rw [Nat.mul_comm j 3]; exact c0
    have y1 : wr.cell? ⟨rb, ro + j * 3 + 1, none⟩ = some (.int .i64 r.mode) := by rw [Nat.mul_comm j 3]; exact c1
    have y2 : wr.cell? ⟨rb, ro + j * 3 + 2, none⟩ = some (S8 r.id) := by rw [Nat.mul_comm j 3]; exact c2
    obtain ⟨hp1, hi1⟩ := HBM.out.r r (List.mem_of_getElem? hr)
    have HDR : Hid (S.copies.drop j = r :: S.copies.drop (j + 1)) := drop_cons hr
    obtain ⟨rp, rm, ri⟩ := r
    dsimp only at y0 y1 y2 hp1 hi1
    clear hrw hgr c0 c1 c2 hr
    go_upto_region 11 with fail
    obtain ⟨w2, hw2⟩ : ∃ w2, w2 = wr.alloc (.cells #[S8 rp, .int .i64 rm, S8 ri] 30) := ⟨_, rfl⟩
    have hx2 : Ext wr w2 := by rw [hw2]; exact (Ext.refl _).alloc _
    have hb2 : w2.heap[wr.heap.size]? = some (.cells #[S8 rp, .int .i64 rm, S8 ri] 30 (0, 0)) := by rw [hw2]; exact alloc_at _ _
    rw [← hw2]
    obtain ⟨gi, hgi⟩ : ∃ q, wr.heap.size = q := ⟨_, rfl⟩
    rw [hgi] at hb2 ⊢
    obtain ⟨z0, z1, z2⟩ := cellsAt3 hb2
    have HM2 : Hid (IsMer w2 g B x (.slice (some ⟨rb, ro, none⟩) S.copies.length cc) vm o a b ⟨out, S.copies, S.notes⟩) := HM.out.ext hx2
    have HF2 : Hid (FrM B w w2) := HF.out.trans (FrM.of_ext hx2)
    clear hw2 hx2 hb2 hgi y0 y1 y2
    go_wp2_with fail
    go_at_call 62
    refine (place3_any ⟨rp, rm, ri⟩ (HE.out _ HF2.out) HM2.out (by show rp.length ≤ _; omega) (by show ri.length ≤ _; omega) (by show out.length ≤ _; omega)).mono ?_
    obtain ⟨pe, hpe⟩ : ∃ q, placeE o a b out ⟨rp, rm, ri⟩ 21 = q := ⟨_, rfl⟩
    dsimp only
    rw [hpe]
    have HPE : Hid _ := hpe
    rintro e w6 ⟨rfl, hm6, hg6⟩
    have HF6 : Hid (FrM B w w6) := HF2.out.trans (HM2.out.frOut hg6)
    have hlen : ∀ out', pe = some out' → out'.length ≤ out.length + 1 := fun out' h => placeE_len o a b ⟨rp, rm, ri⟩ 21 _ _ (by rw [hpe]; exact h)
    have HM6 : Hid _ := hm6
    clear hm6 hg6 hpe z0 z1 z2
    cases pe with
    | none =>
      have HR : Hid (allE o a b P = none) := by unfold Hid; rw [HAE.out, HCE.out, HDR.out, copiesE_none HPE.out]; rfl
      go_wp2_with fail
      go_ret
      rw [HR.out]
      exact ⟨rfl, fun y hy => (by cases hy), HF6.out⟩
    | some out' =>
      have hol' := hlen out' rfl
      have HCN : Hid (copiesE o a b S.copies S.out = copiesE o a b (S.copies.drop (j + 1)) out') := by unfold Hid; rw [HCE.out, HDR.out]; exact copiesE_some HPE.out
      have HBG : Hid (BndF 1100 out') := placeE_bnd (r := ⟨rp, rm, ri⟩) hp1 hi1 21 out out' HBF.out HPE.out
      go_wp2_with fail
      go_roundw
      case rel => exact ⟨j + 1, out', by omega, by go_num, HM6.out, by omega, HBG.out, HF6.out, HCN.out⟩
      case measure => simp [intOf]; omega
  have hje : j = S.copies.length := by omega
  have HCO : Hid (copiesE o a b S.copies S.out = some out) := by unfold Hid; rw [HCE.out, hje, List.drop_length]; rfl
  have hB3 : B ≤ wr.heap.size := Nat.le_trans hB HF.out.size
  clear hjl hj
  go_wp2_with fail
  go_at_call 63
  refine (moves3_any (fun w' hw' => HE.out w' (HF.out.trans hw')) HM.out hB3 (by show out.length ≤ _; omega) (by show S.notes.length ≤ _; omega) (fun r hr => by
    unfold rowsE at hr
    obtain ⟨e, he, rfl⟩ := List.mem_map.1 hr
    obtain ⟨h1, h2⟩ := HBF.out e he
    exact ⟨by show e.1.length ≤ _; omega, by show e.2.data.length ≤ _; omega⟩)).mono ?_
  dsimp only
  obtain ⟨me, hme⟩ : ∃ q, movesE o a b (rowsE out) out S.notes = q := ⟨_, rfl⟩
  rw [hme]
  have HA2 : Hid (allE o a b P = limE me) := by unfold Hid; rw [HAE.out, HCO.out]; show limE (movesE o a b (rowsE out) out S.notes) = _; rw [hme]
  rintro e w7 ⟨rfl, hm7, hf7⟩
  have HF7 : Hid (FrM B w w7) := HF.out.trans hf7
  have HM7 : Hid _ := hm7
  clear hm7 hf7 hme
  cases me with
  | none =>
    have HR : Hid (allE o a b P = none) := HA2.out
    go_wp2_with fail
    go_ret
    rw [HR.out]
    exact ⟨rfl, fun y hy => (by cases hy), HF7.out⟩
  | some y =>
    obtain ⟨vn8, hm8⟩ := HM7.out y rfl
    have HM8 : Hid _ := hm8
    have y4 := hm8.f4
    have hlen := fun ty => hm8.mout.map.len Tryz.underlying64 ty
    rw [show Maps.size (datG entFV y.1) = y.1.length by simp [datG, Maps.size]] at hlen
    have hlen0 := hlen 3
    by_cases hgt : y.1.length > 256
    · have hgz : (256 : Int) < (y.1.length : Int) := by omega
      have HR : Hid (allE o a b P = none) := by unfold Hid; rw [HA2.out]; show (if y.1.length > 256 then none else some y) = none; rw [if_pos hgt]
      clear hm8
      go_wp2_with fail
      go_ret
      rw [HR.out]
      exact ⟨rfl, fun y hy => (by cases hy), HF7.out⟩
    · have hgz : ¬ (256 : Int) < (y.1.length : Int) := by omega
      have HR : Hid (allE o a b P = some y) := by unfold Hid; rw [HA2.out]; show (if y.1.length > 256 then none else some y) = some y; rw [if_neg hgt]
      clear hm8
      go_wp2_with fail
      go_ret
      rw [HR.out]
      exact ⟨rfl, fun z hz => by cases hz; exact ⟨_, _, _, HM8.out⟩, HF7.out⟩
end Go.Proofs.YtalpfoomkhhgnaaGreatDoor
