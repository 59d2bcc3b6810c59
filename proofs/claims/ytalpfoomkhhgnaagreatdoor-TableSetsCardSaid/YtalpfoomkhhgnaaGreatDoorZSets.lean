/- marlaw16.TableSets: whatever the input, the law returns true, and the input reads as it did: its row's statement and its tied card. Conditions: what the row lists: the library's variables hold what the program's text lays. -/
import Derived.Test.YtalpfoomkhhgnaaGreatDoorZaj

set_option linter.unusedVariables false
set_option linter.unusedSimpArgs false

/-! marlaw16.TableSets: whatever the input, the law returns true, and the input reads as it did: its row's statement and its tied card. Conditions: what the row lists: the library's variables hold what the program's text lays. -/
namespace Go.Proofs.YtalpfoomkhhgnaaGreatDoor.tableSets
open Go Go.ChangeShapes Go.WideShapes Go.ChangeAt Go.RowKit Go.Deep

set_option maxRecDepth 100000 in
theorem contract (H : Type) (enc : TypeId × Value → H) (W : World) (base : Nat) (args : Array Value) (ds gs : List (DataW H)) (before : List MemPlace)
    (hval : ∀ (j : Nat) t v, Tryz.f3.params[j]? = some t → args[j]? = some v → Value.okWide Tryz.prog W .any base t v)
    (hW : DataW.Whole enc Tryz.prog Tryz.f3.params.toList Rows.tableSetsSpec.vars false W args.toList ds gs before)
    (hsz : (DataW.weightsEach Tryz.prog (Tryz.f3.params.toList ++ (OpenSpec.ofChange Rows.tableSetsSpec).bare.plain.varTypes Tryz.prog) (ds ++ gs)).all (· ≤ reachBytes) = true)
    (hL : laidMetH Tryz.prog Rows.tableSetsRow.laid W) (hS : W.ShapedOpen Tryz.prog) :
    Calls Tryz.prog 3 args W fun e W' => ∃ v, e = .returned v ∧ Rows.tableSetsSpec.post enc Tryz.prog Tryz.f3 false true false false W args v W' := by
  have hW' := hW
  obtain ⟨p, q, hA0, hV, rfl, hfz, hnd⟩ := hW
  have hA : DataW.TrodAll enc Tryz.prog W 0 (fun _ => true) true Tryz.f3.params.toList args.toList ds p := hA0
  obtain ⟨rfl, rfl⟩ := trodVars_none hV
  clear hA0
  simp only [List.append_nil] at hW'
  have hE : Env W := env_of hS
  have hES : EnvS W := envS_of (by rw [MakeChecks.laidMetH_plain _ _ _ (by kernel_rfl)] at hL; exact hL) hS
  letI : Inhabited BaseW := ⟨⟨W⟩⟩
  have hBW : baseW = W := rfl
  have hBE : Ext baseW W := Ext.refl W
  have hAll := hA
  have hlt : ∀ x ∈ p, x.block < W.heap.size := fun x hx => by simpa using hW'.lt x (by simpa using hx)
  rw [Tryz.params3] at hA hval hsz
  obtain ⟨v0, vs0, d0, ds0, p0, q0, ha0, hd0, hp0, h0, hA⟩ := trodAll_cons hA
  obtain ⟨v1, vs1, d1, ds1, p1, q1, ha1, hd1, hp1, h1, hA⟩ := trodAll_cons hA
  obtain ⟨v2, vs2, d2, ds2, p2, q2, ha2, hd2, hp2, h2, hA⟩ := trodAll_cons hA
  obtain ⟨v3, vs3, d3, ds3, p3, q3, ha3, hd3, hp3, h3, hA⟩ := trodAll_cons hA
  obtain ⟨v4, vs4, d4, ds4, p4, q4, ha4, hd4, hp4, h4, hA⟩ := trodAll_cons hA
  obtain ⟨hn0, hn1, hn2⟩ := trodAll_nil hA
  subst hn0 hn1 hn2
  subst hp4 hd4 ha4
  subst hp3 hd3 ha3
  subst hp2 hd2 ha2
  subst hp1 hd1 ha1
  subst hp0 hd0
  obtain rfl : args = #[v0, v1, v2, v3, v4] := by cases args; simp_all
  clear ha0
  have hv0 := hval 0 22 v0 rfl rfl
  obtain ⟨a, ha, hia⟩ := arg_rows (j := 0) hv0 h0 hsz rfl rfl
  have hv1 := hval 1 9 v1 rfl rfl
  obtain ⟨p, rfl⟩ : ∃ l : B8, v1 = S8 l := by obtain ⟨s, rfl⟩ := okWide_string Tryz.underlying9 hv1; exact ⟨s.data.toList, rfl⟩
  have hv2 := hval 2 9 v2 rfl rfl
  obtain ⟨q, rfl⟩ : ∃ l : B8, v2 = S8 l := by obtain ⟨s, rfl⟩ := okWide_string Tryz.underlying9 hv2; exact ⟨s.data.toList, rfl⟩
  have hv3 := hval 3 3 v3 rfl rfl
  obtain ⟨m, rfl, -, -, hw3⟩ := open_int Tryz.underlying3 hv3 h3
  have hm : I64 m := i64_wf hw3
  have hv4 := hval 4 9 v4 rfl rfl
  obtain ⟨id, rfl⟩ : ∃ l : B8, v4 = S8 l := by obtain ⟨s, rfl⟩ := okWide_string Tryz.underlying9 hv4; exact ⟨s.data.toList, rfl⟩
  refine (tableSets_of v0 a p q m id W hE (first16 W hE hES) ha).mono fun e W' ⟨he, hg⟩ => ?_
  subst he
  have harg := trodAll_below laidOut hg hAll hlt (by rw [Tryz.params3]; exact fun t ht => by simp only [List.mem_cons, List.not_mem_nil, or_false] at ht; rcases ht with rfl | rfl | rfl | rfl | rfl <;> exact ⟨by kernel_rfl, of_decide_eq_true (by kernel_rfl)⟩)
  exact ⟨_, rfl, _, _, _, [], _, [], hW', trodAll_mk1 (shut_bool Tryz.underlying4 _), harg, rfl, hg.frame _, fun h => by cases h⟩

theorem laid_met (os : Os) : laidMetH Tryz.prog Rows.tableSetsRow.laid ((World.laidAll Tryz.prog os Rows.tableSetsRow.laid).forCall (fun _ _ => 0) ⟨#[], #[.slice none 0 0, .string ⟨#[]⟩, .string ⟨#[]⟩, .int .i64 0, .string ⟨#[]⟩], []⟩).memory := by
  rw [MakeChecks.laidMetH_plain _ _ _ (by kernel_rfl)]
  exact laidMet_laidAll _ (by kernel_rfl) (by kernel_rfl)
theorem reads (os : Os) {H : Type} (enc : TypeId × Value → H) : ∃ places, DataW.whole enc Tryz.prog ((World.laidAll Tryz.prog os Rows.tableSetsRow.laid).forCall (fun _ _ => 0) ⟨#[], #[.slice none 0 0, .string ⟨#[]⟩, .string ⟨#[]⟩, .int .i64 0, .string ⟨#[]⟩], []⟩).memory Tryz.f3.params.toList Rows.tableSetsSpec.vars false #[.slice none 0 0, .string ⟨#[]⟩, .string ⟨#[]⟩, .int .i64 0, .string ⟨#[]⟩].toList 8 = some ([.nil, .lit (.string []), .lit (.string []), .lit (.int .i64 0), .lit (.string [])], [], places) :=
  ⟨[], by kernel_rfl⟩

set_option maxRecDepth 100000 in
theorem lifted (os : Os) (started : os.Started) (H : Type) (enc : TypeId × Value → H) (F : Stop.Interp) :
    ReturnsInHanded {} Tryz.checked os 3 .any ((OpenSpec.ofChange Rows.tableSetsSpec).preRow enc Tryz.prog Tryz.f3 Rows.tableSetsRow.domain false Rows.tableSetsRow.laid) (((OpenSpec.ofChange Rows.tableSetsSpec).at F).post enc Tryz.prog Tryz.f3 false true false false) := by
  obtain ⟨places, hx⟩ := reads os enc
  refine returnsInHanded_of_row (C := Tryz.checked) (s := OpenSpec.ofChange Rows.tableSetsSpec) own started (by kernel_rfl) Tryz.func3
    (witness_row_at (enc := enc) (C := Tryz.checked) false (World.laidAll Tryz.prog os Rows.tableSetsRow.laid) #[.slice none 0 0, .string ⟨#[]⟩, .string ⟨#[]⟩, .int .i64 0, .string ⟨#[]⟩] (World.laidAll_os _ _ _) (by kernel_rfl) (by kernel_rfl) (by kernel_rfl)
      (OpenSpec.preRow_of_cond 8 hx (by kernel_rfl) (fun k hk => by cases hk) (by kernel_rfl) (laid_met os))) ?_
  intro W base args ds gs before hval hW _ _ hsz hL hS _
  exact contract H enc W base args ds gs before hval hW hsz hL hS

theorem k_wf : Rows.tableSetsRow.wf (OpenSpec.ofChange Rows.tableSetsSpec) = true := by kernel_rfl
theorem k_mr : mapsRowed Tryz.prog = true := by kernel_rfl
theorem k_rr : Tryz.f3.params.all (Tryz.prog.readableRec ·) = true := by kernel_rfl
theorem k_ip : Tryz.prog.inPlace 3 = Rows.tableSetsRow.inPlace := by kernel_rfl
theorem k_uf : Tryz.prog.unfollowed 3 = Rows.tableSetsRow.unfollowed := by kernel_rfl
theorem k_rc : Tryz.prog.recurses 3 = Rows.tableSetsRow.recurses := by kernel_rfl
theorem k_vn : Tryz.prog.varsNamed 3 = Rows.tableSetsRow.named := by kernel_rfl
theorem k_pk : Tryz.prog.plainKeys = Rows.tableSetsRow.plainKeys := by kernel_rfl
theorem k_sh : Tryz.prog.stopsHeard = true := by kernel_rfl
theorem k_me : Tryz.prog.mayEnter = true := by kernel_rfl
theorem k_lf : Tryz.prog.liftsFinal = Rows.tableSetsRow.lifted := by kernel_rfl
set_option maxRecDepth 100000 in
theorem closed0 : joinedFacts Tryz.prog 3 Tryz.f3 Rows.tableSetsSpec Rows.tableSetsRow = true := by
  unfold joinedFacts
  rw [k_wf, laidOut, k_mr, k_rr, k_ip, k_uf, k_rc, k_vn, k_pk, k_sh, k_me, k_lf]
  simp only [beq_self_eq_true, Bool.true_and, Bool.and_true]
  kernel_rfl
set_option maxRecDepth 100000 in
theorem closed : joinedFacts Tryz.pinned.checked.prog 3 Tryz.f3 (OpenSpec.ofChange Rows.tableSetsSpec).bare Rows.tableSetsRow = true := closed0
set_option maxRecDepth 100000 in
theorem isInst : Tryz.f3.isInstance Tryz.pinned.checked.prog Rows.tableSetsRow.origin Rows.tableSetsRow.targs := of_decide_eq_true (by kernel_rfl)
set_option maxRecDepth 100000 in
theorem isWrap : Tryz.f3.isWrapper Tryz.pinned.checked.prog Rows.tableSetsRow.wrapper Rows.tableSetsRow.mainSum := by unfold Func.isWrapper; first | (rw [if_pos (by decide +kernel)]; kernel_rfl) | (rw [if_neg (by decide +kernel)]; exact ⟨rfl, rfl⟩)
set_option maxRecDepth 100000 in
theorem said : Rows.TableSetsSaid :=
  OpenClaim.holds_of_cond 3 Tryz.f3 rfl rfl rfl rfl rfl rfl rfl ⟨rfl, rfl, rfl, rfl, rfl⟩ rfl rfl rfl rfl rfl (by kernel_rfl) Tryz.func3 closed
    isInst isWrap
    (fun os started H enc _ F => by rw [OpenClaim.pre_eq_preRow]; exact lifted os started H enc F)

theorem plain (f : FuncId) (fn : Func) (hf : Tryz.pinned.checked.prog.funcNamed "marline/marlaw16.TableSets" = some f) (hfn : Tryz.pinned.checked.prog.funcs[f]? = some fn) :
    false = Tryz.pinned.checked.prog.looks [] ∧ ∀ (j : Nat) t, fn.params[j]? = some t → Tryz.pinned.checked.prog.wantsStandIn t = false := by
  obtain rfl : f = 3 := Option.some.inj ((show Tryz.prog.funcNamed "marline/marlaw16.TableSets" = some 3 by kernel_rfl).symm.trans hf) |>.symm
  obtain rfl : fn = Tryz.f3 := (Option.some.inj (Tryz.func3.symm.trans hfn)).symm
  refine ⟨by kernel_rfl, fun j t ht => ?_⟩
  rw [Tryz.params3] at ht
  have hm : t ∈ [22, 9, 9, 3, 9] := by simpa using Array.mem_of_getElem? ht
  simp only [List.mem_cons, List.not_mem_nil, or_false] at hm
  rcases hm with rfl | rfl | rfl | rfl | rfl
  · exact (show Tryz.prog.wantsStandIn 22 = false by kernel_rfl)
  · exact (show Tryz.prog.wantsStandIn 9 = false by kernel_rfl)
  · exact (show Tryz.prog.wantsStandIn 9 = false by kernel_rfl)
  · exact (show Tryz.prog.wantsStandIn 3 = false by kernel_rfl)
  · exact (show Tryz.prog.wantsStandIn 9 = false by kernel_rfl)

/-- The card. -/
theorem card : Rows.TableSetsCardSaid :=
  Claim7.holds_tied_plain_at .later [] _ _ _ _ said (fun _ h => by cases h) (by kernel_rfl) (fun _ h => by cases h) tableSets_row_tie rfl ⟨rfl, rfl⟩ (by kernel_rfl) rfl plain (by kernel_rfl)

end Go.Proofs.YtalpfoomkhhgnaaGreatDoor.tableSets
