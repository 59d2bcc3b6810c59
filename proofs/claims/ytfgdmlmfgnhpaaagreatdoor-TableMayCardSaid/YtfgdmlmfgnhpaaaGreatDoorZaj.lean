/- scan.entries, scan.paths, marref16.Paths: what they answer. Conditions: as each theorem states. -/
import Derived.Test.YtfgdmlmfgnhpaaaGreatDoorZai
import Derived.Lib.AppendStr
import Derived.Test.YtfgdmlmfgnhpaaaGreatDoorZag
import Derived.Deep.DeepCutAuto
import Derived.Test.YtfgdmlmfgnhpaaaGreatDoorZah
import Derived.Test.YtfgdmlmfgnhpaaaGreatDoorZaf
import Derived.Deep.Upon

set_option linter.unusedVariables false
set_option linter.unusedSimpArgs false

/-! obj: may an object be. Conditions: as each theorem states. -/
namespace Go.Proofs.YtfgdmlmfgnhpaaaGreatDoor
open Go Go.RowKit
set_option linter.unusedVariables false
set_option linter.unusedSimpArgs false
set_option linter.unusedSectionVars false

/-- An object whose texts are short. -/
structure ObSmall (o : Ob) : Prop where
  items : ItSmall o.items
  pars : ∀ s ∈ o.parents, s.length ≤ 10000000
  tree : o.tree.length ≤ 10000000
  msg : o.msg.length ≤ 10000000
theorem cellsAt8 {w : World} {g : Nat} {v0 v1 v2 v3 v4 v5 v6 v7 : Value} {t : TypeId} {fr : Nat × Nat} (h : w.heap[g]? = some (.cells #[v0, v1, v2, v3, v4, v5, v6, v7] t fr)) :
    w.cell? ⟨g, 0, none⟩ = some v0 ∧ w.cell? ⟨g, 1, none⟩ = some v1 ∧ w.cell? ⟨g, 2, none⟩ = some v2 ∧ w.cell? ⟨g, 3, none⟩ = some v3 ∧ w.cell? ⟨g, 4, none⟩ = some v4 ∧ w.cell? ⟨g, 5, none⟩ = some v5 ∧ w.cell? ⟨g, 6, none⟩ = some v6 ∧ w.cell? ⟨g, 7, none⟩ = some v7 := by
  simp [World.cell?, h]

set_option maxRecDepth 100000 in
set_option maxHeartbeats 8000000 in
theorem oMay_any (v : Value) (o : Ob) (w : World) (hv : IsOb w v o) (hs : ObSmall o) :
    Calls Tryz.prog 193 #[v] w fun e w' => e = .returned (.bool (mayO o)) ∧ Ext w w' := by
  obtain ⟨vd, vi, vp, rfl, hd, hi, hp⟩ := hv
  obtain ⟨wa, hwa⟩ : ∃ wa, wa = w.alloc (.cells #[.int .i64 o.kind, vd, vi, S8 o.tree, vp, .int .i64 o.stamp, .int .i64 o.author, S8 o.msg] 64) := ⟨_, rfl⟩
  have hxa : Ext w wa := by rw [hwa]; exact (Ext.refl _).alloc _
  have hba : wa.heap[w.heap.size]? = some (.cells #[.int .i64 o.kind, vd, vi, S8 o.tree, vp, .int .i64 o.stamp, .int .i64 o.author, S8 o.msg] 64 (0, 0)) := by rw [hwa]; exact alloc_at _ _
  obtain ⟨gb, hgb⟩ : ∃ gb, w.heap.size = gb := ⟨_, rfl⟩
  have HNC : Hid (∀ w', Ext w w' → Calls Tryz.prog 248 #[obV o vd vi vp] w' fun e w'' => e = .returned (.bool (noCom o)) ∧ Ext w' w'') := fun w' hx => noCommit_any o vd vi vp w' (hp.ext hx)
  have HIT : Hid (∀ w', Ext w w' → Calls Tryz.prog 249 #[vi] w' fun e w'' => e = .returned (.bool (itemsOk o.items)) ∧ Ext w' w'') := fun w' hx => mayItems_any vi o.items w' (hi.ext hx) hs.items
  have HPA : Hid (∀ w', Ext w w' → Calls Tryz.prog 250 #[vp] w' fun e w'' => e = .returned (.bool (parsOk o.parents)) ∧ Ext w' w'') := fun w' hx => mayParents_any vp o.parents w' (hp.ext hx) hs.pars
  obtain ⟨da, dc, rfl, -, -, -, -⟩ := hd.get
  obtain ⟨ia, ic, rfl, -, -, -, -⟩ := hi.get
  obtain ⟨htr, hms⟩ : o.tree.length ≤ 10000000 ∧ o.msg.length ≤ 10000000 := ⟨hs.tree, hs.msg⟩
  obtain ⟨kind, data, items, tree, parents, stamp, author, msg⟩ := o
  obtain ⟨r, hr⟩ : ∃ r, mayO ⟨kind, data, items, tree, parents, stamp, author, msg⟩ = r := ⟨_, rfl⟩
  rw [hr]
  have HR : Hid _ := hr
  obtain ⟨nc, hnc⟩ : ∃ c, noCom ⟨kind, data, items, tree, parents, stamp, author, msg⟩ = c := ⟨_, rfl⟩
  rw [hnc] at HNC
  have HNB : Hid _ := hnc
  unfold obV at HNC ⊢
  dsimp only at HNC HIT HPA hba hwa htr hms ⊢
  obtain ⟨io, hio⟩ : ∃ c, itemsOk items = c := ⟨_, rfl⟩
  rw [hio] at HIT
  have HIO : Hid _ := hio
  obtain ⟨po, hpo⟩ : ∃ c, parsOk parents = c := ⟨_, rfl⟩
  rw [hpo] at HPA
  have HPO : Hid _ := hpo
  rw [hgb] at hba
  obtain ⟨c0, c1, c2, c3, c4, c5, c6, c7⟩ := cellsAt8 hba
  have HXA : Hid (Ext w wa) := hxa
  have HWA : Hid _ := hwa
  have HBA : Hid _ := hba
  clear hd hi hp hs hr hnc hio hpo hxa hwa hba
  go_enter Tryz.func193, Tryz.ntmps193
  go_upto_region 1 with fail
  rw [← HWA.out]
  by_cases k1 : kind = 1
  · have b1 : (kind == 1) = true := by simpa using k1
    have HRE : Hid (r = (decide (data.length ≤ 20000) && ((items.length == 0) && nc))) := by rw [← HR.out, ← HNB.out]; unfold Hid mayO; rw [if_pos k1]
    clear k1
    by_cases h2 : (data.length : Int) ≤ 20000
    · by_cases h3 : items.length = 0
      · have b3 : ((items.length : Int) == 0) = true := by rw [beq_iff_eq]; omega
        have HF : Hid (r = nc) := by unfold Hid; rw [HRE.out, h3, decide_eq_true (by omega : data.length ≤ 20000)]; rfl
        clear h3
        go_wp2_with fail
        go_at_call 248
        refine (HNC.out wa HXA.out).mono ?_
        rintro e w1 ⟨rfl, hx1⟩
        have HX1 : Hid (Ext w w1) := HXA.out.trans hx1
        clear hx1
        go_wp2
        go_ret
        exact ⟨ret_b HF.out.symm, HX1.out⟩
      · have b3 : ((items.length : Int) == 0) = false := by rw [beq_eq_false_iff_ne]; omega
        have HF : Hid (r = false) := by unfold Hid; rw [HRE.out, show (items.length == 0) = false by simpa using h3]; simp
        clear h3
        go_wp2
        go_ret
        exact ⟨ret_b HF.out.symm, HXA.out⟩
    · have HF : Hid (r = false) := by unfold Hid; rw [HRE.out, decide_eq_false (by omega : ¬ data.length ≤ 20000)]; rfl
      go_wp2
      go_ret
      exact ⟨ret_b HF.out.symm, HXA.out⟩
  have b1 : (kind == 1) = false := by simpa using k1
  by_cases k2 : kind = 2
  · have b2 : (kind == 2) = true := by simpa using k2
    have HRE : Hid (r = ((data.length == 0) && (io && nc))) := by rw [← HR.out, ← HNB.out, ← HIO.out]; unfold Hid mayO; rw [if_neg k1, if_pos k2]
    clear k1 k2
    by_cases h2 : data.length = 0
    · have b3 : ((data.length : Int) == 0) = true := by rw [beq_iff_eq]; omega
      have HRE2 : Hid (r = (io && nc)) := by unfold Hid; rw [HRE.out, h2]; rfl
      clear h2
      go_wp2_with fail
      go_at_call 249
      refine (HIT.out wa HXA.out).mono ?_
      rintro e w1 ⟨rfl, hx1⟩
      have HX1 : Hid (Ext w w1) := HXA.out.trans hx1
      have HB1 : Hid _ := Ext.row hx1 HBA.out
      obtain ⟨d0, d1, d2, d3, d4, d5, d6, d7⟩ := cellsAt8 HB1.out
      clear hx1
      cases io with
      | true =>
        have HF : Hid (r = nc) := by unfold Hid; rw [HRE2.out]; rfl
        go_wp2_with fail
        go_at_call 248
        refine (HNC.out w1 HX1.out).mono ?_
        rintro e w2 ⟨rfl, hx2⟩
        have HX2 : Hid (Ext w w2) := HX1.out.trans hx2
        clear hx2
        go_wp2
        go_ret
        exact ⟨ret_b HF.out.symm, HX2.out⟩
      | false =>
        have HF : Hid (r = false) := by unfold Hid; rw [HRE2.out]; rfl
        go_wp2
        go_ret
        exact ⟨ret_b HF.out.symm, HX1.out⟩
    · have b3 : ((data.length : Int) == 0) = false := by rw [beq_eq_false_iff_ne]; omega
      have HF : Hid (r = false) := by unfold Hid; rw [HRE.out, show (data.length == 0) = false by simpa using h2]; rfl
      clear h2
      go_wp2
      go_ret
      exact ⟨ret_b HF.out.symm, HXA.out⟩
  have b2 : (kind == 2) = false := by simpa using k2
  by_cases k3 : kind = 3
  · have b3 : (kind == 3) = true := by simpa using k3
    have HRE : Hid (r = ((data.length == 0) && ((items.length == 0) && (validB tree && (po && ((decide (0 ≤ stamp) && decide (stamp ≤ 1099511627776)) && ((decide (0 ≤ author) && decide (author ≤ 255)) && msgOk msg))))))) := by rw [← HR.out, ← HPO.out]; unfold Hid mayO; rw [if_neg k1, if_neg k2, if_pos k3]
    clear k1 k2 k3
    by_cases h2 : data.length = 0
    case neg =>
      have b4 : ((data.length : Int) == 0) = false := by rw [beq_eq_false_iff_ne]; omega
      have HF : Hid (r = false) := by unfold Hid; rw [HRE.out, show (data.length == 0) = false by simpa using h2]; rfl
      clear h2
      go_wp2
      go_ret
      exact ⟨ret_b HF.out.symm, HXA.out⟩
    have b4 : ((data.length : Int) == 0) = true := by rw [beq_iff_eq]; omega
    by_cases h3 : items.length = 0
    case neg =>
      have b5 : ((items.length : Int) == 0) = false := by rw [beq_eq_false_iff_ne]; omega
      have HF : Hid (r = false) := by unfold Hid; rw [HRE.out, show (items.length == 0) = false by simpa using h3]; simp
      clear h2 h3
      go_wp2
      go_ret
      exact ⟨ret_b HF.out.symm, HXA.out⟩
    have b5 : ((items.length : Int) == 0) = true := by rw [beq_iff_eq]; omega
    obtain ⟨vt, hvt⟩ : ∃ vt, validB tree = vt := ⟨_, rfl⟩
    have HVT : Hid _ := hvt
    have HRE2 : Hid (r = (vt && (po && ((decide (0 ≤ stamp) && decide (stamp ≤ 1099511627776)) && ((decide (0 ≤ author) && decide (author ≤ 255)) && msgOk msg))))) := by unfold Hid; rw [HRE.out, h2, h3, hvt]; rfl
    clear h2 h3 hvt
    go_wp2_with fail
    go_at_call 31
    refine (valid_any tree wa (by omega)).mono ?_
    rw [HVT.out]
    rintro e w1 ⟨rfl, hx1⟩
    have HX1 : Hid (Ext w w1) := HXA.out.trans hx1
    have HB1 : Hid _ := Ext.row hx1 HBA.out
    obtain ⟨d0, d1, d2, d3, d4, d5, d6, d7⟩ := cellsAt8 HB1.out
    clear hx1
    cases vt with
    | false =>
      have HF : Hid (r = false) := by unfold Hid; rw [HRE2.out]; rfl
      go_wp2
      go_ret
      exact ⟨ret_b HF.out.symm, HX1.out⟩
    | true =>
    go_wp2_with fail
    go_at_call 250
    refine (HPA.out w1 HX1.out).mono ?_
    rintro e w2 ⟨rfl, hx2⟩
    have HX2 : Hid (Ext w w2) := HX1.out.trans hx2
    obtain ⟨e0, e1, e2, e3, e4, e5, e6, e7⟩ := cellsAt8 (Ext.row hx2 HB1.out)
    clear hx2
    cases po with
    | false =>
      have HF : Hid (r = false) := by unfold Hid; rw [HRE2.out]; rfl
      go_wp2
      go_ret
      exact ⟨ret_b HF.out.symm, HX2.out⟩
    | true =>
    by_cases h6 : (0 : Int) ≤ stamp
    case neg =>
      have HF : Hid (r = false) := by unfold Hid; rw [HRE2.out, decide_eq_false h6]; rfl
      go_wp2
      go_ret
      exact ⟨ret_b HF.out.symm, HX2.out⟩
    by_cases h7 : stamp ≤ 1099511627776
    case neg =>
      have HF : Hid (r = false) := by unfold Hid; rw [HRE2.out, decide_eq_false h7]; simp
      go_wp2
      go_ret
      exact ⟨ret_b HF.out.symm, HX2.out⟩
    by_cases h8 : (0 : Int) ≤ author
    case neg =>
      have HF : Hid (r = false) := by unfold Hid; rw [HRE2.out, decide_eq_false h8]; simp
      go_wp2
      go_ret
      exact ⟨ret_b HF.out.symm, HX2.out⟩
    by_cases h9 : author ≤ 255
    case neg =>
      have HF : Hid (r = false) := by unfold Hid; rw [HRE2.out, decide_eq_false h9]; simp
      go_wp2
      go_ret
      exact ⟨ret_b HF.out.symm, HX2.out⟩
    have HF : Hid (r = msgOk msg) := by unfold Hid; rw [HRE2.out, decide_eq_true h6, decide_eq_true h7, decide_eq_true h8, decide_eq_true h9]; rfl
    go_wp2_with fail
    go_at_call 251
    refine (mayMsg_any msg w2 (by omega)).mono ?_
    rintro e w3 ⟨rfl, rfl⟩
    go_wp2
    go_ret
    exact ⟨ret_b HF.out.symm, HX2.out⟩
  · have b3 : (kind == 3) = false := by simpa using k3
    have HF : Hid (r = false) := by rw [← HR.out]; unfold Hid mayO; rw [if_neg k1, if_neg k2, if_neg k3]
    clear k1 k2 k3
    go_wp2
    go_ret
    exact ⟨ret_b HF.out.symm, HXA.out⟩

end Go.Proofs.YtfgdmlmfgnhpaaaGreatDoor

/-! obj: a number, a hash behind bytes. Conditions: as each theorem states. -/
namespace Go.Proofs.YtfgdmlmfgnhpaaaGreatDoor
open Go Go.RowKit
set_option linter.unusedVariables false
set_option linter.unusedSimpArgs false
set_option linter.unusedSectionVars false

abbrev U8s (l : B8) : List Value := l.map fun x => .int .u8 x.toNat
theorem u8s_app (l r : B8) : U8s (l ++ r) = U8s l ++ U8s r := List.map_append
theorem grown_far {w w1 w2 : World} {g : Option Nat} (h : Ext w w1) (k : w1.grownBy w2 g) : w.grownBy w2 g := (h.grown.but g).trans k
/-- Where a slice that grew lies: where it lay, or in a new block. -/
def Near (w : World) (v v' : Value) : Prop := ∀ k, v'.ownBlock = some k → v.ownBlock = some k ∨ w.heap.size ≤ k
theorem Near.of {w : World} {v v' : Value} (h : v'.ownBlock = v.ownBlock ∨ v'.ownBlock = some w.heap.size) : Near w v v' := fun k hk => by
  rcases h with h | h
  · exact .inl (h.symm.trans hk)
  · rw [h] at hk; cases hk; exact .inr (Nat.le_refl _)
abbrev Ow (base : Nat) (w : World) (v : Value) (l : B8) : Prop := w.ownsRow base 5 1 v l.length (U8s l)
theorem appB_run {w : World} (base : Nat) (ty : TypeId) (v : Value) (l : B8) (hown : Ow base w v l) (xv : Value) (r : B8) (hrow : IsBytes w xv r) (hl : l.length + r.length ≤ 1000000000) (hbase : base ≤ w.heap.size) :
    ∃ v' w', (Builtin.append_ #[45, 45] 45 #[v, xv]).run Tryz.prog w = .ok v' w' ∧ Ow base w' v' (l ++ r) ∧ w.grownBy w' v.ownBlock ∧ Near w v v' := by
  obtain ⟨v', w', hr, h2, h3, h4⟩ := appS_run 45 5 (.int .u8 0) 1 1 Tryz.underlying45 info_u8 rfl (by omega) base v l.length _ hown xv r.length (U8s r) hrow (by simp) (fun u hu => by obtain ⟨_, _, rfl⟩ := List.mem_map.1 hu; rfl) (by omega) (by omega) hbase
  exact ⟨v', w', hr, by unfold Ow; rw [List.length_append, u8s_app]; exact h2, h3, Near.of h4⟩
theorem appT_run {w : World} (base : Nat) (v : Value) (l : B8) (hown : Ow base w v l) (r : B8) (hl : l.length + r.length ≤ 1000000000) (hbase : base ≤ w.heap.size) :
    ∃ v' w', (Builtin.append_ #[45, 9] 45 #[v, S8 r]).run Tryz.prog w = .ok v' w' ∧ Ow base w' v' (l ++ r) ∧ w.grownBy w' v.ownBlock ∧ Near w v v' := by
  obtain ⟨i0, hi, hz0, hz1, hz2⟩ := info_parts info_u8
  have hsz : (⟨r.toArray⟩ : ByteArray).size = r.length := by simp [ByteArray.size]
  have key : ∀ b, w.ownsRow b 5 1 v l.length (U8s l) → b ≤ w.heap.size → ∃ v' w', (Builtin.append_ #[45, 9] 45 #[v, S8 r]).run Tryz.prog w = .ok v' w' ∧ w'.ownsRow b 5 1 v' (l ++ r).length (U8s (l ++ r)) ∧ w.grownBy w' v.ownBlock := fun b hb hbs => by
    obtain ⟨v', w', hr, h1, h2, -⟩ := Lib.run_append_own_string (P := Tryz.prog) w b 45 9 45 5 i0 Tryz.underlying45 Tryz.underlying9 hi hz0 hz1 hz2 v l.length _ hb ⟨r.toArray⟩ (by rw [hsz]; unfold maxLen; omega) (by rw [hsz]; omega) hbs
    rw [hsz] at h1
    exact ⟨v', w', hr, by rw [List.length_append, u8s_app]; exact h1, h2⟩
  obtain ⟨v', w', hr, h1, h2⟩ := key base hown hbase
  refine ⟨v', w', hr, h1, h2, ?_⟩
  have h0 := hown
  rcases hown.2 with ⟨rfl, hn⟩ | ⟨g, cap, cur, rfl, hbg, hg, hnc, hcm, hcs, htake⟩
  · have hle : l.length = 0 := hn
    have hl0 : l = [] := List.eq_nil_of_length_eq_zero hle
    subst hl0
    obtain ⟨v2, w2, hr2, h3, -⟩ := key w.heap.size (World.ownsRow_nil _ _ _ _) (Nat.le_refl _)
    rw [hr] at hr2
    cases hr2
    exact fun k hk => .inr (h3.lt k hk).1
  · by_cases hroom : l.length + r.length ≤ cap
    · have hcs' : cur.size = cap := by simpa using hcs
      have hr2 := Lib.run_append_room_string (P := Tryz.prog) w 45 9 45 5 i0 Tryz.underlying45 Tryz.underlying9 hi hz1 g l.length cap cur hg ⟨r.toArray⟩ (by rw [hsz]; exact hroom) (by omega)
      rw [hr] at hr2
      cases hr2
      exact fun k hk => .inl hk
    · have holds : ∀ j u, (U8s l)[j]? = some u → w.cell? ((⟨g, 0, none⟩ : Addr).add j) = some u := h0.cells (g := g) rfl
      have hr2 := Lib.run_append_grow_string (P := Tryz.prog) w 45 9 45 5 i0 (.int .u8 0) Tryz.underlying45 Tryz.underlying9 hi hz0 ⟨g, 0, none⟩ l.length cap (U8s l) (by rw [hz1]; simp) holds ⟨r.toArray⟩ (by rw [hsz]; unfold maxLen at hcm; omega) (by rw [hsz]; omega) (by rw [hz2, hsz]; exact growslice_fits (by omega) (by omega))
      rw [hr] at hr2
      cases hr2
      exact fun k hk => by cases hk; exact .inr (Nat.le_refl _)
section
variable {ops : Array Oper} {rest : List Oper} {o : Oper} {a : Act} {Q : Exit → Act → World → Prop} {w : World}
/-- append of bytes, of whatever slice. -/
theorem app_bs (hgd : o.guard = none) (s x : Operand) (ho : o.op = .call { callee := .builtin .append, args := #[s, x], argTypes := #[45, 45] }) (hty : o.type = 45)
    (base : Nat) (v : Value) (l : B8) (hs : a.eval s = v) (hown : Ow base w v l)
    (xv : Value) (r : B8) (hx : a.eval x = xv) (hrow : IsBytes w xv r) (hl : l.length + r.length ≤ 1000000000) (hbase : base ≤ w.heap.size)
    (h : ∀ v' w', Ow base w' v' (l ++ r) → w.grownBy w' v.ownBlock → Near w v v' → wpList Tryz.prog ops Q rest (a.put o.dst v') w') : wpList Tryz.prog ops Q (o :: rest) a w := by
  refine wpList_plain hgd fun K hK => ?_
  obtain ⟨v', w', hr, h2, h3, h4⟩ := appB_run base 45 v l hown xv r hrow hl hbase
  unfold Oper.wp execOp
  simp only [ho, hty, resolve, invoke, builtin, Sem.run_bind, Sem.run_pure, Result.andThen_ok, List.map_toArray, List.map_cons, List.map_nil, hs, hx, hr]
  exact hK _ _ (h v' w' h2 h3 h4)
/-- append of a text. -/
theorem app_tx (hgd : o.guard = none) (s x : Operand) (ho : o.op = .call { callee := .builtin .append, args := #[s, x], argTypes := #[45, 9] }) (hty : o.type = 45)
    (base : Nat) (v : Value) (l : B8) (hs : a.eval s = v) (hown : Ow base w v l)
    (r : B8) (hx : a.eval x = S8 r) (hl : l.length + r.length ≤ 1000000000) (hbase : base ≤ w.heap.size)
    (h : ∀ v' w', Ow base w' v' (l ++ r) → w.grownBy w' v.ownBlock → Near w v v' → wpList Tryz.prog ops Q rest (a.put o.dst v') w') : wpList Tryz.prog ops Q (o :: rest) a w := by
  refine wpList_plain hgd fun K hK => ?_
  obtain ⟨v', w', hr, h2, h3, h4⟩ := appT_run base v l hown r hl hbase
  unfold Oper.wp execOp
  simp only [ho, hty, resolve, invoke, builtin, Sem.run_bind, Sem.run_pure, Result.andThen_ok, List.map_toArray, List.map_cons, List.map_nil, hs, hx, hr]
  exact hK _ _ (h v' w' h2 h3 h4)
end
theorem Near.far {w w1 : World} {v v' : Value} (h : Near w1 v v') (hx : w.heap.size ≤ w1.heap.size) : Near w v v' := fun k hk => by
  rcases h k hk with h | h
  · exact .inl h
  · exact .inr (Nat.le_trans hx h)

set_option maxRecDepth 100000 in
set_option maxHeartbeats 1000000 in
theorem number_any (v : Value) (l : B8) (n : Int) (base : Nat) (w : World) (hown : Ow base w v l) (hb : base ≤ w.heap.size) (hl : l.length ≤ 100000000) :
    Calls Tryz.prog 194 #[v, .int .i64 n] w fun e w' => ∃ v', e = .returned v' ∧ Ow base w' v' (l ++ (putW n).1) ∧ w.grownBy w' v.ownBlock ∧ Near w v v' := by
  have HO : Hid _ := hown
  have hpl : (putW n).1.length ≤ 9 := by
    unfold putW
    split
    · simp
    · exact putN_len9 (by omega)
  have hva : v = .slice none 0 0 ∨ ∃ g c, v = .slice (some ⟨g, 0, none⟩) l.length c := by
    rcases hown.2 with ⟨h, -⟩ | ⟨g, c, cur, h, -⟩
    · exact .inl h
    · exact .inr ⟨g, c, h⟩
  clear hown
  obtain ⟨vb, vn, vc, rfl⟩ : ∃ b n c, v = .slice b n c := by
    rcases hva with h | ⟨g, c, h⟩
    · exact ⟨_, _, _, h⟩
    · exact ⟨_, _, _, h⟩
  clear hva
  have HC : Hid _ := wPut_any n w
  obtain ⟨⟨p, e⟩, hq⟩ : ∃ q, putW n = q := ⟨_, rfl⟩
  rw [hq] at hpl HC ⊢
  clear hq
  go_enter Tryz.func194, Tryz.ntmps194
  go_wp2_with fail
  go_at_call 252
  refine Calls.mono HC.out ?_
  rintro e9 w1 ⟨⟨x, rfl, hx⟩, hx1⟩
  have HXB : Hid (IsBytes w1 x p) := by unfold Hid IsBytes; exact Row.of_owns hx (by omega)
  have HX1 : Hid (Ext w w1) := hx1
  have hsz1 := hx1.size
  clear hx hx1 HC
  try dsimp only at hpl ⊢
  go_wp2_with (at_builtin; go_must (refine app_bs rfl _ _ rfl rfl base _ l rfl (owns_ext HO.out HX1.out) _ p rfl HXB.out (by omega) (by omega) ?_; intro v' w2 hown2 hg2 hn2))
  go_ret
  exact ⟨_, rfl, hown2, grown_far HX1.out hg2, hn2.far hsz1⟩

set_option maxRecDepth 100000 in
set_option maxHeartbeats 1000000 in
theorem hashO_any (v : Value) (l id : B8) (base : Nat) (w : World) (hown : Ow base w v l) (hb : base ≤ w.heap.size) (hl : l.length ≤ 100000000) (hv : validB id = true) :
    Calls Tryz.prog 195 #[v, S8 id] w fun e w' => ∃ v', e = .returned v' ∧ Ow base w' v' (l ++ rawH id) ∧ w.grownBy w' v.ownBlock ∧ Near w v v' := by
  have HO : Hid _ := hown
  obtain ⟨h32, -⟩ := raw_of hv
  obtain ⟨vb, vn, vc, rfl⟩ : ∃ b n c, v = .slice b n c := by
    rcases hown.2 with ⟨h, -⟩ | ⟨g, c, cur, h, -⟩
    · exact ⟨_, _, _, h⟩
    · exact ⟨_, _, _, h⟩
  clear hown
  have hil : id.length ≤ 30000000 := by
    unfold validB at hv
    cases hu : unhexM id with
    | none => rw [hu] at hv; cases hv
    | some b =>
      rw [hu] at hv
      have h9 := (unhex_len id hu).1
      have : b.length = 32 := by simpa using hv
      omega
  have hun : unhexM id = some (rawH id) := by
    unfold validB at hv
    unfold rawH
    cases hu : unhexM id with
    | none => rw [hu] at hv; cases hv
    | some b => rfl
  have hc := unhex_any id w hil
  unfold UnhexPost at hc
  rw [hun] at hc
  dsimp only at hc
  have HC : Hid _ := hc
  obtain ⟨p, hp⟩ : ∃ p, rawH id = p := ⟨_, rfl⟩
  rw [hp] at h32 HC ⊢
  clear hc hp hun hv
  go_enter Tryz.func195, Tryz.ntmps195
  go_wp2_with fail
  go_at_call 116
  refine Calls.mono HC.out ?_
  rintro e9 w1 ⟨⟨x, rfl, hx⟩, hx1⟩
  have HXB : Hid (IsBytes w1 x p) := hx
  have HX1 : Hid (Ext w w1) := hx1
  have hsz1 := hx1.size
  clear hx hx1 HC
  go_wp2_with (at_builtin; go_must (refine app_bs rfl _ _ rfl rfl base _ l rfl (owns_ext HO.out HX1.out) _ p rfl HXB.out (by omega) (by omega) ?_; intro v' w2 hown2 hg2 hn2))
  go_ret
  exact ⟨_, rfl, hown2, grown_far HX1.out hg2, hn2.far hsz1⟩

end Go.Proofs.YtfgdmlmfgnhpaaaGreatDoor

/-! A slice of bytes of the call's own that grows step by step inside a region that draws its order. Conditions: as each theorem states. -/
namespace Go.Proofs.YtfgdmlmfgnhpaaaGreatDoor
open Go Go.RowKit
set_option linter.unusedVariables false
set_option linter.unusedSimpArgs false
set_option linter.unusedSectionVars false

/-- What the steps za, zb, zc have made of v0, and the literal zl. -/
structure ChJ (w0 : World) (base : Nat) (v0 : Value) (c : UInt8) (l0 l1 l2 l3 : B8) (zl za zb zc : Option Value) (w : World) : Prop where
  ext : w0.grownBy w v0.ownBlock
  cur : ∃ cv cl, ((za = none ∧ zb = none ∧ zc = none ∧ cv = v0 ∧ cl = l0) ∨ (za = some cv ∧ zb = none ∧ zc = none ∧ cl = l1) ∨ (za ≠ none ∧ zb = some cv ∧ zc = none ∧ cl = l2) ∨ (za ≠ none ∧ zb ≠ none ∧ zc = some cv ∧ cl = l3)) ∧
    Ow base w cv cl ∧ Near w0 v0 cv ∧ ∀ u, zl = some u → ∃ g, u = .slice (some ⟨g, 0, none⟩) 1 1 ∧ w.heap[g]? = some (.cells #[.int .u8 c.toNat] 5 (0, 0)) ∧ cv.ownBlock ≠ some g
section
variable {w0 w w' : World} {base : Nat} {v0 v' : Value} {c : UInt8} {l0 l1 l2 l3 : B8} {zl za zb zc : Option Value}
theorem ChJ.start (h : Ow base w0 v0 l0) (hx : Ext w0 w) : ChJ w0 base v0 c l0 l1 l2 l3 none none none none w :=
  ⟨hx.grown.but _, v0, l0, .inl ⟨rfl, rfl, rfl, rfl, rfl⟩, owns_ext h hx, fun k hk => .inl hk, fun u hu => by cases hu⟩
theorem ChJ.cell {a : Addr} {x : Value} (h : ChJ w0 base v0 c l0 l1 l2 l3 zl za zb zc w) (hne : v0.ownBlock ≠ some a.block) (hc : w0.cell? a = some x) : w.cell? a = some x := by
  rw [World.cell?_of_block (h.ext.block _ (World.block_lt_of_cell? _ _ hc) (fun e => hne e.symm))]
  exact hc
/-- One step on. -/
theorem chJ_step {cv : Value} {g : Nat} (hx : w0.grownBy w v0.ownBlock) (hn0 : Near w0 v0 cv) (hg : w.grownBy w' cv.ownBlock) (hn : Near w cv v') : w0.grownBy w' v0.ownBlock ∧ Near w0 v0 v' ∧ (∀ g o, w.heap[g]? = some o → cv.ownBlock ≠ some g → w'.heap[g]? = some o ∧ v'.ownBlock ≠ some g) := by
  refine ⟨hx.andThen hg (fun j hj => ?_), fun k hk => ?_, fun g o ho hne => ?_⟩
  · rcases hn0 j hj with h | h
    · exact .inr h
    · exact .inl h
  · rcases hn k hk with h | h
    · exact hn0 k h
    · exact .inr (Nat.le_trans hx.size h)
  · have hlt := (Array.getElem?_eq_some_iff.1 ho).1
    refine ⟨(hg.block g hlt (fun e => hne e.symm)).trans ho, fun e => ?_⟩
    rcases hn g e with h | h
    · exact hne h
    · omega
theorem ChJ.ownZ (h : ChJ w0 base v0 c l0 l1 l2 l3 zl none zb zc w) : Ow base w v0 l0 := by
  obtain ⟨cv, cl, hs, ho, -⟩ := h.cur
  rcases hs with ⟨-, -, -, rfl, rfl⟩ | ⟨h, -⟩ | ⟨h, -⟩ | ⟨h, -⟩
  · exact ho
  · cases h
  · exact absurd rfl h
  · exact absurd rfl h
theorem ChJ.setA (h : ChJ w0 base v0 c l0 l1 l2 l3 zl none zb zc w) (ho : Ow base w' v' l1) (hg : w.grownBy w' v0.ownBlock) (hn : Near w v0 v') : ChJ w0 base v0 c l0 l1 l2 l3 zl (some v') zb zc w' := by
  obtain ⟨cv, cl, hs, -, hn0, hl⟩ := h.cur
  rcases hs with ⟨-, h2, h3, rfl, rfl⟩ | ⟨h, -⟩ | ⟨h, -⟩ | ⟨h, -⟩
  · obtain ⟨s1, s2, s3⟩ := chJ_step (g := 0) h.ext hn0 hg hn
    refine ⟨s1, v', l1, .inr (.inl ⟨rfl, h2, h3, rfl⟩), ho, s2, fun u hu => ?_⟩
    obtain ⟨g, e, hr, hne⟩ := hl u hu
    exact ⟨g, e, (s3 g _ hr hne).1, (s3 g _ hr hne).2⟩
  · cases h
  · exact absurd rfl h
  · exact absurd rfl h
theorem ChJ.ownA {u : Value} (h : ChJ w0 base v0 c l0 l1 l2 l3 zl za none zc w) (hk : za = some u) : Ow base w u l1 := by
  obtain ⟨cv, cl, hs, ho, -⟩ := h.cur
  rcases hs with ⟨h1, -⟩ | ⟨h1, -, -, rfl⟩ | ⟨-, h1, -⟩ | ⟨-, h1, -⟩
  · rw [hk] at h1; cases h1
  · rw [hk] at h1; cases h1; exact ho
  · cases h1
  · exact absurd rfl h1
theorem ChJ.setB {u : Value} (h : ChJ w0 base v0 c l0 l1 l2 l3 zl za none zc w) (hk : za = some u) (ho : Ow base w' v' l2) (hg : w.grownBy w' u.ownBlock) (hn : Near w u v') : ChJ w0 base v0 c l0 l1 l2 l3 zl za (some v') zc w' := by
  obtain ⟨cv, cl, hs, -, hn0, hl⟩ := h.cur
  rcases hs with ⟨h1, -⟩ | ⟨h1, -, h3, rfl⟩ | ⟨-, h1, -⟩ | ⟨-, h1, -⟩
  · rw [hk] at h1; cases h1
  · rw [hk] at h1
    cases h1
    obtain ⟨s1, s2, s3⟩ := chJ_step (g := 0) h.ext hn0 hg hn
    refine ⟨s1, v', l2, .inr (.inr (.inl ⟨by rw [hk]; simp, rfl, h3, rfl⟩)), ho, s2, fun u hu => ?_⟩
    obtain ⟨g, e, hr, hne⟩ := hl u hu
    exact ⟨g, e, (s3 g _ hr hne).1, (s3 g _ hr hne).2⟩
  · cases h1
  · exact absurd rfl h1
theorem ChJ.ownB {u : Value} (h : ChJ w0 base v0 c l0 l1 l2 l3 zl za zb none w) (hk : zb = some u) : Ow base w u l2 := by
  obtain ⟨cv, cl, hs, ho, -⟩ := h.cur
  rcases hs with ⟨-, h1, -⟩ | ⟨-, h1, -⟩ | ⟨-, h1, -, rfl⟩ | ⟨-, -, h1, -⟩
  · rw [hk] at h1; cases h1
  · rw [hk] at h1; cases h1
  · rw [hk] at h1; cases h1; exact ho
  · cases h1
theorem ChJ.nearB {u : Value} (h : ChJ w0 base v0 c l0 l1 l2 l3 zl za zb none w) (hk : zb = some u) : Near w0 v0 u := by
  obtain ⟨cv, cl, hs, -, hn, -⟩ := h.cur
  rcases hs with ⟨-, h1, -⟩ | ⟨-, h1, -⟩ | ⟨-, h1, -, rfl⟩ | ⟨-, -, h1, -⟩
  · rw [hk] at h1; cases h1
  · rw [hk] at h1; cases h1
  · rw [hk] at h1; cases h1; exact hn
  · cases h1
theorem ChJ.setC {u : Value} (h : ChJ w0 base v0 c l0 l1 l2 l3 zl za zb none w) (hk : zb = some u) (ho : Ow base w' v' l3) (hg : w.grownBy w' u.ownBlock) (hn : Near w u v') : ChJ w0 base v0 c l0 l1 l2 l3 zl za zb (some v') w' := by
  obtain ⟨cv, cl, hs, -, hn0, hl⟩ := h.cur
  rcases hs with ⟨-, h1, -⟩ | ⟨-, h1, -⟩ | ⟨h0, h1, -, rfl⟩ | ⟨-, -, h1, -⟩
  · rw [hk] at h1; cases h1
  · rw [hk] at h1; cases h1
  · rw [hk] at h1
    cases h1
    obtain ⟨s1, s2, s3⟩ := chJ_step (g := 0) h.ext hn0 hg hn
    refine ⟨s1, v', l3, .inr (.inr (.inr ⟨h0, by rw [hk]; simp, rfl, rfl⟩)), ho, s2, fun u hu => ?_⟩
    obtain ⟨g, e, hr, hne⟩ := hl u hu
    exact ⟨g, e, (s3 g _ hr hne).1, (s3 g _ hr hne).2⟩
  · cases h1
theorem ChJ.ownC {u : Value} (h : ChJ w0 base v0 c l0 l1 l2 l3 zl za zb zc w) (hk : zc = some u) : Ow base w u l3 := by
  obtain ⟨cv, cl, hs, ho, -⟩ := h.cur
  rcases hs with ⟨-, -, h1, -⟩ | ⟨-, -, h1, -⟩ | ⟨-, -, h1, -⟩ | ⟨-, -, h1, rfl⟩
  · rw [hk] at h1; cases h1
  · rw [hk] at h1; cases h1
  · rw [hk] at h1; cases h1
  · rw [hk] at h1; cases h1; exact ho
theorem ChJ.setL (h : ChJ w0 base v0 c l0 l1 l2 l3 none za zb zc w) : ChJ w0 base v0 c l0 l1 l2 l3 (some (.slice (some ⟨w.heap.size, 0, none⟩) 1 1)) za zb zc (w.alloc (.cells #[.int .u8 c.toNat] 5)) := by
  obtain ⟨cv, cl, hs, ho, hn0, hl⟩ := h.cur
  have hx : Ext w (w.alloc (.cells #[.int .u8 c.toNat] 5)) := (Ext.refl w).alloc _
  refine ⟨h.ext.trans (hx.grown.but _), cv, cl, hs, owns_ext ho hx, hn0, fun u hu => ?_⟩
  cases hu
  exact ⟨_, rfl, alloc_at _ _, fun e => by have := (ho.lt _ e).2; omega⟩
theorem ChJ.lit {u : Value} (h : ChJ w0 base v0 c l0 l1 l2 l3 zl za zb zc w) (hk : zl = some u) : IsBytes w u [c] := by
  obtain ⟨cv, cl, -, -, -, hl⟩ := h.cur
  obtain ⟨g, rfl, hr, -⟩ := hl u hk
  exact Row.new hr (by decide) _ rfl
theorem ChJ.size (h : ChJ w0 base v0 c l0 l1 l2 l3 zl za zb zc w) : w0.heap.size ≤ w.heap.size := h.ext.size
theorem ChJ.appA {u : Value} (h : ChJ w0 base v0 c l0 (l0 ++ [c]) l2 l3 zl none zb zc w) (hk : zl = some u) (hb : base ≤ w0.heap.size) (hl : l0.length ≤ 100000000) :
    ∃ v' w', (Builtin.append_ #[45, 45] 45 #[v0, u]).run Tryz.prog w = .ok v' w' ∧ ChJ w0 base v0 c l0 (l0 ++ [c]) l2 l3 zl (some v') zb zc w' := by
  obtain ⟨v', w', hr, h1, h2, h3⟩ := appB_run base 45 v0 l0 h.ownZ u [c] (h.lit hk) (by simp; omega) (Nat.le_trans hb h.size)
  exact ⟨v', w', hr, h.setA h1 h2 h3⟩
theorem ChJ.appB {u x : Value} (h : ChJ w0 base v0 c l0 l1 (l1 ++ [c]) l3 zl za none zc w) (hk : zl = some x) (ha : za = some u) (hb : base ≤ w0.heap.size) (hl : l1.length ≤ 100000000) :
    ∃ v' w', (Builtin.append_ #[45, 45] 45 #[u, x]).run Tryz.prog w = .ok v' w' ∧ ChJ w0 base v0 c l0 l1 (l1 ++ [c]) l3 zl za (some v') zc w' := by
  obtain ⟨v', w', hr, h1, h2, h3⟩ := appB_run base 45 u l1 (h.ownA ha) x [c] (h.lit hk) (by simp; omega) (Nat.le_trans hb h.size)
  exact ⟨v', w', hr, h.setB ha h1 h2 h3⟩
theorem ChJ.appT (h : ChJ w0 base v0 c l0 (l0 ++ l1) l2 l3 zl none zb zc w) (hb : base ≤ w0.heap.size) (hl : l0.length ≤ 100000000) (hl1 : l1.length ≤ 100000000) :
    ∃ v' w', (Builtin.append_ #[45, 9] 45 #[v0, S8 l1]).run Tryz.prog w = .ok v' w' ∧ ChJ w0 base v0 c l0 (l0 ++ l1) l2 l3 zl (some v') zb zc w' := by
  obtain ⟨v', w', hr, h1, h2, h3⟩ := appT_run base v0 l0 h.ownZ l1 (by omega) (Nat.le_trans hb h.size)
  exact ⟨v', w', hr, h.setA h1 h2 h3⟩
end
theorem rel_append2 {c : Prop} [Decidable c] {ev : Operand → Value} {R : Value → World → Prop} {o : Oper} {w : World} (s x : Operand) (t u : TypeId) {v xv v' : Value} {w' : World} (hw : c) (ho : o.op = .call { callee := .builtin .append, args := #[s, x], argTypes := #[t, u] })
    (hs : ev s = v) (hx : ev x = xv) (hr : (Builtin.append_ #[t, u] o.type #[v, xv]).run Tryz.prog w = .ok v' w') (h : R v' w') :
    if c then relUpon Tryz.prog R ((execOp ev o).run Tryz.prog w) else R undef w := by
  rw [if_pos hw]
  unfold execOp
  simp only [ho, resolve, invoke, builtin, Sem.run_bind, Sem.run_pure, Result.andThen_ok, List.map_toArray, List.map_cons, List.map_nil, hs, hx, hr]
  exact h

end Go.Proofs.YtfgdmlmfgnhpaaaGreatDoor

/-! obj.Encode. Conditions: as each theorem states. -/
namespace Go.Proofs.YtfgdmlmfgnhpaaaGreatDoor
open Go Go.RowKit
set_option linter.unusedVariables false
set_option linter.unusedSimpArgs false
set_option linter.unusedSectionVars false

theorem enc_len {x : Itm} (h : itemOk x = true) : (encItem x).length ≤ 200 := by
  unfold itemOk at h
  simp only [Bool.and_eq_true, decide_eq_true_eq] at h
  have h1 := name_len h.2.2.1
  have h2 := (raw_of h.2.2.2).1
  have h3 := putN_len9 (n := x.name.length) (by unfold maxW; omega)
  unfold encItem
  simp only [List.length_cons, List.length_append]
  omega
theorem encs_len : ∀ (l : List Itm) (k : Nat), (∀ x ∈ l, itemOk x = true) → ((l.take k).flatMap encItem).length ≤ 200 * k
  | l, 0, _ => by simp
  | [], k + 1, _ => by simp
  | x :: l, k + 1, h => by
    have h1 := enc_len (h x (by simp))
    have h2 := encs_len l k (fun y hy => h y (by simp [hy]))
    rw [List.take_succ_cons, List.flatMap_cons, List.length_append]
    omega
theorem mode_u8 {m : Int} (h1 : 1 ≤ m) (h2 : m ≤ 4) : IntKind.u8.wrap m = (((UInt8.ofNat m.toNat).toNat : Nat) : Int) := by
  rw [IntKind.wrap_u8, UInt8.toNat_ofNat']
  omega
theorem put_int (n : Int) (h0 : 0 ≤ n) (h : n ≤ maxW) : (putW n).1 = putN n.toNat := by
  unfold putW
  rw [if_neg (by omega)]
theorem raws_len : ∀ (l : List B8) (k : Nat), l.all validB = true → ((l.take k).flatMap rawH).length ≤ 32 * k
  | l, 0, _ => by simp
  | [], k + 1, _ => by simp
  | x :: l, k + 1, h => by
    simp only [List.all_cons, Bool.and_eq_true] at h
    have h1 := (raw_of h.1).1
    have h2 := raws_len l k h.2
    rw [List.take_succ_cons, List.flatMap_cons, List.length_append]
    omega
theorem put_nat (n : Nat) (h : n ≤ maxW) : (putW (n : Int)).1 = putN n := by
  unfold putW
  rw [if_neg (by omega)]
  rfl

set_option maxRecDepth 100000 in
set_option maxHeartbeats 16000000 in
theorem oEnc_any (v : Value) (o : Ob) (w : World) (hv : IsOb w v o) (hs : ObSmall o) :
    Calls Tryz.prog 126 #[v] w fun e w' => (∃ u, e = .returned (.tuple #[u, .int .i64 (encodeM o).2]) ∧ Ow w.heap.size w' u (encodeM o).1) ∧ Ext w w' := by
  have hv0 := hv
  obtain ⟨vd, vi, vp, rfl, hd, hi, hp⟩ := hv
  obtain ⟨wa, hwa⟩ : ∃ wa, wa = w.alloc (.cells #[.int .i64 o.kind, vd, vi, S8 o.tree, vp, .int .i64 o.stamp, .int .i64 o.author, S8 o.msg] 64) := ⟨_, rfl⟩
  have hxa : Ext w wa := by rw [hwa]; exact (Ext.refl _).alloc _
  have hba : wa.heap[w.heap.size]? = some (.cells #[.int .i64 o.kind, vd, vi, S8 o.tree, vp, .int .i64 o.stamp, .int .i64 o.author, S8 o.msg] 64 (0, 0)) := by rw [hwa]; exact alloc_at _ _
  obtain ⟨gb, hgb⟩ : ∃ gb, w.heap.size = gb := ⟨_, rfl⟩
  have HMY : Hid (Calls Tryz.prog 193 #[obV o vd vi vp] wa fun e w' => e = .returned (.bool (mayO o)) ∧ Ext wa w') := oMay_any _ o wa (hv0.ext hxa) hs
  have HD : Hid (IsBytes w vd o.data) := hd
  have HI : Hid (IsItms w vi o.items) := hi
  have HP : Hid (IsStrs w vp o.parents) := hp
  obtain ⟨da, dc, rfl, -, -, -, -⟩ := hd.get
  obtain ⟨ia, ic, rfl, i1, i2, i3, hig⟩ := hi.get
  have HIG : Hid _ := hig
  obtain ⟨pa, pc, rfl, p1, p2, p3, hpg⟩ := hp.get
  have HPG : Hid _ := hpg
  obtain ⟨m0, hm0⟩ : ∃ m, mayO o = m := ⟨_, rfl⟩
  rw [hm0] at HMY
  have HM0 : Hid _ := hm0
  unfold obV at HMY
  rw [hgb] at hba
  have HBA : Hid _ := hba
  have HXA : Hid (Ext w wa) := hxa
  have HWA : Hid _ := hwa
  obtain ⟨c0, c1, c2, c3, c4, c5, c6, c7⟩ := cellsAt8 hba
  obtain ⟨⟨qb, qe⟩, hq⟩ : ∃ q, encodeM o = q := ⟨_, rfl⟩
  rw [hq]
  have HQ : Hid _ := hq
  clear hv0 hd hi hp hig hpg hs hm0 hba hxa hwa hq
  go_enter Tryz.func126, Tryz.ntmps126
  go_upto_region 1 with fail
  rw [← HWA.out]
  go_wp2_with fail
  go_at_call 193
  refine Calls.mono HMY.out ?_
  rintro e9 w1 ⟨rfl, hx1⟩
  have HX1 : Hid (Ext w w1) := HXA.out.trans hx1
  have HB1 : Hid _ := Ext.row hx1 HBA.out
  have hgb1 : gb < w1.heap.size := (Array.getElem?_eq_some_iff.1 HB1.out).1
  obtain ⟨d0, d1, d2, d3, d4, d5, d6, d7⟩ := cellsAt8 HB1.out
  clear hx1 HMY
  cases m0 with
  | false =>
    obtain ⟨rfl, rfl⟩ : qb = [] ∧ qe = 1 := by
      have h9 := HQ.out
      unfold encodeM at h9
      rw [HM0.out] at h9
      exact ⟨(Prod.mk.inj h9).1.symm, (Prod.mk.inj h9).2.symm⟩
    go_wp2
    go_ret2
    exact ⟨⟨_, rfl, World.ownsRow_nil _ _ _ _⟩, HX1.out⟩
  | true =>
    obtain ⟨hqb, rfl⟩ : qb = encO o ∧ qe = 0 := by
      have h9 := HQ.out
      unfold encodeM at h9
      rw [HM0.out, if_pos rfl] at h9
      exact ⟨(Prod.mk.inj h9).1.symm, (Prod.mk.inj h9).2.symm⟩
    have HQB : Hid _ := hqb
    clear hqb HQ
    clear c0 c1 c2 c3 c4 c5 c6 c7
    obtain ⟨kind, data, items, tree, parents, stamp, author, msg⟩ := o
    have hk := may_kind HM0.out
    have HQB2 : Hid (qb = encO ⟨kind, data, items, tree, parents, stamp, author, msg⟩) := HQB.out
    clear HQB
    dsimp only at hk d0 d1 d2 d3 d4 d5 d6 d7 i1 i2 p1 p2 HIG HPG HD HI HP HB1
    rcases hk with rfl | rfl | rfl
    · have hdl : data.length ≤ 20000 := by
        have h9 := HM0.out
        unfold mayO at h9
        rw [if_pos rfl] at h9
        simp only [Bool.and_eq_true, decide_eq_true_eq] at h9
        exact h9.1
      have HEO : Hid (qb = [1] ++ data) := HQB2.out
      have HOW : Hid (Ow w1.heap.size (w1.alloc (.cells #[.int .u8 1] 5)) (.slice (some ⟨w1.heap.size, 0, none⟩) 1 1) [1]) := World.ownsRow_lit w1 _ 1 (Nat.le_refl _) (by decide) rfl
      go_wp2_with (at_builtin; go_must (refine app_bs rfl _ _ rfl rfl w1.heap.size _ [1] rfl HOW.out _ data rfl (IsBytes.ext HD.out (HX1.out.alloc _)) (by simp; omega) (by simp) ?_; intro v' w2 hown2 hg2 hn2))
      go_ret2
      exact ⟨⟨_, rfl, by rw [HEO.out]; exact hown2.mono HX1.out.size⟩, HX1.out.trans (owns_ext_app ((Ext.refl w1).alloc _) HOW.out hg2)⟩
    · have hmi : items.length ≤ 256 ∧ ∀ x ∈ items, itemOk x = true := by
        have h9 := HM0.out
        unfold mayO at h9
        rw [if_neg (show ¬ (2 : Int) = 1 by decide), if_pos rfl] at h9
        simp only [Bool.and_eq_true, itemsOk, List.all_eq_true, decide_eq_true_eq] at h9
        exact ⟨h9.2.1.2.2, h9.2.1.1⟩
      obtain ⟨hil, hio⟩ := hmi
      have HIO : Hid _ := hio
      have HEO : Hid (qb = [2] ++ putN items.length ++ items.flatMap encItem) := by
        unfold Hid
        rw [HQB2.out]
        show UInt8.ofNat 2 :: (putN items.length ++ items.flatMap encItem) = _
        simp
      have hpl := putN_len9 (n := items.length) (by unfold maxW; omega)
      have HOW : Hid (Ow w1.heap.size (w1.alloc (.cells #[.int .u8 2] 5)) (.slice (some ⟨w1.heap.size, 0, none⟩) 1 1) [2]) := World.ownsRow_lit w1 _ 1 (Nat.le_refl _) (by decide) rfl
      clear hio HQB2
      go_wp2_with fail
      go_at_call 194
      refine (number_any _ [2] items.length w1.heap.size _ HOW.out (by simp) (by simp)).mono ?_
      rintro e9 w2 ⟨v2, rfl, hown2, hg2, hn2⟩
      rw [put_nat _ (by unfold maxW; omega)] at hown2
      have HOW2 : Hid (Ow w1.heap.size w2 v2 ([2] ++ putN items.length)) := hown2
      have HX2 : Hid (Ext w1 w2) := owns_ext_app ((Ext.refl w1).alloc _) HOW.out hg2
      have e2 := HX2.out.cell d2
      clear hown2 hg2 hn2 HOW
      go_wp2_with fail
      go_loopw [4, 34] (fun v i wr => ∃ k : Nat, k ≤ items.length ∧ i = .int .i64 k ∧ Hid (Ow w1.heap.size wr v ([2] ++ putN items.length ++ (items.take k).flatMap encItem)) ∧ Hid (Ext w1 wr)) (fun _ i _ => items.length - (intOf i).toNat)
      case atStart => exact ⟨0, Nat.zero_le _, rfl, by unfold Hid; simpa using HOW2.out, HX2⟩
      case round =>
      obtain ⟨k, hk, rfl, HO, HX⟩ := hrel
      by_cases hlt : k < items.length
      · obtain ⟨x, hx⟩ : ∃ x, items[k]? = some x := ⟨_, List.getElem?_eq_getElem hlt⟩
        have hxo := HIO.out x (List.mem_of_getElem? hx)
        have hell := encs_len items k HIO.out
        have HTK : Hid ((items.take (k + 1)).flatMap encItem = (items.take k).flatMap encItem ++ encItem x) := by
          unfold Hid
          rw [List.take_add_one, hx]
          simp
        obtain ⟨bb, oo, hia, hc0, hc1, hc2⟩ := HIG.out k x hx
        subst hia
        have y0 := HX.out.cell (HX1.out.cell hc0)
        have y1 := HX.out.cell (HX1.out.cell hc1)
        have y2 := HX.out.cell (HX1.out.cell hc2)
        obtain ⟨L0, hL0⟩ : ∃ l, [2] ++ putN items.length ++ (items.take k).flatMap encItem = l := ⟨_, rfl⟩
        have hL0l : L0.length ≤ 60000 := by rw [← hL0]; simp only [List.length_append, List.length_cons, List.length_nil]; omega
        have HL0 : Hid _ := hL0
        rw [hL0] at HO
        clear hL0 hell
        obtain ⟨mode, name, id⟩ := x
        have hxo2 := hxo
        unfold itemOk at hxo2
        simp only [Bool.and_eq_true, decide_eq_true_eq] at hxo2
        obtain ⟨hm1, hm2, hnb, hvb⟩ := hxo2
        have hnl := name_len hnb
        have hmod := mode_u8 hm1 hm2
        obtain ⟨cm, hcm⟩ : ∃ c, UInt8.ofNat mode.toNat = c := ⟨_, rfl⟩
        rw [hcm] at hmod
        have HVB : Hid _ := hvb
        have HEI : Hid (encItem ⟨mode, name, id⟩ = [cm] ++ putN name.length ++ (name ++ rawH id)) := by
          unfold Hid encItem
          rw [hcm]
          simp
        dsimp only at y0 y1 y2
        clear hxo hx hc0 hc1 hc2 hm1 hm2 hnb hvb hcm
        go_upto_region 12 with fail
        obtain ⟨w4, hw4⟩ : ∃ w4, w4 = wr.alloc (.cells #[.int .i64 mode, S8 name, S8 id] 209) := ⟨_, rfl⟩
        have hx4 : Ext wr w4 := by rw [hw4]; exact (Ext.refl _).alloc _
        have hb4 : w4.heap[wr.heap.size]? = some (.cells #[.int .i64 mode, S8 name, S8 id] 209 (0, 0)) := by rw [hw4]; exact alloc_at _ _
        rw [← hw4]
        obtain ⟨gi, hgi⟩ : ∃ gi, wr.heap.size = gi := ⟨_, rfl⟩
        have HO4 : Hid (Ow w1.heap.size w4 u4 L0) := owns_ext HO.out hx4
        have HGI : Hid (u4.ownBlock ≠ some gi) := fun e => by have := (HO.out.lt _ e).2; omega
        have HGL : Hid (gi < w4.heap.size) := by
          have := (Array.getElem?_eq_some_iff.1 hb4).1
          unfold Hid
          omega
        rw [hgi] at hb4 ⊢
        obtain ⟨z0, z1, z2⟩ := cellsAt3 hb4
        have HX4 : Hid (Ext w1 w4) := HX.out.trans hx4
        have hs4 := HX4.out.size
        clear hw4 hx4 hb4 hgi y0 y1 y2 HO HX
        apply wp_region_inv 10 (fun z w' => ChJ w4 w1.heap.size u4 cm L0 (L0 ++ [cm]) (L0 ++ [cm] ++ putN name.length) [] (z 4) (z 5) (z 9) none w') [false, false, false, false, true, true, false, false, false, true] [_, _, _, .int .u8 cm.toNat, undef, undef, _, _, _, undef] [none, none, none, none, none, none, none, none, none, none] [[], [], [1], [2], [3], [0, 4], [], [6], [7], [5, 8]] (by kernel_rfl) (by kernel_rfl) rfl
        · exact ChJ.start HO4.out ⟨rfl, rfl, rfl, Nat.le_refl _, fun _ _ => rfl⟩
        · simp (maxSteps := 1000000) only [oblI, stepI, knowsI, getP, mixP, List.getD_cons_zero, List.getD_cons_succ, Bool.false_eq_true, if_false, if_true, and_true, true_and, forall_const, Nat.zero_add, Nat.reduceAdd, List.take_succ_cons, List.take_zero, fillFrom, Act.put, List.setIfInBounds_toArray, List.set_cons_zero, List.set_cons_succ]
          refine ⟨?_, ?_, ?_, ?_, ?_, ?_, ?_, ?_, ?_, ?_⟩
          · intro xs z wq hj R hR
            have f0 := hj.cell HGI.out z0; have f1 := hj.cell HGI.out z1
            go_simp
            exact hR _ _ hj rfl
          · intro xs z wq hj R hR
            have f0 := hj.cell HGI.out z0; have f1 := hj.cell HGI.out z1
            go_simp
            exact hR _ _ hj rfl
          · intro xs z wq hj hk R hR
            have f0 := hj.cell HGI.out z0; have f1 := hj.cell HGI.out z1
            go_simp
            exact hR _ _ hj rfl
          · intro xs z wq hj hk R hR
            have f0 := hj.cell HGI.out z0; have f1 := hj.cell HGI.out z1
            go_simp
            exact hR _ _ hj rfl
          · intro xs z wq hj hz hk R hR
            rw [hz] at hj
            go_simp
            exact hR _ _ hj.setL
          · intro xs z wq hj hz hk R hR
            obtain ⟨hk0, hk1⟩ := hk
            rw [hz] at hj
            obtain ⟨v', w', hr, hj'⟩ := hj.appA hk1 hs4 (by omega)
            apply rel_append (.tmp 38) (.tmp 42) 45 (v := xs 0) (xv := xs 4) (v' := v') (w' := w')
            · rfl
            · rfl
            · rfl
            · rfl
            · rw [hk0]; exact hr
            · exact hR _ _ hj'
          · intro xs z wq hj R hR
            have f0 := hj.cell HGI.out z0; have f1 := hj.cell HGI.out z1
            go_simp
            exact hR _ _ hj rfl
          · intro xs z wq hj hk R hR
            have f0 := hj.cell HGI.out z0; have f1 := hj.cell HGI.out z1
            go_simp
            exact hR _ _ hj rfl
          · intro xs z wq hj hk R hR
            have f0 := hj.cell HGI.out z0; have f1 := hj.cell HGI.out z1
            go_simp
            exact hR _ _ hj rfl
          · intro xs z wq hj hz hk R hR
            obtain ⟨hk0, hk1⟩ := hk
            rw [hz] at hj
            go_simp
            exact (number_any (xs 5) (L0 ++ [cm]) name.length w1.heap.size wq (hj.ownA hk0) (Nat.le_trans hs4 hj.size) (by simp; omega)).mono (by rintro e' w' ⟨v', rfl, h1, h2, h3⟩; rw [put_nat _ (by unfold maxW; omega)] at h1; exact ⟨_, rfl, hR _ _ (hj.setB hk0 h1 h2 h3)⟩)
        intro xs w5 hj5 hk
        simp only [zAll, List.getD_cons_zero, List.getD_cons_succ, Bool.false_eq_true, if_false, if_true] at hj5
        simp only [heldI, Nat.zero_add, Nat.reduceAdd, and_true] at hk
        obtain ⟨q0, q1, q2, q3, q6, q7, q8⟩ := hk
        simp (maxSteps := 1000000) only [List.drop_succ_cons, List.drop_zero, Nat.zero_add, Nat.reduceAdd, List.take_succ_cons, List.take_zero, fillFrom, Act.put, List.setIfInBounds_toArray, List.set_cons_zero, List.set_cons_succ, q0, q1, q2, q3, q6, q7, q8]
        clear q0 q1 q2 q3 q6 q7 q8
        generalize xs 4 = x4 at *
        generalize xs 5 = x5 at *
        generalize xs 9 = x9 at *
        have HO5 : Hid (Ow w1.heap.size w5 x9 (L0 ++ [cm] ++ putN name.length)) := hj5.ownB rfl
        have HGI5 : Hid (x9.ownBlock ≠ some gi) := fun e => by
          rcases hj5.nearB rfl gi e with h | h
          · exact HGI.out h
          · have := HGL.out; omega
        have t1 := hj5.cell HGI.out z1
        have t2 := hj5.cell HGI.out z2
        have HX5 : Hid (Ext w1 w5) := Below.grown HX4.out hj5.ext hs4 (fun k hk => (HO4.out.lt k hk).1)
        have hs5 := HX5.out.size
        obtain ⟨L1, hL1⟩ : ∃ l, L0 ++ [cm] ++ putN name.length = l := ⟨_, rfl⟩
        have hL1l : L1.length ≤ 70000 := by
          have h9 := putN_len9 (n := name.length) (by unfold maxW; omega)
          rw [← hL1]
          simp only [List.length_append, List.length_cons, List.length_nil]
          omega
        have HL1 : Hid _ := hL1
        rw [hL1] at HO5
        clear hL1 hj5 z0 z1 z2 HO4 HX4 HGI HGL hs4
        go_upto_region 13 with fail
        apply wp_region_inv 7 (fun z w' => ChJ w5 w1.heap.size x9 0 L1 (L1 ++ name) (L1 ++ name ++ rawH id) [] none (z 3) (z 6) none w') [false, false, false, true, false, false, true] [_, _, _, undef, _, _, undef] [none, none, none, none, none, none, none] [[], [], [1], [0, 2], [], [4], [3, 5]] (by kernel_rfl) (by kernel_rfl) rfl
        · exact ChJ.start HO5.out ⟨rfl, rfl, rfl, Nat.le_refl _, fun _ _ => rfl⟩
        · simp (maxSteps := 1000000) only [oblI, stepI, knowsI, getP, mixP, List.getD_cons_zero, List.getD_cons_succ, Bool.false_eq_true, if_false, if_true, and_true, true_and, forall_const, Nat.zero_add, Nat.reduceAdd, List.take_succ_cons, List.take_zero, fillFrom, Act.put, List.setIfInBounds_toArray, List.set_cons_zero, List.set_cons_succ]
          refine ⟨?_, ?_, ?_, ?_, ?_, ?_, ?_⟩
          · intro xs z wq hj R hR
            have f1 := hj.cell HGI5.out t1; have f2 := hj.cell HGI5.out t2
            go_simp
            exact hR _ _ hj rfl
          · intro xs z wq hj R hR
            have f1 := hj.cell HGI5.out t1; have f2 := hj.cell HGI5.out t2
            go_simp
            exact hR _ _ hj rfl
          · intro xs z wq hj hk R hR
            have f1 := hj.cell HGI5.out t1; have f2 := hj.cell HGI5.out t2
            go_simp
            exact hR _ _ hj rfl
          · intro xs z wq hj hz hk R hR
            obtain ⟨hk0, hk1⟩ := hk
            rw [hz] at hj
            obtain ⟨v', w', hr, hj'⟩ := hj.appT hs5 (by omega) (by omega)
            apply rel_append2 (.tmp 48) (.tmp 50) 45 9 (v := xs 0) (xv := xs 2) (v' := v') (w' := w')
            · rfl
            · rfl
            · rfl
            · rfl
            · rw [hk0, hk1]; exact hr
            · exact hR _ _ hj'
          · intro xs z wq hj R hR
            have f1 := hj.cell HGI5.out t1; have f2 := hj.cell HGI5.out t2
            go_simp
            exact hR _ _ hj rfl
          · intro xs z wq hj hk R hR
            have f1 := hj.cell HGI5.out t1; have f2 := hj.cell HGI5.out t2
            go_simp
            exact hR _ _ hj rfl
          · intro xs z wq hj hz hk R hR
            obtain ⟨hk0, hk1⟩ := hk
            rw [hz] at hj
            go_simp
            exact (hashO_any (xs 3) (L1 ++ name) id w1.heap.size wq (hj.ownA hk0) (Nat.le_trans hs5 hj.size) (by simp; omega) HVB.out).mono (by rintro e' w' ⟨v', rfl, h1, h2, h3⟩; exact ⟨_, rfl, hR _ _ (hj.setB hk0 h1 h2 h3)⟩)
        intro xs w6 hj6 hk
        simp only [zAll, List.getD_cons_zero, List.getD_cons_succ, Bool.false_eq_true, if_false, if_true] at hj6
        simp only [heldI, Nat.zero_add, Nat.reduceAdd, and_true] at hk
        obtain ⟨q0, q1, q2, q4, q5⟩ := hk
        simp (maxSteps := 1000000) only [List.drop_succ_cons, List.drop_zero, Nat.zero_add, Nat.reduceAdd, List.take_succ_cons, List.take_zero, fillFrom, Act.put, List.setIfInBounds_toArray, List.set_cons_zero, List.set_cons_succ, q0, q1, q2, q4, q5]
        clear q0 q1 q2 q4 q5
        generalize xs 3 = x3 at *
        generalize xs 6 = x6 at *
        have HX6 : Hid (Ext w1 w6) := Below.grown HX5.out hj6.ext hs5 (fun k hk => (HO5.out.lt k hk).1)
        have HO6 : Hid (Ow w1.heap.size w6 x6 ([2] ++ putN items.length ++ (items.take (k + 1)).flatMap encItem)) := by
          have h9 := hj6.ownB rfl
          unfold Hid
          rw [HTK.out, HEI.out]
          have e : [2] ++ putN items.length ++ ((items.take k).flatMap encItem ++ ([cm] ++ putN name.length ++ (name ++ rawH id))) = L1 ++ name ++ rawH id := by
            rw [← HL1.out, ← HL0.out]
            simp
          rw [e]
          exact h9
        clear hj6
        go_wp2_with fail
        go_roundw
        case rel => exact ⟨k + 1, by omega, by go_num, HO6, HX6⟩
        case measure => simp [intOf]; omega
      · have hkl : k = items.length := by omega
        have HOF : Hid (Ow w1.heap.size wr u4 qb) := by
          have h9 := HO.out
          rw [hkl, List.take_length] at h9
          unfold Hid
          rw [HEO.out]
          exact h9
        clear hk
        go_wp2
        go_ret2
        exact ⟨⟨_, rfl, HOF.out.mono HX1.out.size⟩, HX1.out.trans HX.out⟩
    · have hmi : validB tree = true ∧ ((parents.all validB = true ∧ parents.length ≤ 2) ∧ ((0 ≤ stamp ∧ stamp ≤ 1099511627776) ∧ ((0 ≤ author ∧ author ≤ 255) ∧ msg.length ≤ 200))) := by
        have h9 := HM0.out
        unfold mayO at h9
        rw [if_neg (show ¬ (3 : Int) = 1 by decide), if_neg (show ¬ (3 : Int) = 2 by decide), if_pos rfl] at h9
        simp only [Bool.and_eq_true, parsOk, msgOk, decide_eq_true_eq] at h9
        exact ⟨h9.2.2.1, ⟨h9.2.2.2.1.1, h9.2.2.2.1.2.2⟩, h9.2.2.2.2.1, h9.2.2.2.2.2.1, h9.2.2.2.2.2.2.2⟩
      obtain ⟨hvt, ⟨hpv, hpl⟩, ⟨hs0, hs1⟩, ⟨ha0, ha1⟩, hml⟩ := hmi
      have HVT : Hid _ := hvt
      have HPV : Hid _ := hpv
      obtain ⟨cp, hcp⟩ : ∃ c, UInt8.ofNat parents.length = c := ⟨_, rfl⟩
      have hcw : IntKind.u8.wrap (parents.length : Int) = (cp.toNat : Int) := by
        rw [← hcp, IntKind.wrap_u8, UInt8.toNat_ofNat']
        omega
      have HEO : Hid (qb = [3] ++ rawH tree ++ [cp] ++ parents.flatMap rawH ++ putN stamp.toNat ++ putN author.toNat ++ putN msg.length ++ msg) := by
        unfold Hid
        rw [HQB2.out, ← hcp]
        show UInt8.ofNat 3 :: (rawH tree ++ (UInt8.ofNat parents.length :: (parents.flatMap rawH ++ (putN stamp.toNat ++ (putN author.toNat ++ (putN msg.length ++ msg)))))) = _
        simp
      have ht32 := (raw_of hvt).1
      clear hvt hpv hcp HQB2
      obtain ⟨wL, hwL⟩ : ∃ wL, wL = w1.alloc (.cells #[.int .u8 3] 5) := ⟨_, rfl⟩
      have hxL : Ext w1 wL := by rw [hwL]; exact (Ext.refl _).alloc _
      have HOW : Hid (Ow w1.heap.size wL (.slice (some ⟨w1.heap.size, 0, none⟩) 1 1) [3]) := by rw [hwL]; exact World.ownsRow_lit w1 _ 1 (Nat.le_refl _) (by decide) rfl
      have HXL : Hid (Ext w1 wL) := hxL
      have l3 := hxL.cell d3
      have l4 := hxL.cell d4
      have hsL := hxL.size
      have HGN : Hid ((Value.slice (some ⟨w1.heap.size, 0, none⟩) 1 1).ownBlock ≠ some gb) := fun e => by
        simp only [Value.ownBlock, Option.some.injEq] at e
        omega
      have HWL : Hid _ := hwL
      clear hxL hwL
      go_upto_region 16 with fail
      rw [← HWL.out]
      apply wp_region_inv 10 (fun z w' => ChJ wL w1.heap.size (.slice (some ⟨w1.heap.size, 0, none⟩) 1 1) cp [3] ([3] ++ rawH tree) ([3] ++ rawH tree ++ [cp]) [] (z 8) (z 3) (z 9) none w') [false, false, false, true, false, false, false, false, true, true] [_, _, _, undef, _, _, _, .int .u8 cp.toNat, undef, undef] [none, none, none, none, none, none, none, none, none, none] [[], [], [1], [0, 2], [], [4], [5], [6], [7], [3, 8]] (by kernel_rfl) (by kernel_rfl) rfl
      · exact ChJ.start HOW.out ⟨rfl, rfl, rfl, Nat.le_refl _, fun _ _ => rfl⟩
      · simp (maxSteps := 1000000) only [oblI, stepI, knowsI, getP, mixP, List.getD_cons_zero, List.getD_cons_succ, Bool.false_eq_true, if_false, if_true, and_true, true_and, forall_const, Nat.zero_add, Nat.reduceAdd, List.take_succ_cons, List.take_zero, fillFrom, Act.put, List.setIfInBounds_toArray, List.set_cons_zero, List.set_cons_succ]
        refine ⟨?_, ?_, ?_, ?_, ?_, ?_, ?_, ?_, ?_, ?_⟩
        · intro xs z wq hj R hR
          have f3 := hj.cell HGN.out l3; have f4 := hj.cell HGN.out l4
          go_simp
          exact hR _ _ hj rfl
        · intro xs z wq hj R hR
          have f3 := hj.cell HGN.out l3; have f4 := hj.cell HGN.out l4
          go_simp
          exact hR _ _ hj rfl
        · intro xs z wq hj hk R hR
          have f3 := hj.cell HGN.out l3; have f4 := hj.cell HGN.out l4
          go_simp
          exact hR _ _ hj rfl
        · intro xs z wq hj hz hk R hR
          obtain ⟨hk0, hk1⟩ := hk
          rw [hz] at hj
          go_simp
          exact (hashO_any _ [3] tree w1.heap.size wq hj.ownZ (Nat.le_trans hsL hj.size) (by simp) HVT.out).mono (by rintro e' w' ⟨v', rfl, h1, h2, h3⟩; exact ⟨_, rfl, hR _ _ (hj.setA h1 h2 h3)⟩)
        · intro xs z wq hj R hR
          have f3 := hj.cell HGN.out l3; have f4 := hj.cell HGN.out l4
          go_simp
          exact hR _ _ hj rfl
        · intro xs z wq hj hk R hR
          have f3 := hj.cell HGN.out l3; have f4 := hj.cell HGN.out l4
          go_simp
          exact hR _ _ hj rfl
        · intro xs z wq hj hk R hR
          have f3 := hj.cell HGN.out l3; have f4 := hj.cell HGN.out l4
          go_simp
          exact hR _ _ hj rfl
        · intro xs z wq hj hk R hR
          have f3 := hj.cell HGN.out l3; have f4 := hj.cell HGN.out l4
          go_simp
          exact hR _ _ hj rfl
        · intro xs z wq hj hz hk R hR
          rw [hz] at hj
          go_simp
          exact hR _ _ hj.setL
        · intro xs z wq hj hz hk R hR
          obtain ⟨hk0, hk1⟩ := hk
          rw [hz] at hj
          obtain ⟨v', w', hr, hj'⟩ := hj.appB hk1 hk0 hsL (by simp; omega)
          apply rel_append (.tmp 60) (.tmp 65) 45 (v := xs 3) (xv := xs 8) (v' := v') (w' := w')
          · rfl
          · rfl
          · rfl
          · rfl
          · exact hr
          · exact hR _ _ hj'
      intro xs w2 hj2 hk
      simp only [zAll, List.getD_cons_zero, List.getD_cons_succ, Bool.false_eq_true, if_false, if_true] at hj2
      simp only [heldI, Nat.zero_add, Nat.reduceAdd, and_true] at hk
      obtain ⟨q0, q1, q2, q4, q5, q6, q7⟩ := hk
      simp (maxSteps := 1000000) only [List.drop_succ_cons, List.drop_zero, Nat.zero_add, Nat.reduceAdd, List.take_succ_cons, List.take_zero, fillFrom, Act.put, List.setIfInBounds_toArray, List.set_cons_zero, List.set_cons_succ, q0, q1, q2, q4, q5, q6, q7]
      clear q0 q1 q2 q4 q5 q6 q7
      generalize xs 3 = x3 at *
      generalize xs 8 = x8 at *
      generalize xs 9 = x9 at *
      have HX2 : Hid (Ext w1 w2) := Below.grown HXL.out hj2.ext hsL (fun k hk => (HOW.out.lt k hk).1)
      have HO2 : Hid (Ow w1.heap.size w2 x9 ([3] ++ rawH tree ++ [cp])) := hj2.ownB rfl
      have m4 := HX2.out.cell d4
      clear hj2 l3 l4
      go_wp2_with fail
      go_loopw [4, 70] (fun v i wr => ∃ k : Nat, k ≤ parents.length ∧ i = .int .i64 k ∧ Hid (Ow w1.heap.size wr v ([3] ++ rawH tree ++ [cp] ++ (parents.take k).flatMap rawH)) ∧ Hid (Ext w1 wr)) (fun _ i _ => parents.length - (intOf i).toNat)
      case atStart => exact ⟨0, Nat.zero_le _, rfl, by unfold Hid; simpa using HO2.out, HX2⟩
      case round =>
      obtain ⟨k, hk, rfl, HO, HX⟩ := hrel
      have HLN : Hid (([3] ++ rawH tree ++ [cp] ++ (parents.take k).flatMap rawH).length ≤ 1000) := by
        unfold Hid
        have h9 := raws_len parents k HPV.out
        simp only [List.length_append, List.length_cons, List.length_nil]
        omega
      by_cases hlt : k < parents.length
      · obtain ⟨x, hx⟩ : ∃ x, parents[k]? = some x := ⟨_, List.getElem?_eq_getElem hlt⟩
        obtain ⟨bb, oo, hpa, hc⟩ := HPG.out k hlt
        subst hpa
        have y1 := HX.out.cell (HX1.out.cell (hc k hlt))
        rw [show parents.getD k [] = x by rw [List.getD_eq_getElem?_getD, hx]; rfl] at y1
        have HXV : Hid (validB x = true) := List.all_eq_true.1 HPV.out x (List.mem_of_getElem? hx)
        have HTK : Hid ((parents.take (k + 1)).flatMap rawH = (parents.take k).flatMap rawH ++ rawH x) := by
          unfold Hid
          rw [List.take_add_one, hx]
          simp
        have hss := HX.out.size
        clear hx hc
        go_wp2_with fail
        go_at_call 195
        refine (hashO_any _ _ x w1.heap.size wr HO.out hss (by have := HLN.out; omega) HXV.out).mono ?_
        rintro e9 w3 ⟨v3, rfl, hown3, hg3, hn3⟩
        have HX3 : Hid (Ext w1 w3) := owns_ext_app HX.out HO.out hg3
        have HO3 : Hid (Ow w1.heap.size w3 v3 ([3] ++ rawH tree ++ [cp] ++ (parents.take (k + 1)).flatMap rawH)) := by
          unfold Hid
          rw [HTK.out, ← List.append_assoc]
          exact hown3
        clear hown3 hg3 hn3
        go_wp2_with fail
        go_roundw
        case rel => exact ⟨k + 1, by omega, by go_num, HO3, HX3⟩
        case measure => simp [intOf]; omega
      · have hkl : k = parents.length := by omega
        subst hkl
        rw [List.take_length] at HO HLN
        have n5 := HX.out.cell d5
        have n6 := HX.out.cell d6
        have n7 := HX.out.cell d7
        obtain ⟨L0, hL0⟩ : ∃ l, [3] ++ rawH tree ++ [cp] ++ parents.flatMap rawH = l := ⟨_, rfl⟩
        rw [hL0] at HO HLN
        have HL0 : Hid _ := hL0
        have hL0l := HLN.out
        have HGU : Hid (u4.ownBlock ≠ some gb) := fun e => by have := (HO.out.lt _ e).1; omega
        have hss := HX.out.size
        have hp1 := putN_len9 (n := stamp.toNat) (by unfold maxW; omega)
        have hp2 := putN_len9 (n := author.toNat) (by unfold maxW; omega)
        have hp3 := putN_len9 (n := msg.length) (by unfold maxW; omega)
        clear hL0 hk
        go_upto_region 22 with fail
        apply wp_region_inv 11 (fun z w' => ChJ wr w1.heap.size u4 0 L0 (L0 ++ putN stamp.toNat) (L0 ++ putN stamp.toNat ++ putN author.toNat) (L0 ++ putN stamp.toNat ++ putN author.toNat ++ putN msg.length) none (z 3) (z 6) (z 10) w') [false, false, false, true, false, false, true, false, false, false, true] [_, _, _, undef, _, _, undef, _, _, _, undef] [none, none, none, none, none, none, none, none, none, none, none] [[], [], [1], [0, 2], [], [4], [3, 5], [], [7], [8], [6, 9]] (by kernel_rfl) (by kernel_rfl) rfl
        · exact ChJ.start HO.out ⟨rfl, rfl, rfl, Nat.le_refl _, fun _ _ => rfl⟩
        · simp (maxSteps := 1000000) only [oblI, stepI, knowsI, getP, mixP, List.getD_cons_zero, List.getD_cons_succ, Bool.false_eq_true, if_false, if_true, and_true, true_and, forall_const, Nat.zero_add, Nat.reduceAdd, List.take_succ_cons, List.take_zero, fillFrom, Act.put, List.setIfInBounds_toArray, List.set_cons_zero, List.set_cons_succ]
          refine ⟨?_, ?_, ?_, ?_, ?_, ?_, ?_, ?_, ?_, ?_, ?_⟩
          · intro xs z wq hj R hR
            have f5 := hj.cell HGU.out n5; have f6 := hj.cell HGU.out n6; have f7 := hj.cell HGU.out n7
            go_simp
            exact hR _ _ hj rfl
          · intro xs z wq hj R hR
            have f5 := hj.cell HGU.out n5; have f6 := hj.cell HGU.out n6; have f7 := hj.cell HGU.out n7
            go_simp
            exact hR _ _ hj rfl
          · intro xs z wq hj hk R hR
            have f5 := hj.cell HGU.out n5; have f6 := hj.cell HGU.out n6; have f7 := hj.cell HGU.out n7
            go_simp
            exact hR _ _ hj rfl
          · intro xs z wq hj hz hk R hR
            obtain ⟨hk0, hk1⟩ := hk
            rw [hz] at hj
            go_simp
            exact (number_any _ L0 stamp w1.heap.size wq hj.ownZ (Nat.le_trans hss hj.size) (by omega)).mono (by rintro e' w' ⟨v', rfl, h1, h2, h3⟩; rw [put_int _ (by omega) (by unfold maxW; omega)] at h1; exact ⟨_, rfl, hR _ _ (hj.setA h1 h2 h3)⟩)
          · intro xs z wq hj R hR
            have f5 := hj.cell HGU.out n5; have f6 := hj.cell HGU.out n6; have f7 := hj.cell HGU.out n7
            go_simp
            exact hR _ _ hj rfl
          · intro xs z wq hj hk R hR
            have f5 := hj.cell HGU.out n5; have f6 := hj.cell HGU.out n6; have f7 := hj.cell HGU.out n7
            go_simp
            exact hR _ _ hj rfl
          · intro xs z wq hj hz hk R hR
            obtain ⟨hk0, hk1⟩ := hk
            rw [hz] at hj
            go_simp
            exact (number_any _ (L0 ++ putN stamp.toNat) author w1.heap.size wq (hj.ownA hk0) (Nat.le_trans hss hj.size) (by simp only [List.length_append]; omega)).mono (by rintro e' w' ⟨v', rfl, h1, h2, h3⟩; rw [put_int _ (by omega) (by unfold maxW; omega)] at h1; exact ⟨_, rfl, hR _ _ (hj.setB hk0 h1 h2 h3)⟩)
          · intro xs z wq hj R hR
            have f5 := hj.cell HGU.out n5; have f6 := hj.cell HGU.out n6; have f7 := hj.cell HGU.out n7
            go_simp
            exact hR _ _ hj rfl
          · intro xs z wq hj hk R hR
            have f5 := hj.cell HGU.out n5; have f6 := hj.cell HGU.out n6; have f7 := hj.cell HGU.out n7
            go_simp
            exact hR _ _ hj rfl
          · intro xs z wq hj hk R hR
            have f5 := hj.cell HGU.out n5; have f6 := hj.cell HGU.out n6; have f7 := hj.cell HGU.out n7
            go_simp
            exact hR _ _ hj rfl
          · intro xs z wq hj hz hk R hR
            obtain ⟨hk0, hk1⟩ := hk
            rw [hz] at hj
            go_simp
            exact (number_any _ (L0 ++ putN stamp.toNat ++ putN author.toNat) msg.length w1.heap.size wq (hj.ownB hk0) (Nat.le_trans hss hj.size) (by simp only [List.length_append]; omega)).mono (by rintro e' w' ⟨v', rfl, h1, h2, h3⟩; rw [put_nat _ (by unfold maxW; omega)] at h1; exact ⟨_, rfl, hR _ _ (hj.setC hk0 h1 h2 h3)⟩)
        intro xs w3 hj3 hk
        simp only [zAll, List.getD_cons_zero, List.getD_cons_succ, Bool.false_eq_true, if_false, if_true] at hj3
        simp only [heldI, Nat.zero_add, Nat.reduceAdd, and_true] at hk
        obtain ⟨q0, q1, q2, q4, q5, q7, q8, q9⟩ := hk
        simp (maxSteps := 1000000) only [List.drop_succ_cons, List.drop_zero, Nat.zero_add, Nat.reduceAdd, List.take_succ_cons, List.take_zero, fillFrom, Act.put, List.setIfInBounds_toArray, List.set_cons_zero, List.set_cons_succ, q0, q1, q2, q4, q5, q7, q8, q9]
        clear q0 q1 q2 q4 q5 q7 q8 q9
        generalize xs 3 = x3 at *
        generalize xs 6 = x6 at *
        generalize xs 10 = x10 at *
        have HX3 : Hid (Ext w1 w3) := Below.grown HX.out hj3.ext hss (fun k hk => (HO.out.lt k hk).1)
        have hown3 := hj3.ownC rfl
        obtain ⟨L3, hL3⟩ : ∃ l, L0 ++ putN stamp.toNat ++ putN author.toNat ++ putN msg.length = l := ⟨_, rfl⟩
        have hL3l : L3.length ≤ 1100 := by
          rw [← hL3]
          simp only [List.length_append]
          omega
        have HL3 : Hid _ := hL3
        rw [hL3] at hown3
        have HO3 : Hid (Ow w1.heap.size w3 x10 L3) := hown3
        have q7 := HX3.out.cell d7
        have hs3 := HX3.out.size
        clear hL3 hown3 hj3 n5 n6 n7
        go_wp2_with (at_builtin; go_must (refine app_tx rfl _ _ rfl rfl w1.heap.size _ L3 rfl HO3.out msg rfl (by omega) hs3 ?_; intro v' w4 hown4 hg4 hn4))
        go_ret2
        refine ⟨⟨_, rfl, ?_⟩, HX1.out.trans (owns_ext_app HX3.out HO3.out hg4)⟩
        have h9 := hown4.mono HX1.out.size
        rw [HEO.out, HL0.out, HL3.out]
        exact h9

end Go.Proofs.YtfgdmlmfgnhpaaaGreatDoor

/-! table.Build of one row below a directory. Conditions: as each theorem states. -/
namespace Go.Proofs.YtfgdmlmfgnhpaaaGreatDoor
open Go Go.RowKit Go.Sort
set_option linter.unusedVariables false
set_option linter.unusedSimpArgs false
set_option linter.unusedSectionVars false

section
variable {ops : Array Oper} {rest : List Oper} {o : Oper} {a : Act} {Q : Exit → Act → World → Prop} {w : World} {V : Fi → Value}
theorem ins_mg (T E : TypeId) (hT : Tryz.prog.underlying T = some (.map 9 E)) (hgd : o.guard = none) (m x v : Operand) (hop : o.op = Op.insert T m x v) {b : Nat} {l : Files} (hf : IsMG V w b l) (hl : l.length ≤ 10000000)
    (hm : a.eval m = .map (some b)) (p : B8) (hp : p.length ≤ 1000000) (hx : a.eval x = S8 p) (f : Fi) (hv : a.eval v = V f)
    (h : ∀ w', IsMG V w' b (putF l p f) → w.grownBy w' (some b) → wpList Tryz.prog ops Q rest (a.put o.dst undef) w') : wpList Tryz.prog ops Q (o :: rest) a w := by
  refine wpList_plain hgd fun K' hK' => ?_
  obtain ⟨w', hrun, hown, hg⟩ := hf.map.update (val := V f) (d := .held (V f)) (ps := []) K_str hT (by unfold maxLen; omega) (key_str p (by omega)) rfl
  rw [datG_put] at hown
  have hmg : IsMG V w' b (putF l p f) := by
    refine ⟨?_⟩
    obtain ⟨es, clock, hb, F, hs, hD⟩ := hown
    refine ⟨es, clock, hb, F, ?_, hD⟩
    have : Maps.size (datG V (putF l p f)) = es.size := by rw [hD]; simp [Maps.size, length_sorted]
    rw [← this]
    simp [datG, Maps.size]
  unfold Oper.wp
  simp [execOp, hop, hm, hx, hv, hrun, Result.andThen]
  exact hK' _ _ (h w' hmg hg)
end
theorem IsMG.swap {V V' : Fi → Value} {w : World} {b : Nat} {l : Files} (h : IsMG V w b l) (hV : ∀ e ∈ l, V e.2 = V' e.2) : IsMG V' w b l := by
  have he : datG V l = datG V' l := by
    unfold datG
    congr 1
    exact List.map_congr_left fun e he => by unfold enG; rw [hV e he]
  exact ⟨he ▸ h.map⟩
def atV (vs : List Value) (f : Fi) : Value := vs.getD f.time.toNat (.slice none 0 0)
def fiN (n : Nat) : Fi := ⟨0, [], n⟩

def obT (m : Int) (nm id : B8) : Ob := ⟨2, [], [⟨m, nm, id⟩], [], [], 0, 0, []⟩
def rowB (m : Int) (id : B8) : List Rw := [⟨[97, 47, 98], m, id⟩]

set_option maxRecDepth 100000 in
set_option maxHeartbeats 4000000 in
theorem buildOne_any (v : Value) (m : Int) (id : B8) (w : World) (hE : Env w) (hES : EnvS w) (hv : IsRws w v (rowB m id)) (hm : mayTab (rowB m id) = true) (hid : id.length ≤ 400)
    (t1 t2 : B8) (hl1 : (encodeM (obT m [98] id)).1.length ≤ 10000000) (hl2 : (encodeM (obT 4 [97] t1)).1.length ≤ 10000000) (ht1 : shaM (encodeM (obT m [98] id)).1 = t1) (ht2 : shaM (encodeM (obT 4 [97] t1)).1 = t2) (ht1l : t1.length ≤ 400) (ht2l : t2.length ≤ 400) (hne : (t1 == t2) = false) (hvt : validB t2 = true) :
    Calls Tryz.prog 120 #[v] w fun e w' => (∃ t a c, e = .returned (.tuple #[S8 t, .slice a 2 c, .int .i64 0]) ∧ validB t = true ∧ t.length ≤ 400) ∧ Ext w w' := by
  have HT1 : Hid _ := ht1
  have HT2 : Hid _ := ht2
  have HL1 : Hid _ := hl1
  have HL2 : Hid _ := hl2
  have HNE : Hid _ := hne
  have HVT : Hid _ := hvt
  clear ht1 ht2 hl1 hl2 hne hvt
  have HE : Hid (Env w) := hE
  have HES : Hid (EnvS w) := hES
  have HMY : Hid _ := tmay_any v _ w hE hv (by show 1 ≤ _; omega) (by intro r hr; simp [rowB] at hr; subst hr; exact ⟨by show 3 ≤ 400; omega, hid⟩)
  rw [hm] at HMY
  obtain ⟨a, cap, rfl, l1, l2, l3, hg⟩ := hv.cells
  obtain ⟨bb, oo, rfl, c0, c1, c2⟩ := hg 0 _ rfl
  rw [Nat.zero_mul, Nat.add_zero] at c0 c1 c2
  have hln : (rowB m id).length = 1 := rfl
  rw [hln] at l1 l2 HMY ⊢
  clear hln
  have hmm := @run_makeMap Tryz.prog
  clear hv hg hE hES hm
  go_enter Tryz.func120, Tryz.ntmps120
  go_wp2_with fail
  go_at_call 39
  refine Calls.mono HMY.out ?_
  rintro e w1 ⟨rfl, hx1⟩
  have HX1 : Hid (Ext w w1) := hx1
  have HM0 : Hid (IsMG (atV [.slice none 0 0]) (w1.alloc (.map #[] 0)) w1.heap.size []) := mg_made _ _
  go_upto_region 4 with (refine ins_mg 223 62 Tryz.underlying223 rfl _ _ _ rfl HM0.out (by show 0 ≤ _; omega) rfl [] (by show 0 ≤ _; omega) rfl (fiN 0) rfl ?_; intro w2 hm2 hg2)
  have hxa : Ext w1 (w1.alloc (.map #[] 0)) := (Ext.refl _).alloc _
  have hx2 : Ext w1 w2 := Below.grown hxa hg2 hxa.size (fun j hj => by cases hj; exact Nat.le_refl _)
  have HX2 : Hid (Ext w w2) := HX1.out.trans hx2
  have HM2 : Hid (IsMG (atV [.slice none 0 0]) w2 w1.heap.size [([], fiN 0)]) := hm2
  obtain ⟨g, hgz⟩ : ∃ g, w1.heap.size = g := ⟨_, rfl⟩
  have hlow : w.heap.size ≤ g := by rw [← hgz]; exact hx1.size
  rw [hgz] at HM2 ⊢
  have z0 := HX2.out.cell c0
  have z1 := HX2.out.cell c1
  have z2 := HX2.out.cell c2
  clear HM0 hm2 hg2 hx2 hx1 hgz c0 c1 c2 hxa
  have HMM : Hid _ := hmm
  clear hmm
  go_wp2_with fail
  refine wp_loop_rounds 2 ?_
  rw [rounds_succ]
  go_upto_region 7 with fail
  obtain ⟨w3, hw3⟩ : ∃ w3, w3 = w2.alloc (.cells #[S8 [97, 47, 98], .int .i64 m, S8 id] 85) := ⟨_, rfl⟩
  have hx3 : Ext w2 w3 := by rw [hw3]; exact (Ext.refl _).alloc _
  have hb3 : w3.heap[w2.heap.size]? = some (.cells #[S8 [97, 47, 98], .int .i64 m, S8 id] 85 (0, 0)) := by rw [hw3]; exact alloc_at _ _
  rw [← hw3]
  obtain ⟨gr, hgr⟩ : ∃ gr, w2.heap.size = gr := ⟨_, rfl⟩
  rw [hgr] at hb3 ⊢
  have HB3 : Hid _ := hb3
  have HX3 : Hid (Ext w w3) := HX2.out.trans hx3
  have HM3 : Hid (IsMG (atV [.slice none 0 0]) w3 g [([], fiN 0)]) := HM2.out.ext hx3
  obtain ⟨y0, y1, y2⟩ := cellsAt3 hb3
  have hgg : g < gr := by rw [← hgr]; exact HM2.out.lt
  clear hw3 hx3 hgr hb3 z0 z1 z2
  go_wp2_with fail
  go_at_call 121
  refine (parents_any [97, 47, 98] w3 (HE.out.ext HX3.out) (by show 3 ≤ _; omega)).mono ?_
  rintro e w4 ⟨⟨pv, rfl, hpv⟩, hx4⟩
  rw [show parentsL [97, 47, 98] = [[97]] by decide +kernel] at hpv
  obtain ⟨pa, pc, rfl, p1, p2, p3, hpc⟩ := hpv.get
  obtain ⟨pb, po, rfl, hpq⟩ := hpc 0 (by decide)
  have p0 := hpq 0 (by decide)
  rw [show ([[97]] : List B8).length = 1 from rfl] at p1 ⊢
  rw [show ([[97]] : List B8).getD 0 [] = [97] from rfl, Nat.add_zero] at p0
  have HX4 : Hid (Ext w w4) := HX3.out.trans hx4
  have HM4 : Hid (IsMG (atV [.slice none 0 0, .slice none 0 0]) w4 g [([], fiN 0)]) := (HM3.out.ext hx4).swap (by intro e he; simp at he; subst he; rfl)
  have HB4 : Hid (w4.heap[gr]? = some (.cells #[S8 [97, 47, 98], .int .i64 m, S8 id] 85 (0, 0))) := hx4.row HB3.out
  obtain ⟨hlk, -⟩ := HM4.out.look_run 223 62 (.slice none 0 0) Tryz.underlying223 (by kernel_rfl) [97] (by show 1 ≤ _; omega)
  rw [show lookG (atV [.slice none 0 0, .slice none 0 0]) (.slice none 0 0) [([], fiN 0)] [97] = .slice none 0 0 from rfl, show (look [(([] : B8), fiN 0)] [97]).isSome = false from rfl] at hlk
  clear hpv p2 p3 hpc hpq hx4 y0 y1 y2
  go_wp2_with fail
  refine wp_loop_rounds 2 ?_
  rw [rounds_succ]
  go_upto_region 13 with (refine set_mg 223 62 Tryz.underlying223 rfl _ _ _ rfl HM4.out (by show 1 ≤ _; omega) rfl [97] (by show 1 ≤ _; omega) rfl (fiN 1) rfl ?_; intro w5 hm5 hg5)
  have hx5 : Ext w w5 := Below.grown HX4.out hg5 HX4.out.size (fun j hj => by cases hj; exact hlow)
  have HX5 : Hid (Ext w w5) := hx5
  have HM5 : Hid (IsMG (atV [.slice none 0 0, .slice none 0 0]) w5 g [([], fiN 0), ([97], fiN 1)]) := hm5
  have hb5 : w5.heap[gr]? = some (.cells #[S8 [97, 47, 98], .int .i64 m, S8 id] 85 (0, 0)) := (hg5.block gr (by
    have := HB4.out
    exact (Array.getElem?_eq_some_iff.1 this).1) (fun e => by cases e; omega)).trans HB4.out
  obtain ⟨y0, y1, y2⟩ := cellsAt3 hb5
  have HB5 : Hid _ := hb5
  have HPA : Hid (Calls Tryz.prog 178 #[S8 [97, 47, 98]] w5 fun e w' => e = .returned (.tuple #[S8 [97], S8 [98]]) ∧ Ext w5 w') := parent_at [97] [98] w5 (by show 1 ≤ _; omega) (by show 1 ≤ _; omega) (by decide +kernel)
  clear hlk hm5 hg5 hx5 hb5 p0 p1
  go_wp2_with fail
  rw [rounds_succ]
  go_wp2_with fail
  go_at_call 178
  refine Calls.mono HPA.out ?_
  rintro e w6 ⟨rfl, hx6⟩
  have HX6 : Hid (Ext w w6) := HX5.out.trans hx6
  have HM6 : Hid (IsMG (atV [.slice none 0 0, .slice none 0 0]) w6 g [([], fiN 0), ([97], fiN 1)]) := HM5.out.ext hx6
  obtain ⟨y0, y1, y2⟩ := cellsAt3 (hx6.row HB5.out)
  clear hx6
  go_upto_region 15 with fail
  obtain ⟨-, hlk⟩ := HM6.out.look_run 223 62 (.slice none 0 0) Tryz.underlying223 (by kernel_rfl) [97] (by show 1 ≤ _; omega)
  rw [show lookG (atV [.slice none 0 0, .slice none 0 0]) (.slice none 0 0) [([], fiN 0), ([97], fiN 1)] [97] = .slice none 0 0 from rfl] at hlk
  obtain ⟨w7, hw7⟩ : ∃ w7, w7 = w6.alloc (.cells #[.int .i64 m, S8 [98], S8 id] 209) := ⟨_, rfl⟩
  have hx7 : Ext w6 w7 := by rw [hw7]; exact (Ext.refl _).alloc _
  have HX7 : Hid (Ext w w7) := HX6.out.trans hx7
  have HB7 : Hid (w7.heap[w6.heap.size]? = some (.cells #[.int .i64 m, S8 [98], S8 id] 209 (0, 0))) := by rw [hw7]; exact alloc_at _ _
  have HM7 : Hid (IsMG (atV [.slice none 0 0, .slice none 0 0]) w7 g [([], fiN 0), ([97], fiN 1)]) := HM6.out.ext hx7
  have hsz7 : w.heap.size ≤ w7.heap.size := HX7.out.size
  go_upto_region 16 with (first
    | (at_builtin; rw [← hw7]; refine app_any 62 209 (.agg #[.int .i64 0, S8 [], S8 []]) 3 40 Tryz.underlying62 (by kernel_rfl) rfl (by omega) rfl _ _ rfl w.heap.size _ 0 [] rfl (World.ownsRow_nil _ _ _ _) ⟨w6.heap.size, 0, none⟩ 1 1 [.int .i64 m, S8 [98], S8 id] rfl rfl (news_of_block HB7.out) (by simp [Value.oneCell']) (by omega) (by omega) hsz7 ?_
       intro v8 w8 hown8 hg8 _
       have HX8 : Hid (Ext w w8) := Below.grown HX7.out hg8 HX7.out.size (fun j hj => by cases hj)
       have HX78 : Hid (Ext w7 w8) := Below.grown (Ext.refl _) hg8 (Nat.le_refl _) (fun j hj => by cases hj)
       have HO8 : Hid _ := hown8
       have HM8 : Hid (IsMG (atV [.slice none 0 0, .slice none 0 0, v8]) w8 g [([], fiN 0), ([97], fiN 1)]) := (HM7.out.ext HX78.out).swap (by intro e he; simp at he; rcases he with rfl | rfl <;> rfl)
       clear hown8 hg8)
    | (refine set_mg 223 62 Tryz.underlying223 rfl _ _ _ rfl HM8.out (by show 2 ≤ _; omega) rfl [97] (by show 1 ≤ _; omega) rfl (fiN 2) rfl ?_; intro w9 hm9 hg9))
  have HX9 : Hid (Ext w w9) := Below.grown HX8.out hg9 HX8.out.size (fun j hj => by cases hj; exact hlow)
  have HM9 : Hid (IsMG (atV [.slice none 0 0, .slice none 0 0, v8]) w9 g [([], fiN 0), ([97], fiN 2)]) := hm9
  have hne9 : v8.ownBlock ≠ some g := by
    intro e
    obtain ⟨es, ck, hk⟩ := HM8.out.kind
    rcases HO8.out.2 with ⟨rfl, h0⟩ | ⟨q, c, cur, rfl, hbase, hb, h1, h2, h3, h4⟩
    · cases e
    · cases e
      rw [hk] at hb
      cases hb
  have HO9 : Hid (w9.ownsRow w.heap.size 209 3 v8 1 ([] ++ [.int .i64 m, S8 [98], S8 id])) := World.ownsRow.kept HO8.out hg9 (.inr hne9)
  have HR9 : Hid (Rising [([], fiN 0), ([97], fiN 2)]) := by unfold Hid Rising; decide +kernel
  have HA : Hid _ := leftG_all (atV [.slice none 0 0, .slice none 0 0, v8]) (l := [([], fiN 0), ([97], fiN 2)])
  obtain ⟨lD, hlD⟩ : ∃ l : Files, [([], fiN 0), ([97], fiN 2)] = l := ⟨_, rfl⟩
  obtain ⟨V9, hV9⟩ : ∃ V, atV [.slice none 0 0, .slice none 0 0, v8] = V := ⟨_, rfl⟩
  have HLD : Hid _ := hlD
  have HV9 : Hid _ := hV9
  rw [hlD, hV9] at HM9 HA
  rw [hlD] at HR9
  have hown := HM9.out.map
  have hbl := HM9.out.lt
  clear hm9 hg9 hne9 hlk y0 y1 y2 hlD hV9 hx7 hw7 hsz7
  go_wp2_with fail
  rw [rounds_succ]
  go_wp2_with (first
    | (at_range; refine wpList_range_own _ rfl _ 223 rfl 9 62 K_str Tryz.underlying223 _ g _ _ rfl hown ?_; intro w0 hrg0 hg0 hs0)
    | go_in)
  have HX0 : Hid (Ext w9 w0) := Below.grown (Ext.refl _) hg0 (Nat.le_refl _) (fun j hj => by cases hj)
  have HOW9 : Hid (Ext w w0) := HX9.out.trans HX0.out
  have hsz9 : w.heap.size ≤ w9.heap.size := HX9.out.size
  have HRG0 : Hid _ := hrg0
  clear hown hg0 hs0 hrg0
  go_frame
  go_loopw [14] (fun sv wr => ∃ (left : Lit → Bool) (cnt : Nat) (C : List B8), wr.ranges Tryz.prog 9 elemV g w9.heap.size lD.length (datG V9 lD) left cnt ∧ Hid (wr.ownsRow w9.heap.size 9 1 sv C.length (C.map S8)) ∧ Hid ((C ++ pathsL (leftF left lD)).Perm (pathsL lD)) ∧ Hid (Ext w9 wr))
    (fun _ wr => wr.rangeLeft g w9.heap.size)
  case atStart => exact ⟨_, _, [], HRG0.out, World.ownsRow_nil _ _ _ _, by unfold Hid; rw [HA.out]; exact List.Perm.refl _, HX0.out⟩
  case round =>
    obtain ⟨left, cnt, C, hrg, HOW, HPM, HXR⟩ := hrel
    have hCl : C.length ≤ 2 := by
      have hll : lD.length = 2 := by rw [← HLD.out]; rfl
      have := HPM.out.length_eq
      simp only [List.length_append, pathsL, List.length_map] at this
      omega
    go_wp2_with (at_next; refine next_mg V9 rfl _ rfl g w9.heap.size _ lD _ _ rfl hrg ?_ ?_)
    · intro hc0 hl0
      have HPE : Hid (C.Perm (pathsL lD)) := by
        unfold Hid
        have := HPM.out
        rw [leftF_none hl0] at this
        simpa [pathsL] using this
      clear hl0
      have HC2 : Hid (C.length = 2) := by
        have := HPE.out.length_eq
        rw [← HLD.out] at this
        exact this
      have HPE2 : Hid (C.Perm [[], [97]]) := by have := HPE.out; rw [← HLD.out] at this; exact this
      have hOW := HOW.out.2
      rw [HC2.out] at hOW
      rcases hOW with ⟨-, h0⟩ | ⟨qo, co, cur, rfl, hbo, hbb, k1, k2, k3, k4⟩
      · cases h0
      have HSO : Hid _ := order_any qo co C cur wr HPE2.out hbb (by rw [HC2.out]; rw [k4])
      have HBB : Hid _ := hbb
      clear hbb k2 k3 k4 hc0 hrg hCl
      go_wp2_with fail
      go_at_call 179
      refine Calls.mono HSO.out ?_
      rintro e wS ⟨rfl, hgS, d0, d1⟩
      have HXS : Hid (Ext w9 wS) := Below.grown HXR.out hgS HXR.out.size (fun j hj => by cases hj; exact hbo)
      have HMS : Hid (IsMG V9 wS g lD) := HM9.out.ext HXS.out
      have HDS : Hid (wS.cell? ⟨qo, 0, none⟩ = some (S8 [97]) ∧ wS.cell? ⟨qo, 1, none⟩ = some (S8 [])) := ⟨d0, d1⟩
      have hmm := HMM.out
      clear hgS d0 d1
      go_upto_region 24 with fail
      obtain ⟨wT, hwT⟩ : ∃ wT, wT = wS.alloc (.map #[] 0) := ⟨_, rfl⟩
      have hxT : Ext wS wT := by rw [hwT]; exact (Ext.refl _).alloc _
      have HXT : Hid (Ext w9 wT) := HXS.out.trans hxT
      have HMT : Hid (IsMG (atV []) wT wS.heap.size []) := by rw [hwT]; exact mg_made _ _
      have HMD : Hid (IsMG V9 wT g lD) := HMS.out.ext hxT
      rw [← hwT]
      obtain ⟨gm, hgm⟩ : ∃ gm, wS.heap.size = gm := ⟨_, rfl⟩
      have hgg2 : g < gm := by rw [← hgm]; exact HMS.out.lt
      have hgm9 : w9.heap.size ≤ gm := by rw [← hgm]; exact HXS.out.size
      rw [hgm] at HMT ⊢
      have y0 := hxT.cell HDS.out.1
      have y1 := hxT.cell HDS.out.2
      have HST : Hid (Ext wS wT) := hxT
      have HGS : Hid (wS.heap.size ≤ gm) := Nat.le_of_eq hgm
      have HQO : Hid (w9.heap.size ≤ qo) := hbo
      clear hmm hwT hxT hgm
      go_wp2_with fail
      refine wp_loop_rounds 3 ?_
      rw [rounds_succ]
      go_upto_region 28 with fail
      obtain ⟨-, hlk⟩ := HMD.out.look_run 223 62 (.slice none 0 0) Tryz.underlying223 (by kernel_rfl) [97] (by show 1 ≤ _; omega)
      rw [show lookG V9 (.slice none 0 0) lD [97] = v8 by rw [← HLD.out, ← HV9.out]; rfl] at hlk
      have HOT : Hid (wT.ownsRow w.heap.size 209 3 v8 1 [.int .i64 m, S8 [98], S8 id]) := owns_ext HO9.out HXT.out
      obtain ⟨q8, c8, hv8, hs8⟩ := item_sorts HOT.out
      have HS8 : Hid _ := hs8
      have HIT : Hid (IsItms wT v8 [⟨m, [98], id⟩]) := Row.of_owns HOT.out (by omega)
      have HV8 : Hid _ := hv8
      clear y0 y1 hs8
      go_upto_region 29 with fail
      clear hlk
      rw [hv8]
      go_wp2_with fail
      go_at_call 181
      refine Calls.mono HS8.out ?_
      rintro e wU ⟨rfl, hxU⟩
      have HXU : Hid (Ext w9 wU) := HXT.out.trans hxU
      have HTU : Hid (Ext wT wU) := hxU
      have HOE : Hid _ := oEnc_any (obV ⟨2, [], [⟨m, [98], id⟩], [], [], 0, 0, []⟩ (.slice none 0 0) (.slice (some ⟨q8, 0, none⟩) 1 c8) (.slice none 0 0)) ⟨2, [], [⟨m, [98], id⟩], [], [], 0, 0, []⟩ wU ⟨_, _, _, rfl, IsBytes.nil _, by rw [← HV8.out]; exact HIT.out.ext hxU, IsStrs.nil _⟩ ⟨by intro x hx; simp at hx; subst hx; exact ⟨by show 1 ≤ _; omega, by show id.length ≤ _; omega⟩, by simp, by simp, by simp⟩
      obtain ⟨e1, he1⟩ : ∃ r, encodeM (obT m [98] id) = r := ⟨_, rfl⟩
      rw [show encodeM ⟨2, [], [⟨m, [98], id⟩], [], [], 0, 0, []⟩ = e1 from he1] at HOE
      rw [he1] at HT1 HL1
      have HE1 : Hid _ := he1
      clear hxU he1 hv8
      go_wp2_with fail
      go_at_call 126
      refine Calls.mono HOE.out ?_
      rintro e wV ⟨⟨u1, rfl, hu1⟩, hxV⟩
      have HXV : Hid (Ext w9 wV) := HXU.out.trans hxV
      have HU1 : Hid (IsBytes wV u1 e1.1) := Row.of_owns hu1 (by have := HL1.out; omega)
      have HID1 : Hid (Calls Tryz.prog 35 #[u1] wV fun e w' => e = .returned (S8 t1) ∧ Ext wV w') := by
        have h9 := id_sha u1 e1.1 wV (HES.out.ext (HX9.out.trans HXV.out)) HU1.out HL1.out
        rw [HT1.out] at h9
        exact h9
      have HTV : Hid (Ext wT wV) := HTU.out.trans hxV
      clear hu1 hxV
      go_wp2_with fail
      go_at_call 35
      refine Calls.mono HID1.out ?_
      rintro e wW ⟨rfl, hxW⟩
      have HXW : Hid (Ext w9 wW) := HXV.out.trans hxW
      have HTW : Hid (Ext wT wW) := HTV.out.trans hxW
      have HMW : Hid (IsMG (atV [u1]) wW gm []) := (HMT.out.ext HTW.out).swap (by intro e he; cases he)
      have HU1W : Hid (IsBytes wW u1 e1.1) := IsBytes.ext HU1.out hxW
      clear hxW
      go_upto_region 33 with (refine set_mg 229 45 Tryz.underlying229 rfl _ _ _ rfl HMW.out (by show 0 ≤ _; omega) rfl t1 (by omega) rfl (fiN 0) rfl ?_; intro wX hmX hgX)
      have HXX : Hid (Ext w9 wX) := Below.grown HXW.out hgX HXW.out.size (fun j hj => by cases hj; exact hgm9)
      have HMX : Hid (IsMG (atV [u1]) wX gm [(t1, fiN 0)]) := hmX
      have HPN : Hid (Calls Tryz.prog 178 #[S8 [97]] wX fun e w' => e = .returned (.tuple #[S8 [], S8 [97]]) ∧ w' = wX) := parent_none [97] wX (by show 1 ≤ _; omega) (by decide +kernel)
      have HSX : Hid (Ext wS wX) := Below.grown (HST.out.trans HTW.out) hgX (HST.out.trans HTW.out).size (fun j hj => by cases hj; exact HGS.out)
      clear hmX hgX
      go_wp2_with fail
      go_at_call 178
      refine Calls.mono HPN.out ?_
      rintro e wY ⟨rfl, rfl⟩
      have HMDX : Hid (IsMG V9 wY g lD) := HM9.out.ext HXX.out
      obtain ⟨-, hlk⟩ := HMDX.out.look_run 223 62 (.slice none 0 0) Tryz.underlying223 (by kernel_rfl) [] (by show 0 ≤ _; omega)
      rw [show lookG V9 (.slice none 0 0) lD [] = .slice none 0 0 by rw [← HLD.out, ← HV9.out]; rfl] at hlk
      obtain ⟨wZ, hwZ⟩ : ∃ wZ, wZ = wY.alloc (.cells #[.int .i64 4, S8 [97], S8 t1] 209) := ⟨_, rfl⟩
      have hxZ : Ext wY wZ := by rw [hwZ]; exact (Ext.refl _).alloc _
      have HXZ : Hid (Ext w9 wZ) := HXX.out.trans hxZ
      have HBZ : Hid (wZ.heap[wY.heap.size]? = some (.cells #[.int .i64 4, S8 [97], S8 t1] 209 (0, 0))) := by rw [hwZ]; exact alloc_at _ _
      have hszZ : w9.heap.size ≤ wZ.heap.size := HXZ.out.size
      go_upto_region 36 with (first
        | (at_builtin; rw [← hwZ]; refine app_any 62 209 (.agg #[.int .i64 0, S8 [], S8 []]) 3 40 Tryz.underlying62 (by kernel_rfl) rfl (by omega) rfl _ _ rfl w9.heap.size _ 0 [] rfl (World.ownsRow_nil _ _ _ _) ⟨wY.heap.size, 0, none⟩ 1 1 [.int .i64 4, S8 [97], S8 t1] rfl rfl (news_of_block HBZ.out) (by simp [Value.oneCell']) (by omega) (by omega) hszZ ?_
           intro va wA hownA hgA _
           have HXA : Hid (Ext w9 wA) := Below.grown HXZ.out hgA HXZ.out.size (fun j hj => by cases hj)
           have HXYA : Hid (Ext wY wA) := Below.grown hxZ hgA hxZ.size (fun j hj => by cases hj)
           have HOA : Hid _ := hownA
           have HMA : Hid (IsMG (atV [.slice none 0 0, .slice none 0 0, v8, va]) wA g lD) := (HMDX.out.ext HXYA.out).swap (by rw [← HLD.out, ← HV9.out]; intro e he; simp at he; rcases he with rfl | rfl <;> rfl)
           clear hownA hgA)
        | (refine set_mg 223 62 Tryz.underlying223 rfl _ _ _ rfl HMA.out (by rw [← HLD.out]; show 2 ≤ _; omega) rfl [] (by show 0 ≤ _; omega) rfl (fiN 3) rfl ?_; intro wB hmB hgB))
      have HWB : Hid (Ext w wB) := Below.grown (HX9.out.trans HXA.out) hgB (HX9.out.trans HXA.out).size (fun j hj => by cases hj; exact hlow)
      have HMB : Hid (IsMG (atV [.slice none 0 0, .slice none 0 0, v8, va]) wB g [([], fiN 3), ([97], fiN 2)]) := by
        have h9 := hmB
        rw [← HLD.out] at h9
        exact h9
      have hneA : va.ownBlock ≠ some g := by
        intro e
        obtain ⟨es, ck, hk⟩ := HMA.out.kind
        rcases HOA.out.2 with ⟨rfl, h0⟩ | ⟨q, c, cur, rfl, hbase, hb, h1, h2, h3, h4⟩
        · cases e
        · cases e
          rw [hk] at hb
          cases hb
      have HOB : Hid (wB.ownsRow w9.heap.size 209 3 va 1 [.int .i64 4, S8 [97], S8 t1]) := World.ownsRow.kept HOA.out hgB (.inr hneA)
      have HMA1 : Hid (IsMG (atV [u1]) wA gm [(t1, fiN 0)]) := HMX.out.ext HXYA.out
      have HMMB : Hid (IsMG (atV [u1]) wB gm [(t1, fiN 0)]) := HMA1.out.stay (hgB.block gm HMA1.out.lt (fun e => by cases e; omega))
      have y1B : wB.cell? ⟨qo, 1, none⟩ = some (S8 []) := hgB.cell (HSX.out.cell HDS.out.2 |> HXYA.out.cell) (fun e => by have e : some qo = some g := e; have h8 := HQO.out; cases e; omega)
      obtain ⟨q9, c9, hv9, hs9⟩ := item_sorts HOB.out
      have HS9 : Hid _ := hs9
      have HIT9 : Hid (IsItms wB va [⟨4, [97], t1⟩]) := Row.of_owns HOB.out (by omega)
      have HVA : Hid _ := hv9
      obtain ⟨-, hlk⟩ := HMB.out.look_run 223 62 (.slice none 0 0) Tryz.underlying223 (by kernel_rfl) [] (by show 0 ≤ _; omega)
      rw [show lookG (atV [.slice none 0 0, .slice none 0 0, v8, va]) (.slice none 0 0) [([], fiN 3), ([97], fiN 2)] [] = va from rfl] at hlk
      clear hmB hgB hneA hs9
      go_wp2_with fail
      rw [rounds_succ]
      go_upto_region 29 with fail
      clear hlk y1B
      try rw [hv9]
      go_wp2_with fail
      go_at_call 181
      refine Calls.mono HS9.out ?_
      rintro e xA ⟨rfl, hxA⟩
      have HBA : Hid (Ext wB xA) := hxA
      have HOE2 : Hid _ := oEnc_any (obV ⟨2, [], [⟨4, [97], t1⟩], [], [], 0, 0, []⟩ (.slice none 0 0) (.slice (some ⟨q9, 0, none⟩) 1 c9) (.slice none 0 0)) ⟨2, [], [⟨4, [97], t1⟩], [], [], 0, 0, []⟩ xA ⟨_, _, _, rfl, IsBytes.nil _, by rw [← HVA.out]; exact HIT9.out.ext hxA, IsStrs.nil _⟩ ⟨by intro x hx; simp at hx; subst hx; exact ⟨by show 1 ≤ _; omega, by show t1.length ≤ _; omega⟩, by simp, by simp, by simp⟩
      obtain ⟨e2, he2⟩ : ∃ r, encodeM (obT 4 [97] t1) = r := ⟨_, rfl⟩
      rw [show encodeM ⟨2, [], [⟨4, [97], t1⟩], [], [], 0, 0, []⟩ = e2 from he2] at HOE2
      rw [he2] at HT2 HL2
      clear hxA he2 hv9
      go_wp2_with fail
      go_at_call 126
      refine Calls.mono HOE2.out ?_
      rintro e xB ⟨⟨u2, rfl, hu2⟩, hxB⟩
      have HBB2 : Hid (Ext wB xB) := HBA.out.trans hxB
      have HU2 : Hid (IsBytes xB u2 e2.1) := Row.of_owns hu2 (by have := HL2.out; omega)
      have HID2 : Hid (Calls Tryz.prog 35 #[u2] xB fun e w' => e = .returned (S8 t2) ∧ Ext xB w') := by
        have h9 := id_sha u2 e2.1 xB (HES.out.ext (HWB.out.trans HBB2.out)) HU2.out HL2.out
        rw [HT2.out] at h9
        exact h9
      clear hu2 hxB
      go_wp2_with fail
      go_at_call 35
      refine Calls.mono HID2.out ?_
      rintro e xC ⟨rfl, hxC⟩
      have HBC : Hid (Ext wB xC) := HBB2.out.trans hxC
      have HMC : Hid (IsMG (atV [u1, u2]) xC gm [(t1, fiN 0)]) := (HMMB.out.ext HBC.out).swap (by intro e he; simp at he; subst he; rfl)
      have HUU : Hid ((∃ a n c, u1 = .slice a n c) ∧ ∃ a n c, u2 = .slice a n c) := by
        obtain ⟨a1, c1, h1, -⟩ := HU1.out.get
        obtain ⟨a2, c2, h2, -⟩ := HU2.out.get
        exact ⟨⟨_, _, _, h1⟩, ⟨_, _, _, h2⟩⟩
      clear hxC
      go_upto_region 33 with (refine set_mg 229 45 Tryz.underlying229 rfl _ _ _ rfl HMC.out (by show 1 ≤ _; omega) rfl t2 (by omega) rfl (fiN 1) rfl ?_; intro xD hmD hgD)
      have HWD : Hid (Ext w xD) := Below.grown (HWB.out.trans HBC.out) hgD (HWB.out.trans HBC.out).size (fun j hj => by cases hj; have := HX9.out.size; omega)
      obtain ⟨lM, hlM⟩ : ∃ l, putF [(t1, fiN 0)] t2 (fiN 1) = l := ⟨_, rfl⟩
      have HLM : Hid _ := hlM
      rw [hlM] at hmD
      have HMD2 : Hid (IsMG (atV [u1, u2]) xD gm lM) := hmD
      have HRM : Hid (Rising lM) := by rw [← hlM]; exact Rising.put (by unfold Rising; simp) _ _
      have HLL : Hid (lM.length = 2) := by
        rw [← hlM]
        have hn := HNE.out
        unfold putF delF
        simp only [List.filter, hn, Bool.not_false]
        unfold insF
        split <;> rfl
      have HRI : Hid _ := rising_any (atV [u1, u2]) gm lM xD HRM.out HMD2.out (by rw [HLL.out]; omega) (by
        intro p hp
        rw [← HLM.out] at hp
        obtain ⟨e, he, rfl⟩ := List.mem_map.1 hp
        rcases mem_putF he with rfl | ⟨h1, -⟩
        · show t2.length ≤ _; omega
        · simp at h1; subst h1; show t1.length ≤ _; omega) (by
        intro p f hf
        unfold look at hf
        rw [← HLM.out] at hf
        obtain ⟨e, he, rfl⟩ := Option.map_eq_some_iff.1 hf
        rcases mem_putF (List.mem_of_find?_eq_some he) with rfl | ⟨h1, -⟩
        · exact HUU.out.2
        · simp at h1; subst h1; exact HUU.out.1)
      rw [HLL.out] at HRI
      clear hlM hmD hgD
      go_wp2_with fail
      rw [rounds_succ]
      go_wp2_with fail
      go_at_call 184
      refine Calls.mono HRI.out ?_
      rintro e xE ⟨⟨ra, rc, rfl⟩, hxE⟩
      go_wp2
      go_ret3
      exact ⟨⟨_, _, _, rfl, HVT.out, ht2l⟩, HWD.out.trans hxE⟩
    · intro q f wa cnta hlk hlx hrga hlta hga hsa hen
      have hst := strike_perm (f := f) hlx HR9.out hlk
      have hpm1 : ((C ++ [q]) ++ pathsL (leftF (strike left q) lD)).Perm (pathsL lD) := by
        refine List.Perm.trans ?_ HPM.out
        rw [List.append_assoc]
        refine List.Perm.append_left C ?_
        exact (List.Perm.map Prod.fst hst).symm
      have HMM : Hid _ := hpm1
      have hne := row_ne_iter HOW.out hrg
      have hown1 := World.ownsRow.kept HOW.out hga (.inr hne.symm)
      have hx1 : Ext w9 wa := Below.grown HXR.out hga HXR.out.size (fun j hj => by cases hj; exact Nat.le_refl _)
      have hxa : Ext wa (wa.alloc (.cells #[S8 q] 9)) := (Ext.refl _).alloc _
      have hown2 := owns_ext hown1 hxa
      have hx2 := hx1.trans hxa
      have hsz : w9.heap.size ≤ (wa.alloc (.cells #[S8 q] 9)).heap.size := hx2.size
      have hrg2 := hrga.alloc (.cells #[S8 q] 9)
      have HNE2 : Hid _ := row_ne_iter hown2 hrg2
      have HLOW : Hid _ := row_ne_low hown2 hbl
      obtain ⟨fv, hfv⟩ : ∃ fv, V9 f = fv := ⟨_, rfl⟩
      rw [hfv] at hen
      clear hlk hst hpm1 hlx hne hown1 hx1 hxa hsa
      go_wp2_with (at_builtin; go_must (refine app_str rfl _ _ rfl w9.heap.size _ C.length C rfl hown2 wa.heap.size 1 1 [q] rfl rfl (alloc_at _ _) (by omega) hsz ?_); intro v' w3 hown3 hgr3)
      go_roundw
      case rel => exact ⟨_, cnta, C ++ [q], hrg2.kept hgr3 HLOW.out HNE2.out, by unfold Hid; rw [List.length_append]; exact hown3, HMM.out, Below.grown hx2 hgr3 hx2.size (fun j hj => (hown2.lt j hj).1)⟩
      case measure => rw [(hrg2.kept hgr3 HLOW.out HNE2.out).left_eq, hrg.left_eq]; exact hlta
end Go.Proofs.YtfgdmlmfgnhpaaaGreatDoor

/-! marref.Unique, of whatever texts. Conditions: as each theorem states. -/
namespace Go.Proofs.YtfgdmlmfgnhpaaaGreatDoor
open Go Go.RowKit
set_option linter.unusedVariables false
set_option linter.unusedSimpArgs false

theorem uniqT_nil : uniqT [] = [] := uniqT_id List.Pairwise.nil
/-- What holds while the inner append is done. -/
structure UJ (w0 : World) (s : B8) (D : List B8) (z7 z11 : Option Value) (w : World) : Prop where
  ext : Ext w0 w
  o11 : z11 ≠ none → z7 ≠ none
  f7 : z11 = none → ∀ v, z7 = some v → w.ownsRow w0.heap.size 9 1 v 1 [S8 s]
  f11 : ∀ v, z11 = some v → w.ownsRow w0.heap.size 9 1 v (1 + D.length) ([S8 s] ++ D.map S8)
section
variable {w0 w w' : World} {s : B8} {D : List B8} {z7 z11 : Option Value}
theorem UJ.more (h : UJ w0 s D z7 z11 w) (hx : Ext w w') : UJ w0 s D z7 z11 w' :=
  ⟨h.ext.trans hx, h.o11, fun h1 v hv => owns_ext (h.f7 h1 v hv) hx, fun v hv => owns_ext (h.f11 v hv) hx⟩
theorem UJ.start (hx : Ext w0 w) : UJ w0 s D none none w := ⟨hx, fun h => absurd rfl h, fun _ v hv => (by cases hv), fun v hv => (by cases hv)⟩
end
end Go.Proofs.YtfgdmlmfgnhpaaaGreatDoor

/-! scan.entries, scan.paths, marref16.Paths: what they answer. Conditions: as each theorem states. -/
namespace Go.Proofs.YtfgdmlmfgnhpaaaGreatDoor
open Go Go.RowKit Go.Sort
set_option linter.unusedVariables false
set_option linter.unusedSimpArgs false
set_option linter.unusedSectionVars false

/-- The slice holds slices that hold these rows. -/
structure IsTbs (w : World) (v : Value) (us : List Value) (ls : List (List Rw)) : Prop where
  row : Row w v us.length us
  len : us.length = ls.length
  each : ∀ (k : Nat) (u : Value) (l : List Rw), us[k]? = some u → ls[k]? = some l → IsRws w u l
theorem IsTbs.ext {w w' : World} {v : Value} {us : List Value} {ls : List (List Rw)} (h : IsTbs w v us ls) (hx : Ext w w') : IsTbs w' v us ls :=
  ⟨h.row.ext hx, h.len, fun k u l h1 h2 => (h.each k u l h1 h2).ext hx⟩
theorem pathsLs_len2 (ls : List (List Rw)) (k : Nat) : (pathsLs (ls.take k)).length ≤ (pathsLs ls).length := by
  unfold pathsLs
  have h : ls.flatMap (fun l => l.map (·.path)) = (ls.take k).flatMap (fun l => l.map (·.path)) ++ (ls.drop k).flatMap (fun l => l.map (·.path)) := by
    rw [← List.flatMap_append, List.take_append_drop]
  rw [h, List.length_append]
  omega
theorem map_take_snoc {l : List Rw} {j : Nat} {x : Rw} (h : l[j]? = some x) : (l.take (j + 1)).map (·.path) = (l.take j).map (·.path) ++ [x.path] := by rw [take_snocR h, List.map_append]; rfl

end Go.Proofs.YtfgdmlmfgnhpaaaGreatDoor
