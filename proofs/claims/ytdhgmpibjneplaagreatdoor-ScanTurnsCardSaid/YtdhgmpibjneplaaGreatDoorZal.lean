/- marlaw13.Few, patterns. Conditions: as each theorem states. -/
import Derived.Test.YtdhgmpibjneplaaGreatDoorZak
import Derived.Test.YtdhgmpibjneplaaGreatDoorZag
import Derived.Test.YtdhgmpibjneplaaGreatDoorZai
import Derived.Test.YtdhgmpibjneplaaGreatDoorZaf
import Derived.Test.YtdhgmpibjneplaaGreatDoorZad
import Derived.Test.YtdhgmpibjneplaaGreatDoorCards
import Derived.Test.YtdhgmpibjneplaaGreatDoorTie
import Derived.OpenShut
import Derived.LaidMore
import Derived.Lay
import Derived.Deep.DeepHandedRow
import Derived.Lib.LaidTab
import Derived.Stop.LaidErr
import Derived.ProofKit
import Derived.SizedLaws
import Derived.Deep.Slices
import Derived.Deep.Fields
import Derived.ChangeSame

set_option linter.unusedVariables false
set_option linter.unusedSimpArgs false
set_option linter.unusedSectionVars false

/-! scan: Scan. Conditions: as each theorem states. -/
namespace Go.Proofs.YtdhgmpibjneplaaGreatDoor
open Go Go.RowKit Go.Sort
set_option linter.unusedVariables false
set_option linter.unusedSimpArgs false
set_option linter.unusedSectionVars false

theorem load0_run {w : World} {g : Nat} {c : Int} (hc : w.cell? ⟨g, 0, none⟩ = some (.int .i64 c)) : (callFunc 132 #[.pointer (some ⟨g, 0, none⟩)]).run Tryz.prog w = .ok (.value (.int .i64 c)) w :=
  run_call_load (P := Tryz.prog) Tryz.func132 (by kernel_rfl) (by kernel_rfl) (by kernel_rfl) .i64 (by kernel_rfl) hc
set_option maxRecDepth 100000 in
theorem load0_any {w : World} {g : Nat} {c : Int} (hc : w.cell? ⟨g, 0, none⟩ = some (.int .i64 c)) :
    Calls Tryz.prog 83 #[.pointer (some ⟨g, 0, none⟩)] w fun e w' => e = .returned (.int .i64 c) ∧ w' = w := by
  have hl := load0_run hc
  go_enter Tryz.func83, Tryz.ntmps83
  go_wp2
  go_ret
  exact ⟨rfl, rfl⟩
set_option maxRecDepth 100000 in
theorem counterGet_any {w : World} {g : Nat} {c : Int} (hg : w.heap[g]? = some (.cells #[.int .i64 c] 128 (0, 0))) :
    Calls Tryz.prog 44 #[.pointer (some ⟨g, 0, none⟩)] w fun e w' => e = .returned (.int .i64 c) ∧ w' = w := by
  have hc : w.cell? ⟨g, 0, none⟩ = some (.int .i64 c) := (cell_of_row _ _ 0 _ _ _ hg).trans rfl
  clear hg
  go_enter Tryz.func44, Tryz.ntmps44
  go_wp2_with (go_at_call 83; go_must (refine (load0_any hc).mono ?_; rintro e w' ⟨rfl, rfl⟩))
  go_ret
  exact ⟨rfl, rfl⟩
theorem trimW_any (p : B8) (w : World) : Calls Tryz.prog 39 #[S8 p, .string ⟨#[119, 47]⟩] w fun e w' => e = .returned (S8 (cutW p)) ∧ w' = w :=
  Tryz.strings_TrimPrefix ⟨p.toArray⟩ ⟨#[119, 47]⟩ w
theorem info_rw : (Tryz.prog.info? 62).map (fun i => (i.zero, i.size, i.bytes)) = some (some (.agg #[S8 [], .int .i64 0, S8 []]), 3, 40) := by kernel_rfl
section
variable {ops : Array Oper} {rest : List Oper} {o : Oper} {a : Act} {Q : Exit → Act → World → Prop} {w : World}
/-- append of a row that lies in a block known whole; where the slice then lies. -/
theorem app_rw (hgd : o.guard = none) (s x : Operand) (ho : o.op = .call { callee := .builtin .append, args := #[s, x], argTypes := #[41, 41] })
    (base : Nat) (v : Value) (n : Nat) (xs : List Value) (hs : a.eval s = v) (hown : w.ownsRow base 62 3 v n xs)
    (g c : Nat) (r : Rw) (hx : a.eval x = .slice (some ⟨g, 0, none⟩) 1 c) {fr : Nat × Nat} (hg : w.heap[g]? = some (.cells #[S8 r.path, .int .i64 r.mode, S8 r.id] 62 fr))
    (hb : n ≤ 10000000) (hbase : base ≤ w.heap.size)
    (h : ∀ v' w', w'.ownsRow base 62 3 v' (n + 1) (xs ++ rwC r) → w.grownBy w' v.ownBlock → (∀ k, v'.ownBlock = some k → v.ownBlock = some k ∨ w.heap.size ≤ k) → wpList Tryz.prog ops Q rest (a.put o.dst v') w') : wpList Tryz.prog ops Q (o :: rest) a w := by
  obtain ⟨i0, hi, hz0, hz1, hz2⟩ := info_parts info_rw
  exact wpList_append_own_at w hgd s x _ ho base _ i0 _ 3 40 Tryz.underlying41 hi hz0 hz1 hz2 rfl (by omega) v n xs hs hown ⟨g, 0, none⟩ 1 c (rwC r) hx rfl (by simpa [rwC] using news_of_block hg) (fun u hu => by simp [rwC] at hu; rcases hu with rfl | rfl | rfl <;> rfl) (by unfold maxLen; omega) (by omega) hbase
    (fun v' w' h1 h2 _ h4 => h v' w' h1 h2 (fun k hk => by
      rcases h4 with h4 | h4
      · exact .inl (h4.symm.trans hk)
      · rw [h4] at hk; simp only [Option.some.injEq] at hk; exact .inr (by omega)))
end
theorem row_same {w w' : World} {v : Value} {n : Nat} {cs : List Value} (h : Row w v n cs) (hb : ∀ q, v.ownBlock = some q → w'.heap[q]? = w.heap[q]?) : Row w' v n cs := by
  obtain ⟨a, cap, rfl, h1, h2, h3, h4⟩ := h
  refine ⟨a, cap, rfl, h1, h2, h3, fun hn => ?_⟩
  obtain ⟨b, o, rfl, hc⟩ := h4 hn
  refine ⟨b, o, rfl, fun i u hu => ?_⟩
  have hcu := hc i u hu
  rw [World.cell?_of_block (w := w) (w' := w') (a := ⟨b, o + i, none⟩) (hb b rfl)]
  exact hcu
theorem own_low {w : World} {v : Value} {l : List B8} (h : IsStrs w v l) (hl : l ≠ []) : ∀ q, v.ownBlock = some q → q < w.heap.size := by
  obtain ⟨a, cap, rfl, h1, h2, h3, hg⟩ := h.get
  intro q hq
  have h0 : 0 < l.length := List.length_pos_iff.2 hl
  obtain ⟨b, o, rfl, hc⟩ := hg 0 h0
  have : b = q := by simpa [Value.ownBlock] using hq
  subst this
  exact World.block_lt_of_cell? _ _ (hc 0 h0)
theorem owns_same {w w' : World} {base : Nat} {e : TypeId} {size : Nat} {v : Value} {n : Nat} {xs : List Value} (h : w.ownsRow base e size v n xs) (hb : ∀ q, v.ownBlock = some q → w'.heap[q]? = w.heap[q]?) : w'.ownsRow base e size v n xs := by
  obtain ⟨hl, ⟨rfl, h0⟩ | ⟨g, cap, cur, rfl, h1, h2, h3⟩⟩ := h
  · exact ⟨hl, .inl ⟨rfl, h0⟩⟩
  · exact ⟨hl, .inr ⟨g, cap, cur, rfl, h1, (hb g rfl).trans h2, h3⟩⟩
theorem size_kmap : (Tryz.prog.info? 89).map (·.size) = some 1 := by kernel_rfl
theorem cutW_len (p : B8) : (cutW p).length ≤ p.length := trimP_len p dirW
theorem rel_store_one {c : Prop} [Decidable c] {ev : Operand → Value} {R : Value → World → Prop} {o : Oper} {w : World} (ty : TypeId) (x y : Operand) {g j : Nat} {v : Value} {t : TypeId} {cur new : Array Value} (hc : c) (ho : o.op = .store ty x y) (hx : ev x = .pointer (some ⟨g, j, none⟩)) (hy : ev y = v)
    (h1 : v.oneCell' = true) (hg : w.heap[g]? = some (.cells cur t (0, 0))) (hj : j + 1 ≤ cur.size) (hi : (Tryz.prog.info? ty).map (·.size) = some 1) (hnew : new = (cur.toList.take j ++ [v] ++ cur.toList.drop (j + 1)).toArray) (h : ∀ w', w'.heap[g]? = some (.cells new t (0, 0)) → w.grownBy w' (some g) → R undef w') :
    if c then relUpon Tryz.prog R ((execOp ev o).run Tryz.prog w) else R undef w := by
  rw [if_pos hc]
  have hs := run_storeCells_at (P := Tryz.prog) g j t [v] 0 cur w hg (by simpa using hj) (fun u hu => by simp at hu; subst hu; exact h1)
  have hcl : v.cells = #[v] := by cases v <;> first | rfl | cases h1
  have hr : (storeVar ty ⟨g, j, none⟩ v).run Tryz.prog w = .ok () (w.setRow g new) := by
    cases hq : Tryz.prog.info? ty with
    | none => simp [hq] at hi
    | some i =>
      have hs1 : i.size = 1 := by simpa [hq] using hi
      simp only [Nat.add_zero, List.length_cons, List.length_nil, Nat.zero_add] at hs
      rw [hnew]
      simp [storeVar, sizeOf, typeInfo, hq, hcl, hs1, hs]
  unfold execOp
  simp only [ho, hx, hy, Instr.storeAt, Instr.sureAddr, Sem.run_bind, Sem.run_pure, Result.andThen_ok, hr]
  exact h _ (setRow_heap _ _ _ _ _ _ hg) (setRow_grown _ _ _)
/-- Scan's last region: what its two stores have done. -/
structure GJ (w1 : World) (gi gx gm : Nat) (wt t : Int) (z10 z13 : Option Value) (w : World) : Prop where
  row : w.heap[gi]? = some (.cells #[.map (some (if z10 = none then gx else gm)), .int .i64 (if z13 = none then wt else t)] 91 (0, 0))
  fr : Fr (fun k => k = gi) w1 w
theorem GJ.cell {w1 w : World} {gi gx gm : Nat} {wt t : Int} {z10 z13 : Option Value} (h : GJ w1 gi gx gm wt t z10 z13 w) {b o : Nat} {v : Value} (hc : w1.cell? ⟨b, o, none⟩ = some v) (hb : b ≠ gi) : w.cell? ⟨b, o, none⟩ = some v := by
  rw [World.cell?_of_block (w := w1) (w' := w) (a := ⟨b, o, none⟩) (h.fr.block b (World.block_lt_of_cell? _ _ hc) (.inl hb))]
  exact hc
theorem GJ.set10 {w1 w w' : World} {gi gx gm : Nat} {wt t : Int} {z13 : Option Value} {x : Value} (h : GJ w1 gi gx gm wt t none z13 w) (hg : w'.heap[gi]? = some (.cells #[.map (some gm), .int .i64 (if z13 = none then wt else t)] 91 (0, 0))) (hw : w.grownBy w' (some gi)) : GJ w1 gi gx gm wt t (some x) z13 w' :=
  ⟨by rw [if_neg (by simp)]; exact hg, h.fr.step hw (fun k hk => by cases hk; exact .inl rfl) (fun k hk => by cases hk; exact cells_u8 h.row (by kernel_rfl))⟩
theorem GJ.set13 {w1 w w' : World} {gi gx gm : Nat} {wt t : Int} {z10 : Option Value} {x : Value} (h : GJ w1 gi gx gm wt t z10 none w) (hg : w'.heap[gi]? = some (.cells #[.map (some (if z10 = none then gx else gm)), .int .i64 t] 91 (0, 0))) (hw : w.grownBy w' (some gi)) : GJ w1 gi gx gm wt t z10 (some x) w' :=
  ⟨by rw [if_neg (show ¬ (some x = none) by simp)]; exact hg, h.fr.step hw (fun k hk => by cases hk; exact .inl rfl) (fun k hk => by cases hk; exact cells_u8 h.row (by kernel_rfl))⟩
variable [Inhabited BaseW] [KW : Inhabited KeptW]
/-- A slice of the call's own grows. -/
theorem St.appG (hkp : ∀ k, keptW k = none) {w0 w w' : World} {S O : Nat → Prop} {f : Value} {gs gc : Nat} {m : Fs} {n : Int} (h : St w0 S O w f gs gc m n) {base size c : Nat} {T : TypeId} {vt : Value} {l : List Value} (hown : w.ownsRow base T size vt c l) (hg : w.grownBy w' vt.ownBlock) (hT : holdsT Tryz.prog 5 Tryz.prog.depth T = false)
    (hbs : gs < base ∧ gc < base) (h0 : w0.heap.size ≤ base) (hO : ∀ j, vt.ownBlock = some j → ¬ O j) (hS : ∀ j, base ≤ j → ¬ S j) : St w0 S O w' f gs gc m n := by
  have hlt := hown.lt
  obtain ⟨-, ⟨rfl, -⟩ | ⟨g, cap, cur, rfl, h1, h2, h3⟩⟩ := hown
  · exact h.more (Below.grown (Ext.refl w) hg (Nat.le_refl _) (fun k hk => by cases hk))
  · exact h.but (b := g) hg (Nat.le_trans h0 h1) (hO g rfl) (hS g h1) (cells_u8 h2 hT) (by omega) (by omega) (hkp g)
/-- What Scan hands back, and leaves. -/
structure ScanPost (w0 : World) (S O : Nat → Prop) (gs gc gi gx : Nat) (ix : Files) (wt : Int) (f : Value) (w : World) (n : Int) (L : Nat) (xr : Sc) (er : Int) (v : Value) (N : Int) (O' : Nat → Prop) (n' : Int) (w' : World) : Prop where
  reads : n ≤ n' ∧ n' ≤ n + 2 * L
  st : St w0 S O' w' f gs gc xr.m n'
  fr : FrX (fun j => j = gs ∨ j = gc ∨ j = gi) O O' w w'
  bad : er ≠ 0 → Ixs w0 O' gs gc w' gi gx ix wt
  good : er = 0 → N = xr.n ∧ w'.ownsRow w.heap.size 62 3 v xr.rows.length (xr.rows.flatMap rwC) ∧ (∀ k, v.ownBlock = some k → ¬ O' k) ∧ ∃ gx', Ixs w0 O' gs gc w' gi gx' xr.ix xr.m.time
set_option maxRecDepth 100000 in
set_option maxHeartbeats 16000000 in
theorem scan_any (hkp : ∀ k, keptW k = none) {w0 w : World} {S O : Nat → Prop} {f : Value} {gs gc gi gx : Nat} {m : Fs} {n wt : Int} {k : Nat} {ix : Files} (vp : Value) (pats : List B8) (h : St w0 S O w f gs gc m n) (hE : Env w0) (hS : EnvS w0) (hg : Good k m) (hk : k + 1 + 5 * (listM m wP).2.1.length ≤ 79000) (hn0 : 0 ≤ n) (hn1 : n + 2 * ((listM m wP).2.1.length : Nat) ≤ 90000)
    (hI : Ixs w0 O gs gc w gi gx ix wt) (hSI : ¬ S gi) (hid : ∀ p e, look ix p = some e → e.data.length ≤ 1000000) (hpv : IsStrs w0 vp pats) (hpl : ∀ p ∈ pats, p.length ≤ 1000000) :
    Calls Tryz.prog 14 #[f, .pointer (some ⟨gs, 0, none⟩), .pointer (some ⟨gi, 0, none⟩), vp] w fun e w' => ∃ (v : Value) (N : Int) (O' : Nat → Prop) (n' : Int), e = .returned (.tuple #[v, .int .i64 N, .int .i64 (scanGo m ix wt pats).2]) ∧ ScanPost w0 S O gs gc gi gx ix wt f w n (listM m wP).2.1.length (scanGo m ix wt pats).1 (scanGo m ix wt pats).2 v N O' n' w' := by
  obtain ⟨g, rfl⟩ : ∃ g, f = .pointer (some ⟨g, 0, none⟩) := by
    obtain ⟨g, gm, gd, vp, vl, vu, L, c0, hpe, -⟩ := h.one.fs
    exact ⟨g, hpe⟩
  obtain ⟨pa, pc, rfl, p1, p2, p3, -⟩ := hpv.get
  have hfin := One.fin h.one hE hg (by omega)
  have HSH : Hid _ := list_short (dir := wP) hg.ok hg.plan
  have hgl := good_list hg wP
  have HL : Hid _ := list2_any wP hfin (by decide)
  have hgo : scanGo m ix wt pats = if (listM m wP).2.2 ≠ 0 then (⟨(listM m wP).1, [], [], 0⟩, (listM m wP).2.2) else scanL ix wt pats (listM m wP).2.1 ⟨(listM m wP).1, [], [], 0⟩ := rfl
  obtain ⟨⟨m1, ss, e1⟩, hr⟩ : ∃ q, listM m wP = q := ⟨_, rfl⟩
  rw [hr] at HL HSH hgo hgl hk hn1 ⊢
  obtain ⟨⟨xr, er⟩, hR⟩ : ∃ q, scanGo m ix wt pats = q := ⟨_, rfl⟩
  rw [hR] at hgo ⊢
  have HGO : Hid _ := hgo
  have HSS : Hid (∀ s ∈ ss, s.length ≤ 200) := HSH
  have H : Hid (St w0 S O w (.pointer (some ⟨g, 0, none⟩)) gs gc m n) := h
  have HE : Hid (Env w0) := hE
  have HS : Hid (EnvS w0) := hS
  have HG1 : Hid (Good (k + 1) m1) := hgl
  have HI : Hid (Ixs w0 O gs gc w gi gx ix wt) := hI
  have HSI : Hid (¬ S gi) := hSI
  have HID : Hid (∀ p e, look ix p = some e → e.data.length ≤ 1000000) := hid
  have HPV : Hid (IsStrs w0 (.slice pa pats.length pc) pats) := hpv
  have HPL : Hid (∀ p ∈ pats, p.length ≤ 1000000) := hpl
  have HKP : Hid (∀ k, keptW k = none) := hkp
  have hkl : k + 1 + 5 * ss.length ≤ 79000 := hk
  have hnl : n + 2 * (ss.length : Nat) ≤ 90000 := hn1
  clear h hE hS hg hI hSI hid hpv hpl hkp hfin hgo hr hR hgl HSH hk hn1
  try dsimp only
  go_enter Tryz.func14, Tryz.ntmps14
  go_wp2_with fail
  go_at_call 38
  refine Calls.mono HL.out ?_
  rintro e w1 ⟨v, rfl, hv, wq, hpq, hxq, hvo⟩
  have H1 : Hid (St w0 S (Nw O w wq) w1 (.pointer (some ⟨g, 0, none⟩)) gs gc m1 n) := (St.post H.out hpq).more hxq
  have HF1 : Hid (FrX (fun j => j = gs ∨ j = gc ∨ j = gi) O (Nw O w wq) w w1) := (FrX.of (FrS.fr hpq) (.inl rfl) (.inr (.inl rfl))).trans (FrX.ext hxq)
  have HV : Hid (IsStrs w1 v ss) := hv
  obtain ⟨va, vc, rfl, l1, l2, l3, -⟩ := hv.get
  have HI1 : Hid (Ixs w0 (Nw O w wq) gs gc w1 gi gx ix wt) := (HI.out.frs (FrS.fr hpq)).ext hxq
  have HVO : Hid (∀ j, (Value.slice va ss.length vc).ownBlock = some j → wq.heap.size ≤ j) := hvo
  have HPQ : Hid (w.heap.size ≤ wq.heap.size ∧ wq.heap.size ≤ w1.heap.size) := ⟨hpq.fr.size, hxq.size⟩
  clear hv hpq hxq hvo HL
  try dsimp only
  by_cases her : e1 = 0
  case neg =>
    have h5n : (e1 == 0) = false := by simpa using her
    have h5m : (e1 != 0) = true := by simpa using her
    obtain ⟨rfl, rfl⟩ : xr = ⟨m1, [], [], 0⟩ ∧ er = e1 := by
      have h9 := HGO.out
      rw [if_pos her] at h9
      exact ⟨(Prod.mk.inj h9).1, (Prod.mk.inj h9).2⟩
    clear her
    go_wp2
    go_ret3
    exact ⟨_, _, _, n, rfl, ⟨⟨by omega, by omega⟩, H1.out, HF1.out, fun _ => HI1.out, fun h0 => absurd h0 (by simpa using h5n)⟩⟩
  subst her
  have HGO2 : Hid ((xr, er) = scanL ix wt pats ss ⟨m1, [], [], 0⟩) := by
    have h9 := HGO.out
    rw [if_neg (by simp)] at h9
    exact h9
  clear HGO
  go_wp2_with fail
  go_at_call 37
  refine (newCounter_any w1).mono ?_
  rintro e w2 ⟨rfl, hgw, hx2⟩
  have HX2 : Hid (Ext w1 w2) := hx2
  have h13 := (Array.getElem?_eq_some_iff.1 hgw).1
  have HGW : Hid _ := hgw
  clear hx2 hgw
  go_wp2_with fail
  go_at_call 13
  refine (newIndex_any w2).mono ?_
  rintro e w3 ⟨⟨gn, gm, rfl, hgn, hgm, hs1, hs2, hs3⟩, hx3⟩
  have HX3 : Hid (Ext w1 w3) := HX2.out.trans hx3
  have hgw3 := Ext.row hx3 HGW.out
  have HGW3 : Hid _ := hgw3
  have HGN : Hid _ := hgn
  have HGM : Hid _ := hgm
  obtain ⟨gw, hgw⟩ : ∃ gw, w1.heap.size = gw := ⟨_, rfl⟩
  rw [hgw] at HGW3 ⊢
  clear hx3 hgn hgm hgw3 HGW HX2
  subst hs2
  have hqz := HPQ.out
  have hlt1 := H.out.lt
  have HNO : Hid (∀ j, wq.heap.size ≤ j → ¬ Nw O w wq j) := fun j hj ho => by
    rcases ho with ho | ho
    · have := (H.out.one.lo j ho).2; omega
    · omega
  have hsz2 := (Array.getElem?_eq_some_iff.1 HGW3.out).1
  obtain ⟨OA, hOA⟩ : ∃ OA, Nw O w wq = OA := ⟨_, rfl⟩
  rw [hOA] at H1 HF1 HI1 HNO
  clear hOA
  have hlti := HI.out.lt
  have HFIN : Hid (∀ (O1 : Nat → Prop) (wz : World), FrX (fun j => j = gs ∨ j = gc ∨ j = gw ∨ j = gm) OA O1 w3 wz → FrX (fun j => j = gs ∨ j = gc ∨ j = gi) O O1 w wz ∧ Ixs w0 O1 gs gc wz gi gx ix wt) := fun O1 wz hf => by
    have hii := HI1.out
    have hi1 := hii.oi
    have hi2 := hii.ox
    refine ⟨fun q hq hO hX => ?_, (hii.ext HX3.out).frx hf (by omega) (by omega)⟩
    obtain ⟨a1, a2⟩ := HF1.out q hq hO hX
    have hq1 : q < w1.heap.size := by omega
    have hb := HX3.out.block q hq1
    obtain ⟨b1, b2⟩ := hf q (by have := HX3.out.size; omega) a2 (by omega)
    exact ⟨b1.trans (hb.trans a1), b2⟩
  have H3 : Hid (St w0 S OA w3 (.pointer (some ⟨g, 0, none⟩)) gs gc m1 n) := H1.out.more HX3.out
  have HX0 : Hid (ScN 0 ⟨m1, [], [], 0⟩) := ⟨Nat.zero_le _, Nat.zero_le _, Nat.zero_le _, Nat.zero_le _⟩
  go_wp2
  go_loopw [15, 34] (fun vr i wz => ∃ (j : Nat) (x : Sc) (O1 : Nat → Prop) (n1 : Int), j ≤ ss.length ∧ i = .int .i64 j ∧ Hid ((xr, er) = scanL ix wt pats (ss.drop j) x) ∧ Hid (St w0 S O1 wz (.pointer (some ⟨g, 0, none⟩)) gs gc x.m n1) ∧ (n ≤ n1 ∧ n1 ≤ n + 2 * j) ∧ Hid (Good (k + 1 + 5 * j) x.m) ∧ Hid (ScN j x) ∧ wz.ownsRow w3.heap.size 62 3 vr x.rows.length (x.rows.flatMap rwC) ∧ Hid (∀ q, vr.ownBlock = some q → ¬ O1 q) ∧ Hid (IsMG knV wz gm x.ix ∧ ¬ O1 gm) ∧ Hid (wz.heap[gw]? = some (.cells #[.int .i64 x.n] 128 (0, 0)) ∧ ¬ O1 gw) ∧ Hid (FrX (fun j => j = gs ∨ j = gc ∨ j = gw ∨ j = gm) OA O1 w3 wz)) (fun _ i _ => ss.length - (intOf i).toNat)
  case atStart => exact ⟨0, ⟨m1, [], [], 0⟩, OA, n, Nat.zero_le _, rfl, HGO2, H3, ⟨by omega, by omega⟩, HG1, HX0, World.ownsRow_nil _ _ _ _, (fun q hq => by cases hq), ⟨HGM.out, HNO.out gm (by omega)⟩, ⟨HGW3.out, HNO.out gw (by omega)⟩, FrX.ext (Ext.refl _)⟩
  case round =>
  obtain ⟨j, x, O1, n1, hj, rfl, HRL, HST, ⟨hn2, hn3⟩, HGD, HSN, hown, HVN, HMG, HCW, HFR⟩ := hrel
  have hrn := HSN.out.rows
  have hrn2 := HSN.out.rows2
  have hxn := HSN.out.n
  have hxi := HSN.out.ix
  obtain ⟨ra, rc, rfl, -⟩ := Row.of_owns hown (by omega)
  by_cases hlt : j < ss.length
  case neg =>
    have hkk : j = ss.length := by omega
    subst hkk
    obtain ⟨rfl, rfl⟩ : xr = x ∧ er = 0 := by
      have h9 := HRL.out
      rw [List.drop_length, scanL] at h9
      exact ⟨(Prod.mk.inj h9).1, (Prod.mk.inj h9).2⟩
    obtain ⟨hff, hii⟩ := HFIN.out _ _ HFR.out
    have HII : Hid _ := hii
    have HFF : Hid (FrX (fun j => j = gs ∨ j = gc ∨ j = gi) O O1 w wr) := hff
    have hgnr : wr.heap[gm + 1]? = some (.cells #[.map (some gm), .int .i64 0] 91 (0, 0)) := (HFR.out.row HGN.out (HNO.out (gm + 1) (by omega)) (by omega)).1
    have d0 : wr.cell? ⟨gm + 1, 0, none⟩ = some (.map (some gm)) := (cell_of_row _ _ 0 _ _ _ hgnr).trans rfl
    clear hff hii hgnr HRL
    go_upto_region 24 with fail
    have HJ0 : Hid (GJ wr gi gx gm wt xr.m.time none none wr) := ⟨HII.out.row, Fr.of_ext (Ext.refl _)⟩
    have HNW : Hid (∀ wz, GJ wr gi gx gm wt xr.m.time none none wr → Fr (fun k => k = gi) wr wz → Calls Tryz.prog 43 #[.pointer (some ⟨g, 0, none⟩)] wz fun e w' => e = .returned (.int .i64 (xr.m.time : Int)) ∧ w' = wz) := fun wz _ hf => now_any (HST.out.one.fs.other hf (fun k hk e => HII.out.oi.1 (by cases e; exact hk)) (fun k hk e => HSI.out (by cases e; exact hk)))
    have hgmi : gm + 1 ≠ gi := by omega
    apply wp_region_inv 14 (fun z w' => GJ wr gi gx gm wt xr.m.time (z 10) (z 13) w') [false, false, false, false, false, false, false, false, false, false, true, false, false, true] [.pointer (some ⟨gi, 0, none⟩), .pointer (some ⟨gi, 0, none⟩), _, _, _, .map (some gm), _, .int .i64 (xr.m.time : Int), _, .pointer (some ⟨gi, 0, none⟩), undef, _, .pointer (some ⟨gi, 1, none⟩), undef] [none, none, none, none, none, none, none, none, none, none, none, none, none, none] [[], [], [], [2], [3], [4], [], [6], [0], [8], [5, 9], [1], [11], [7, 12]] (by kernel_rfl) (by kernel_rfl) rfl
    · exact ⟨HJ0.out.row, ⟨rfl, rfl, rfl, Nat.le_refl _, fun _ _ _ => rfl⟩⟩
    · simp (maxSteps := 1000000) only [oblI, stepI, knowsI, getP, mixP, List.getD_cons_zero, List.getD_cons_succ, Bool.false_eq_true, if_false, if_true, and_true, true_and, forall_const, Nat.zero_add, Nat.reduceAdd, List.take_succ_cons, List.take_zero, fillFrom, Act.put, List.setIfInBounds_toArray, List.set_cons_zero, List.set_cons_succ]
      refine ⟨?_, ?_, ?_, ?_, ?_, ?_, ?_, ?_, ?_, ?_, ?_, ?_, ?_, ?_⟩
      · intro xs z wq hj R hR
        have f0 := GJ.cell hj d0 hgmi
        go_simp
        exact hR _ _ hj rfl
      · intro xs z wq hj R hR
        have f0 := GJ.cell hj d0 hgmi
        go_simp
        exact hR _ _ hj rfl
      · intro xs z wq hj R hR
        have f0 := GJ.cell hj d0 hgmi
        go_simp
        exact hR _ _ hj rfl
      · intro xs z wq hj hk R hR
        have f0 := GJ.cell hj d0 hgmi
        go_simp
        exact hR _ _ hj rfl
      · intro xs z wq hj hk R hR
        have f0 := GJ.cell hj d0 hgmi
        go_simp
        exact hR _ _ hj rfl
      · intro xs z wq hj hk R hR
        have f0 := GJ.cell hj d0 hgmi
        go_simp
        exact hR _ _ hj rfl
      · intro xs z wq hj R hR
        have f0 := GJ.cell hj d0 hgmi
        go_simp
        exact hR _ _ hj rfl
      · intro xs z wq hj hk R hR
        go_simp
        exact (HNW.out _ HJ0.out hj.fr).mono (by rintro e' w4 ⟨rfl, rfl⟩; exact ⟨_, rfl, hR _ _ hj rfl⟩)
      · intro xs z wq hj hk R hR
        have f0 := GJ.cell hj d0 hgmi
        go_simp
        exact hR _ _ hj rfl
      · intro xs z wq hj hk R hR
        have f0 := GJ.cell hj d0 hgmi
        go_simp
        exact hR _ _ hj rfl
      · intro xs z wq hj hz hk R hR
        obtain ⟨hk0, hk1⟩ := hk
        rw [hz] at hj
        apply rel_store_one 89 (.tmp 96) (.tmp 92) (g := gi) (j := 0) (v := .map (some gm)) (t := 91) (new := #[.map (some gm), .int .i64 (if z 13 = none then wt else (xr.m.time : Int))])
        · rfl
        · rfl
        · exact hk1
        · exact hk0
        · rfl
        · exact hj.row
        · exact Nat.le_of_ble_eq_true rfl
        · exact size_kmap
        · simp
        · intro w' hg hgr; exact hR _ _ (GJ.set10 hj hg hgr)
      · intro xs z wq hj hk R hR
        have f0 := GJ.cell hj d0 hgmi
        go_simp
        exact hR _ _ hj rfl
      · intro xs z wq hj hk R hR
        have f0 := GJ.cell hj d0 hgmi
        go_simp
        exact hR _ _ hj rfl
      · intro xs z wq hj hz hk R hR
        obtain ⟨hk0, hk1⟩ := hk
        rw [hz] at hj
        apply rel_store_one 3 (.tmp 98) (.tmp 94) (g := gi) (j := 1) (v := .int .i64 (xr.m.time : Int)) (t := 91) (new := #[.map (some (if z 10 = none then gx else gm)), .int .i64 (xr.m.time : Int)])
        · rfl
        · rfl
        · exact hk1
        · exact hk0
        · rfl
        · exact hj.row
        · exact Nat.le_of_ble_eq_true rfl
        · exact size_int
        · simp
        · intro w' hg hgr; exact hR _ _ (GJ.set13 hj hg hgr)
    intro xs wB hjB hk
    simp only [zAll, List.getD_cons_zero, List.getD_cons_succ, Bool.false_eq_true, if_false, if_true] at hjB
    simp only [heldI, Nat.zero_add, Nat.reduceAdd, and_true] at hk
    obtain ⟨q0, q1, q2, q3, q4, q5, q6, q7, q8, q9, q11, q12⟩ := hk
    simp (maxSteps := 1000000) only [List.drop_succ_cons, List.drop_zero, Nat.zero_add, Nat.reduceAdd, List.take_succ_cons, List.take_zero, fillFrom, Act.put, List.setIfInBounds_toArray, List.set_cons_zero, List.set_cons_succ, q0, q1, q2, q3, q4, q5, q6, q7, q8, q9, q11, q12]
    clear q0 q1 q2 q3 q4 q5 q6 q7 q8 q9 q11 q12
    generalize xs 10 = x10 at *
    generalize xs 13 = x13 at *
    have hgD : wB.heap[gi]? = some (.cells #[.map (some gm), .int .i64 (xr.m.time : Int)] 91 (0, 0)) := by
      have h9 := hjB.row
      rw [if_neg (by simp), if_neg (by simp)] at h9
      exact h9
    have hgr : wr.grownBy wB (some gi) := ⟨hjB.fr.os, hjB.fr.tape, hjB.fr.output, hjB.fr.size, fun q hq hne => hjB.fr.block q hq (.inl (fun e => hne (by rw [e])))⟩
    have hne1 : gw ≠ gi := by omega
    have hcD := but_row hgr HCW.out.1 hne1
    have HGD : Hid _ := hgD
    have HGR : Hid (wr.grownBy wB (some gi)) := hgr
    clear hjB hgD hgr d0 hgmi
    go_wp2_with fail
    go_at_call 44
    refine (counterGet_any hcD).mono ?_
    rintro e wD ⟨rfl, rfl⟩
    go_wp2
    go_ret3
    have hgr := HGR.out
    have hoi := HII.out.oi
    have hlo := HII.out.lo
    have huC : ¬ IsU8 wr gi := cells_u8 HII.out.row (by kernel_rfl)
    have hstD := HST.out.but hgr hlo.1 hoi.1 HSI.out huC (fun e => hoi.2.1 e.symm) (fun e => hoi.2.2 e.symm) (HKP.out gi)
    have hfD : FrX (fun j => j = gs ∨ j = gc ∨ j = gi) O O1 w wD := HFF.out.trans (FrX.but hgr (.inr (.inr rfl)))
    have hoD : wD.ownsRow w.heap.size 62 3 (.slice ra xr.rows.length rc) xr.rows.length (xr.rows.flatMap rwC) := World.ownsRow.mono (owns_same hown (fun q hq2 => hgr.block q (hown.lt q hq2).2 (fun e => by have := (hown.lt q hq2).1; cases e; omega))) (by omega)
    have hne2 : gm ≠ gi := by omega
    have hmD : IsMG knV wD gm xr.ix := HMG.out.1.stay (hgr.block gm HMG.out.1.lt (fun e => hne2 (by cases e; rfl)))
    have hw0 := H.out.one.ext.size
    exact ⟨_, _, O1, n1, rfl, ⟨⟨hn2, by omega⟩, hstD, hfD, fun h0 => absurd rfl h0, fun _ => ⟨rfl, hoD, HVN.out, gm, ⟨HGD.out, hmD, ⟨hlo.1, by omega⟩, hoi, ⟨HMG.out.2, by omega, by omega⟩⟩⟩⟩⟩
  obtain ⟨p, hpe⟩ : ∃ p, ss[j]? = some p := ⟨_, List.getElem?_eq_getElem hlt⟩
  have hpl2 := HSS.out p (List.mem_of_getElem? hpe)
  have hls : IsStrs wr (.slice va ss.length vc) ss := by
    refine row_same (IsStrs.ext HV.out HX3.out) (fun q hq => ?_)
    have hq1 := HVO.out q hq
    have hq2 := own_low HV.out (fun h0 => by rw [h0] at hlt; simp at hlt) q hq
    exact (HFR.out q (by have := HX3.out.size; omega) (HNO.out q hq1) (by omega)).1
  obtain ⟨_, _, he, -, -, -, hga⟩ := hls.get
  cases he
  obtain ⟨bb, oo, rfl, hc⟩ := hga j hlt
  have y1 := hc j hlt
  rw [show ss.getD j [] = p by rw [List.getD_eq_getElem?_getD, hpe]; rfl] at y1
  have hdp : ss.drop j = p :: ss.drop (j + 1) := by
    rw [List.drop_eq_getElem_cons hlt]
    congr 1
    exact (List.getElem?_eq_some_iff.1 hpe).2
  rw [hdp] at HRL
  have hcl := cutW_len p
  clear hls hga hc hpe hdp
  go_wp2_with fail
  go_at_call 39
  refine (trimW_any p wr).mono ?_
  rintro e w5 ⟨rfl, rfl⟩
  obtain ⟨ib, hib⟩ : ∃ b, ignB pats (cutW p) = b := ⟨_, rfl⟩
  have hig := ign_any (.slice pa pats.length pc) pats (cutW p) w5 (IsStrs.ext HPV.out HST.out.one.ext) (HE.out.ext HST.out.one.ext) HPL.out (by omega)
  rw [hib] at hig
  have HIG : Hid _ := hig
  have HIB : Hid _ := hib
  clear hig hib y1
  go_wp2_with fail
  go_at_call 40
  refine Calls.mono HIG.out ?_
  rintro e w6 ⟨rfl, hx6⟩
  have HX6 : Hid (Ext w5 w6) := hx6
  clear hx6 HIG
  cases ib with
  | true =>
    have hst : scanStep ix wt pats x p = (x, 0) := by unfold scanStep; rw [if_pos HIB.out]
    have HRL2 : Hid ((xr, er) = scanL ix wt pats (ss.drop (j + 1)) x) := by
      unfold Hid
      rw [HRL.out, step_next _ _ _ _ _ (by rw [hst]), hst]
    have HST6 : Hid _ := HST.out.more HX6.out
    have hown6 := owns_ext hown HX6.out
    have HFR6 : Hid _ := HFR.out.trans (FrX.ext HX6.out)
    have HMG6 : Hid _ := HMG.out.1.ext HX6.out
    have HCW6 : Hid _ := Ext.row HX6.out HCW.out.1
    have HSN6 : Hid (ScN (j + 1) x) := ⟨by omega, hrn2, by omega, by omega⟩
    clear hst
    go_wp2_with fail
    go_roundw
    case rel => exact ⟨j + 1, x, O1, n1, by omega, by go_num, HRL2, HST6, ⟨hn2, by omega⟩, HGD.out.mono (by omega), HSN6, hown6, HVN, ⟨HMG6.out, HMG.out.2⟩, ⟨HCW6.out, HCW.out.2⟩, HFR6⟩
    case measure => simp [intOf]; omega
  | false =>
  have HST6 : Hid (St w0 S O1 w6 (.pointer (some ⟨g, 0, none⟩)) gs gc x.m n1) := HST.out.more HX6.out
  have HFR6 : Hid (FrX (fun j => j = gs ∨ j = gc ∨ j = gw ∨ j = gm) OA O1 w3 w6) := HFR.out.trans (FrX.ext HX6.out)
  by_cases h256 : 256 ≤ x.rows.length
  · have h256b : (256 : Int) ≤ (x.rows.length : Int) := by omega
    obtain ⟨rfl, rfl⟩ : xr = x ∧ er = 14 := by
      have h9 := HRL.out
      have hst : scanStep ix wt pats x p = (x, 14) := by unfold scanStep; rw [if_neg (by rw [HIB.out]; simp), if_pos h256]
      rw [step_plan _ _ _ _ _ (by rw [hst]; exact (by decide : (14 : Int) ≠ 0)), hst] at h9
      exact ⟨(Prod.mk.inj h9).1, (Prod.mk.inj h9).2⟩
    clear h256
    go_wp2
    go_ret3
    exact ⟨_, _, O1, n1, rfl, ⟨⟨hn2, by omega⟩, HST6.out, (HFIN.out _ _ HFR6.out).1, fun _ => (HFIN.out _ _ HFR6.out).2, fun h0 => absurd h0 (by decide)⟩⟩
  have h256b : ¬ (256 : Int) ≤ (x.rows.length : Int) := by omega
  have hown6 := owns_ext hown HX6.out
  have hmg6 := HMG.out.1.ext HX6.out
  have hcw6 := Ext.row HX6.out HCW.out.1
  obtain ⟨⟨m7, fx, e7⟩, hr7⟩ : ∃ q, readM x.m p = q := ⟨_, rfl⟩
  have hg7 := good_read HGD.out p
  have hdl := read_len (p := p) HGD.out.ok HGD.out.plan
  have hrd := read_any p (One.fin HST6.out.one HE.out HGD.out (by omega)) (by omega)
  have hstp : scanStep ix wt pats x p = if e7 = 7 then ({ x with m := m7 }, 0) else if e7 ≠ 0 then ({ x with m := m7 }, e7) else hashStep ix wt x p (m7, fx) := by
    unfold scanStep
    rw [if_neg (by rw [HIB.out]; simp), if_neg h256, hr7]
  rw [hr7] at hg7 hdl hrd
  have hdl : fx.data.length ≤ 20000 := hdl
  have HG7 : Hid (Good (k + 1 + 5 * j + 1) m7) := hg7
  have HRD : Hid _ := hrd
  have HSTP : Hid _ := hstp
  have HMG6 : Hid _ := hmg6
  have HCW6 : Hid _ := hcw6
  clear hg7 hrd hstp hmg6 hcw6 hr7 h256 hown HST HFR HIB
  try dsimp only at hdl
  go_wp2_with fail
  go_at_call 41
  refine Calls.mono HRD.out ?_
  rintro e w7 ⟨⟨v7, rfl, hd7⟩, hp7⟩
  have HST7 : Hid (St w0 S (Nw O1 w6 w7) w7 (.pointer (some ⟨g, 0, none⟩)) gs gc m7 n1) := HST6.out.post hp7
  have HFS7 : Hid (FrS O1 (Nw O1 w6 w7) gs gc w6 w7) := FrS.fr hp7
  have HD7 : Hid (IsBytes w7 v7 fx.data ∧ TypB w7 v7) := ⟨hd7.bytes, hd7.typed⟩
  obtain ⟨z1, z2, rfl, -⟩ := hd7.bytes
  have h67 := hp7.fr.size
  clear hd7 hp7 HRD
  go_upto_region 15 with (refine wpList_store_row rfl 96 (.tmp 19) (.tmp 50) rfl _ #[.int .i64 fx.mode, .slice z1 fx.data.length z2, .int .i64 fx.time] rfl rfl 96 _ (alloc_at _ _) size_fi rfl (by simp [Value.oneCell']) ?_)
  obtain ⟨w8, hw8⟩ : ∃ w8, w8 = (w7.alloc (.cells #[.int .i64 0, .slice none 0 0, .int .i64 0] 96)).setRow w7.heap.size #[.int .i64 fx.mode, .slice z1 fx.data.length z2, .int .i64 fx.time] := ⟨_, rfl⟩
  rw [← hw8]
  have hx8 : Ext w7 w8 := by rw [hw8]; exact ((Ext.refl w7).alloc _).setRow _ _ (Nat.le_refl _)
  have hb8 : w8.heap[w7.heap.size]? = some (.cells #[.int .i64 fx.mode, .slice z1 fx.data.length z2, .int .i64 fx.time] 96 (0, 0)) := by rw [hw8]; exact setRow_heap _ _ _ _ _ _ (alloc_at _ _)
  obtain ⟨O8, hO8⟩ : ∃ O8, Nw O1 w6 w7 = O8 := ⟨_, rfl⟩
  rw [hO8] at HST7 HFS7
  clear hO8 hw8
  have HX8 : Hid (Ext w7 w8) := hx8
  have HB8 : Hid _ := hb8
  have HST8 : Hid (St w0 S O8 w8 (.pointer (some ⟨g, 0, none⟩)) gs gc m7 n1) := HST7.out.more hx8
  have HFS8 : Hid (FrS O1 O8 gs gc w6 w8) := HFS7.out.trans (FrS.ext hx8)
  have hlt8 := HST6.out.lt
  have HOF8 : Hid (¬ O8 w7.heap.size) := fun ho => by have := (HST7.out.one.lo _ ho).2; omega
  have hg6 : gw < w6.heap.size := (Array.getElem?_eq_some_iff.1 HCW6.out).1
  have hm6 := HMG6.out.lt
  have hneg : gw ≠ gs ∧ gw ≠ gc ∧ gm ≠ gs ∧ gm ≠ gc ∧ gw ≠ gm := ⟨by omega, by omega, by omega, by omega, by omega⟩
  have HNEG : Hid _ := hneg
  obtain ⟨hcw8, hcwo8⟩ := HFS8.out.row HCW6.out HCW.out.2 hneg.1 hneg.2.1
  obtain ⟨es6, ck6, hk6⟩ := HMG6.out.kind
  obtain ⟨hmk8, hmo8⟩ := HFS8.out.row hk6 HMG.out.2 hneg.2.2.1 hneg.2.2.2.1
  have hmg8 : IsMG knV w8 gm x.ix := HMG6.out.stay (hmk8.trans hk6.symm)
  have hvn8 : ∀ q, (Value.slice ra x.rows.length rc).ownBlock = some q → w8.heap[q]? = w6.heap[q]? ∧ ¬ O8 q ∧ q < w6.heap.size := fun q hq => by
    have hq6 := (hown6.lt q hq)
    obtain ⟨a1, a2⟩ := HFS8.out q hq6.2 (HVN.out q hq) (by omega) (by omega)
    exact ⟨a1, a2, hq6.2⟩
  have HVN8 : Hid (∀ q, (Value.slice ra x.rows.length rc).ownBlock = some q → w8.heap[q]? = w6.heap[q]? ∧ ¬ O8 q ∧ q < w6.heap.size) := hvn8
  have hown8 : w8.ownsRow w3.heap.size 62 3 (.slice ra x.rows.length rc) x.rows.length (x.rows.flatMap rwC) := owns_same hown6 (fun q hq => (hvn8 q hq).1)
  have HFR8 : Hid (FrX (fun j => j = gs ∨ j = gc ∨ j = gw ∨ j = gm) OA O8 w3 w8) := HFR6.out.trans (FrX.of HFS8.out (.inl rfl) (.inr (.inl rfl)))
  have HCW8 : Hid (w8.heap[gw]? = some (.cells #[.int .i64 x.n] 128 (0, 0)) ∧ ¬ O8 gw) := ⟨hcw8, hcwo8⟩
  have HMG8 : Hid (IsMG knV w8 gm x.ix ∧ ¬ O8 gm) := ⟨hmg8, hmo8⟩
  have HD8 : Hid (IsBytes w8 (.slice z1 fx.data.length z2) fx.data ∧ TypB w8 (.slice z1 fx.data.length z2)) := ⟨HD7.out.1.ext hx8, HD7.out.2.keep (KeepB.of_ext hx8)⟩
  clear hx8 hb8 hcw8 hcwo8 hk6 hmk8 hmo8 hmg8 hvn8 hown6 HFS7 HST7 HX8 HD7 hneg
  by_cases h77 : e7 = 7
  · have h77b : (e7 == 7) = true := by simpa using h77
    have hst : scanStep ix wt pats x p = ({ x with m := m7 }, 0) := by rw [HSTP.out, if_pos h77]
    have HRL2 : Hid ((xr, er) = scanL ix wt pats (ss.drop (j + 1)) { x with m := m7 }) := by
      unfold Hid
      rw [HRL.out, step_next _ _ _ _ _ (by rw [hst]), hst]
    have HSN6 : Hid (ScN (j + 1) { x with m := m7 }) := ⟨by show x.rows.length ≤ _; omega, hrn2, by show x.ix.length ≤ _; omega, by show x.n ≤ _; omega⟩
    have HVN9 : Hid (∀ q, (Value.slice ra x.rows.length rc).ownBlock = some q → ¬ O8 q) := fun q hq => (HVN8.out q hq).2.1
    have HG8 : Hid (Good (k + 1 + 5 * (j + 1)) m7) := HG7.out.mono (by omega)
    clear hst h77
    go_wp2_with fail
    go_roundw
    case rel => exact ⟨j + 1, { x with m := m7 }, O8, n1, by omega, by go_num, HRL2, HST8, ⟨hn2, by omega⟩, HG8, HSN6, hown8, HVN9, HMG8, HCW8, HFR8⟩
    case measure => simp [intOf]; omega
  have h77b : (e7 == 7) = false := by simpa using h77
  by_cases h70 : e7 = 0
  case neg =>
    have h70b : (e7 == 0) = false := by simpa using h70
    have h70c : (e7 != 0) = true := by simpa using h70
    obtain ⟨rfl, rfl⟩ : xr = { x with m := m7 } ∧ er = e7 := by
      have h9 := HRL.out
      have hst : scanStep ix wt pats x p = ({ x with m := m7 }, e7) := by rw [HSTP.out, if_neg h77, if_pos h70]
      rw [step_plan _ _ _ _ _ (by rw [hst]; exact h70), hst] at h9
      exact ⟨(Prod.mk.inj h9).1, (Prod.mk.inj h9).2⟩
    have HER : Hid (er ≠ 0) := h70
    clear h70 h77
    go_wp2
    go_ret3
    exact ⟨_, _, O8, n1, rfl, ⟨⟨hn2, by omega⟩, HST8.out, (HFIN.out _ _ HFR8.out).1, fun _ => (HFIN.out _ _ HFR8.out).2, fun h0 => absurd h0 HER.out⟩⟩
  subst h70
  clear h77
  have hw0 := H.out.one.ext.size
  have hSw : ¬ S gw := fun hs => by have := (H.out.one.loS gw hs).2; omega
  have hnf : w7.heap.size ≠ gs ∧ w7.heap.size ≠ gc ∧ w7.heap.size ≠ gw := ⟨by omega, by omega, by omega⟩
  have HNF : Hid _ := hnf
  have hhc := hash_any HKP.out (cutW p) fx (.slice z1 fx.data.length z2) HST8.out HE.out HS.out HG7.out (by omega) (by omega) (by omega) (HFIN.out _ _ HFR8.out).2 HCW8.out.1 ⟨by omega, HCW8.out.2, HNEG.out.1, HNEG.out.2.1, hSw⟩ (by omega) (by omega) (by omega) HD8.out hdl HID.out
  obtain ⟨⟨m9, c9, id9, e9⟩, hh9⟩ : ∃ q, hashX m7 ix wt (cutW p) fx = q := ⟨_, rfl⟩
  have hg9 := good_hash HG7.out ix wt (cutW p) fx
  have hcn9 := hash_n m7 ix wt (cutW p) fx
  have hstp : scanStep ix wt pats x p = if e9 ≠ 0 then ({ x with m := m9 }, e9) else (⟨m9, x.rows ++ [⟨cutW p, fx.mode, id9⟩], putF x.ix (cutW p) ⟨0, id9, fx.time⟩, x.n + c9⟩, 0) := by
    rw [HSTP.out, if_neg (by decide), if_neg (by simp)]
    unfold hashStep
    rw [hh9]
  rw [hh9] at hhc hg9 hcn9
  have HHC : Hid _ := hhc
  have HG9 : Hid (Good (k + 1 + 5 * j + 1 + 4) m9) := hg9
  have hcn9 : c9 ≤ 1 := hcn9
  have HST9P : Hid _ := hstp
  clear hhc hg9 hstp hh9 hSw hnf HSTP
  try dsimp only at HHC
  go_wp2_with (refine wpList_load_row rfl 96 (.tmp 19) rfl w7.heap.size rfl 96 _ (0, 0) _ HB8.out Tryz.underlying96 rfl size_fi ?_)
  go_at_call 42
  refine Calls.mono HHC.out ?_
  rintro e w9 ⟨O9, n9, rfl, ⟨hn9, hn9b⟩, hst9, hcw9, hcwo9, hfr9⟩
  have HST9 : Hid (St w0 S O9 w9 (.pointer (some ⟨g, 0, none⟩)) gs gc m9 n9) := hst9
  obtain ⟨hb9, -⟩ := hfr9.row HB8.out HOF8.out (by have := HNF.out; omega)
  obtain ⟨es8, ck8, hk8⟩ := HMG8.out.1.kind
  obtain ⟨hmk9, hmo9⟩ := hfr9.row hk8 HMG8.out.2 (by have := HNEG.out; omega)
  have hmg9 : IsMG knV w9 gm x.ix := HMG8.out.1.stay (hmk9.trans hk8.symm)
  have hvn9 : ∀ q, (Value.slice ra x.rows.length rc).ownBlock = some q → w9.heap[q]? = w8.heap[q]? ∧ ¬ O9 q := fun q hq => by
    have hq8 := hown8.lt q hq
    exact hfr9 q hq8.2 (HVN8.out q hq).2.1 (by omega)
  have hown9 : w9.ownsRow w3.heap.size 62 3 (.slice ra x.rows.length rc) x.rows.length (x.rows.flatMap rwC) := owns_same hown8 (fun q hq => (hvn9 q hq).1)
  have HVN9 : Hid (∀ q, (Value.slice ra x.rows.length rc).ownBlock = some q → ¬ O9 q) := fun q hq => (hvn9 q hq).2
  have HFR9 : Hid (FrX (fun j => j = gs ∨ j = gc ∨ j = gw ∨ j = gm) OA O9 w3 w9) := HFR8.out.trans (hfr9.mono (fun q hq => by omega))
  have HMG9 : Hid (IsMG knV w9 gm x.ix ∧ ¬ O9 gm) := ⟨hmg9, hmo9⟩
  have HCW9 : Hid (w9.heap[gw]? = some (.cells #[.int .i64 ((x.n : Int) + c9)] 128 (0, 0)) ∧ ¬ O9 gw) := ⟨hcw9, hcwo9⟩
  have HB9 : Hid _ := hb9
  clear hst9 hb9 hk8 hmk9 hmo9 hmg9 hvn9 hfr9 hown8 hcw9 hcwo9 HHC HST8 HMG8 HCW8 HFR8 HB8 HD8
  by_cases h90 : e9 = 0
  case neg =>
    have h90b : (e9 == 0) = false := by simpa using h90
    have h90c : (e9 != 0) = true := by simpa using h90
    obtain ⟨rfl, rfl⟩ : xr = { x with m := m9 } ∧ er = e9 := by
      have h9 := HRL.out
      have hst : scanStep ix wt pats x p = ({ x with m := m9 }, e9) := by rw [HST9P.out, if_pos h90]
      rw [step_plan _ _ _ _ _ (by rw [hst]; exact h90), hst] at h9
      exact ⟨(Prod.mk.inj h9).1, (Prod.mk.inj h9).2⟩
    have HER : Hid (er ≠ 0) := h90
    clear h90
    go_wp2
    go_ret3
    exact ⟨_, _, O9, n9, rfl, ⟨⟨by omega, by omega⟩, HST9.out, (HFIN.out _ _ HFR9.out).1, fun _ => (HFIN.out _ _ HFR9.out).2, fun h0 => absurd h0 HER.out⟩⟩
  subst h90
  have c0 : w9.cell? ⟨w7.heap.size, 0, none⟩ = some (.int .i64 fx.mode) := (cell_of_row _ _ 0 _ _ _ HB9.out).trans rfl
  have hsz9 : w3.heap.size ≤ w9.heap.size := by
    have h1 := HGN.out
    have h2 := (HFR9.out.row h1 (HNO.out (gm + 1) (by omega)) (by omega)).1
    have := (Array.getElem?_eq_some_iff.1 h2).1
    omega
  go_upto_region 21 with fail
  go_upto_region 22 with (at_builtin; go_must (refine app_rw rfl _ _ rfl w3.heap.size _ x.rows.length _ rfl (hown9.alloc _) w9.heap.size 1 ⟨cutW p, fx.mode, id9⟩ rfl (alloc_at _ _) (by omega) (by simp; omega) ?_; intro v' wA hownA hgA hobA))
  have hbase : gs < w3.heap.size ∧ gc < w3.heap.size := by omega
  have hSb : ∀ q, w.heap.size ≤ q → ¬ S q := fun q hq hs => by have := (H.out.one.loS q hs).2; omega
  obtain ⟨wl, hwl⟩ : ∃ wl, wl = w9.alloc (.cells #[S8 (cutW p), .int .i64 fx.mode, S8 id9] 62) := ⟨_, rfl⟩
  rw [← hwl] at hgA hobA
  have hxl : Ext w9 wl := by rw [hwl]; exact (Ext.refl _).alloc _
  have hownl := owns_ext hown9 hxl
  have hstA : St w0 S O9 wA (.pointer (some ⟨g, 0, none⟩)) gs gc m9 n9 := St.appG HKP.out (HST9.out.more hxl) hownl hgA (by kernel_rfl) hbase (by omega) HVN9.out (fun q hq => hSb q (by omega))
  have hrow9 := hown9.lt
  have hkA : ∀ q, q < w9.heap.size → (q < w3.heap.size ∨ w6.heap.size ≤ q) → wA.heap[q]? = w9.heap[q]? := fun q hq hq2 => (hgA.block q (by have := hxl.size; omega) (fun e => by
    have h1 := (hrow9 q e.symm).1
    have h2 := (HVN8.out q e.symm).2.2
    omega)).trans (hxl.block q hq)
  have hsA : w9.heap.size ≤ wA.heap.size := Nat.le_trans hxl.size hgA.size
  have hfA : FrX (fun j => j = gs ∨ j = gc ∨ j = gw ∨ j = gm) OA O9 w3 wA := fun q hq hO hX => by
    obtain ⟨a1, a2⟩ := HFR9.out q hq hO hX
    exact ⟨(hkA q (by omega) (.inl hq)).trans a1, a2⟩
  have hmA : IsMG knV wA gm x.ix := HMG9.out.1.stay (hkA gm HMG9.out.1.lt (.inl (by omega)))
  have hcA : wA.heap[gw]? = some (.cells #[.int .i64 ((x.n : Int) + c9)] 128 (0, 0)) := (hkA gw (by omega) (.inl hsz2)).trans HCW9.out.1
  have hfiA : wA.heap[w7.heap.size]? = _ := (hkA w7.heap.size (Array.getElem?_eq_some_iff.1 HB9.out).1 (.inr h67)).trans HB9.out
  have hgnA : wA.heap[gm + 1]? = some (.cells #[.map (some gm), .int .i64 0] 91 (0, 0)) := (hfA.row HGN.out (HNO.out (gm + 1) (by omega)) (by omega)).1
  have hvA : ∀ q, v'.ownBlock = some q → ¬ O9 q := fun q hq ho => by
    rcases hobA q hq with h9 | h9
    · exact HVN9.out q h9 ho
    · have := (HST9.out.one.lo q ho).2
      have := hxl.size
      omega
  have d0 : wA.cell? ⟨gm + 1, 0, none⟩ = some (.map (some gm)) := (cell_of_row _ _ 0 _ _ _ hgnA).trans rfl
  have d1 : wA.cell? ⟨w7.heap.size, 2, none⟩ = some (.int .i64 fx.time) := (cell_of_row _ _ 2 _ _ _ hfiA).trans rfl
  have HSTA : Hid _ := hstA
  have HFA : Hid (FrX (fun j => j = gs ∨ j = gc ∨ j = gw ∨ j = gm) OA O9 w3 wA) := hfA
  have HMA : Hid _ := hmA
  have HCA : Hid _ := hcA
  have HVA : Hid _ := hvA
  have HOA : Hid (wA.ownsRow w3.heap.size 62 3 v' (x.rows.length + 1) (x.rows.flatMap rwC ++ rwC ⟨cutW p, fx.mode, id9⟩)) := hownA
  have HSB : Hid (∀ q, w.heap.size ≤ q → ¬ S q) := hSb
  clear hstA hfA hmA hcA hvA hownA hSb hgA hobA hxl hownl hrow9 hkA hfiA hgnA hown9 hwl c0
  apply wp_region_mix 9 [_, _, _, .map (some gm), _, _, .int .i64 fx.time, _, _] [none, none, none, none, none, none, none, none, none] [[], [0], [1], [2], [], [], [5], [], [6, 7]] (by kernel_rfl) (by kernel_rfl) (by simp [mixV])
  · trivial
  · simp (maxSteps := 1000000) only [List.take_succ_cons, List.take_zero, oblFrom, stepObl, fillFrom, Act.put, List.setIfInBounds_toArray, List.set_cons_zero, List.set_cons_succ, knows, getV, mixV, List.getD_cons_zero, List.getD_cons_succ, and_true, true_and, forall_const]
    refine ⟨?_, ?_, ?_, ?_, ?_, ?_, ?_, ?_, ?_⟩
    · intro xs wq hq R hR
      have g1 := hq.cell d0; have g2 := hq.cell d1
      go_simp
      exact hR _ _ (Ext.refl _) rfl
    · intro xs wq hq hk R hR
      have g1 := hq.cell d0; have g2 := hq.cell d1
      go_simp
      exact hR _ _ (Ext.refl _) rfl
    · intro xs wq hq hk R hR
      have g1 := hq.cell d0; have g2 := hq.cell d1
      go_simp
      exact hR _ _ (Ext.refl _) rfl
    · intro xs wq hq hk R hR
      have g1 := hq.cell d0; have g2 := hq.cell d1
      go_simp
      exact hR _ _ (Ext.refl _) rfl
    · intro xs wq hq R hR
      have g1 := hq.cell d0; have g2 := hq.cell d1
      go_simp
      exact hR _ _ (Ext.refl _) rfl
    · intro xs wq hq R hR
      have g1 := hq.cell d0; have g2 := hq.cell d1
      go_simp
      exact hR _ _ (Ext.refl _) rfl
    · intro xs wq hq hk R hR
      have g1 := hq.cell d0; have g2 := hq.cell d1
      go_simp
      exact hR _ _ (Ext.refl _) rfl
    · intro xs wq hq R hR
      have g1 := hq.cell d0; have g2 := hq.cell d1
      go_simp
      exact hR _ _ (Ext.refl _) rfl
    · intro xs wq hq hk R hR
      obtain ⟨hk0, hk1⟩ := hk
      have g1 := hq.cell d0; have g2 := hq.cell d1
      go_simp
      exact hR _ _ (Ext.refl _) rfl
  intro xs wB hxB hk
  simp only [heldV, Nat.zero_add, Nat.reduceAdd, and_true] at hk
  obtain ⟨q0, q1, q2, q3, q4, q5, q6, q7, q8⟩ := hk
  simp (maxSteps := 1000000) only [List.take_succ_cons, List.take_zero, List.drop_succ_cons, List.drop_zero, fillFrom, Act.put, List.setIfInBounds_toArray, List.set_cons_zero, List.set_cons_succ, Nat.zero_add, Nat.reduceAdd, q0, q1, q2, q3, q4, q5, q6, q7, q8]
  clear q0 q1 q2 q3 q4 q5 q6 q7 q8
  have HXB : Hid (Ext wA wB) := hxB
  have hmB := HMA.out.ext hxB
  clear hxB d0 d1
  go_wp2_with (refine set_mg 89 101 Tryz.underlying89 rfl _ _ _ rfl hmB (by omega) rfl (cutW p) (by omega) rfl ⟨0, id9, fx.time⟩ rfl ?_; intro wC hmC hgC)
  have hst : scanStep ix wt pats x p = (⟨m9, x.rows ++ [⟨cutW p, fx.mode, id9⟩], putF x.ix (cutW p) ⟨0, id9, fx.time⟩, x.n + c9⟩, 0) := by rw [HST9P.out, if_neg (by simp)]
  have HRL2 : Hid ((xr, er) = scanL ix wt pats (ss.drop (j + 1)) ⟨m9, x.rows ++ [⟨cutW p, fx.mode, id9⟩], putF x.ix (cutW p) ⟨0, id9, fx.time⟩, x.n + c9⟩) := by
    unfold Hid
    rw [HRL.out, step_next _ _ _ _ _ (by rw [hst]), hst]
  have HSN9 : Hid (ScN (j + 1) ⟨m9, x.rows ++ [⟨cutW p, fx.mode, id9⟩], putF x.ix (cutW p) ⟨0, id9, fx.time⟩, x.n + c9⟩) := by
    have h9 := step_n HSN.out ix wt pats p
    rw [hst] at h9
    exact h9
  have hrl := HSN9.out.rows2
  have hne := HNEG.out
  have hSg : ¬ S gm := HSB.out gm (by omega)
  have hstC : St w0 S O9 wC (.pointer (some ⟨g, 0, none⟩)) gs gc m9 n9 := (HSTA.out.more HXB.out).but hgC (by omega) HMG9.out.2 hSg hmB.notU8 (by omega) (by omega) (HKP.out gm)
  have hoB := owns_ext HOA.out HXB.out
  have hoC : wC.ownsRow w3.heap.size 62 3 v' (x.rows.length + 1) (x.rows.flatMap rwC ++ rwC ⟨cutW p, fx.mode, id9⟩) := owns_same hoB (fun q hq => hgC.block q (hoB.lt q hq).2 (fun e => by have := (hoB.lt q hq).1; cases e; omega))
  have hcC : wC.heap[gw]? = some (.cells #[.int .i64 ((x.n : Int) + c9)] 128 (0, 0)) := but_row hgC (Ext.row HXB.out HCA.out) hne.2.2.2.2
  have hfC : FrX (fun j => j = gs ∨ j = gc ∨ j = gw ∨ j = gm) OA O9 w3 wC := (HFA.out.trans (FrX.ext HXB.out)).trans (FrX.but hgC (.inr (.inr (.inr rfl))))
  have HG10 : Hid (Good (k + 1 + 5 * (j + 1)) m9) := HG9.out.mono (by omega)
  go_roundw
  case rel =>
    refine ⟨j + 1, ⟨m9, x.rows ++ [⟨cutW p, fx.mode, id9⟩], putF x.ix (cutW p) ⟨0, id9, fx.time⟩, x.n + c9⟩, O9, n9, by omega, by go_num, HRL2, hstC, ⟨by omega, by omega⟩, HG10, HSN9, ?_, HVA.out, ⟨hmC, HMG9.out.2⟩, ⟨?_, HCW9.out.2⟩, hfC⟩
    · rw [List.length_append, List.flatMap_append]
      simpa using hoC
    · rw [hcC]
      simp
  case measure => simp [intOf]; omega

end Go.Proofs.YtdhgmpibjneplaaGreatDoor

/-! marref16.Set, marref.Rows: what they answer. Conditions: as each theorem states. -/
namespace Go.Proofs.YtdhgmpibjneplaaGreatDoor
open Go Go.RowKit Go.Sort
set_option linter.unusedVariables false
set_option linter.unusedSimpArgs false
set_option linter.unusedSectionVars false

theorem flat_rwl (l : List Rw) : (l.flatMap rwC).length = l.length * 3 := by
  induction l with
  | nil => rfl
  | cons c l ih => rw [List.flatMap_cons, List.length_append, ih, List.length_cons]; show 3 + _ = _; omega
/-- What a round does to what is set. -/
theorem setStep_of (n : Rw) (x : List Rw × Bool) (r : Rw) {d e f : Bool} (h1 : (!x.2 && !ltB r.path n.path) = d) (h2 : (x.2 || !ltB r.path n.path) = e) (h3 : (r.path == n.path) = f) : setStep n x r = ((x.1 ++ (if d = true then [n] else [])) ++ (if f = true then [] else [r]), e) := by
  unfold setStep
  rw [h1, h2, ← h3]
  by_cases h : r.path = n.path <;> simp [h]

theorem setF_len (n : Rw) (b : Bool) : ∀ (l : List Rw) (x : List Rw × Bool), (l.foldl (setStep n) x).1.length ≤ x.1.length + 2 * l.length
  | [], x => by simp
  | r :: l, x => by
    have h1 := setF_len n b l (setStep n x r)
    have h2 := setStep_len n x r
    rw [List.foldl_cons, List.length_cons]
    omega

set_option maxRecDepth 100000 in
set_option maxHeartbeats 4000000 in
theorem rset_any (v : Value) (l : List Rw) (n : Rw) (w : World) (hv : IsRws w v l) (hl : l.length ≤ 100000) :
    Calls Tryz.prog 23 #[v, S8 n.path, .agg #[.int .i64 n.mode, S8 n.id]] w fun e w' => (∃ v', e = .returned v' ∧ w'.ownsRow w.heap.size 62 3 v' (setR l n).length ((setR l n).flatMap rwC)) ∧ Ext w w' := by
  obtain ⟨a, cap, rfl, l1, l2, l3, hg⟩ := hv.cells
  have HG : Hid _ := hg
  clear hv hg
  obtain ⟨z, hz⟩ : ∃ z, (n.mode == 0) = z := ⟨_, rfl⟩
  have HZ : Hid (decide (n.mode = 0) = z) := by
    unfold Hid
    rw [← hz]
    by_cases h : n.mode = 0 <;> simp [h]
  have HSR : Hid (setR l n = setEndR n (l.foldl (setStep n) ([], z))) := by unfold Hid setR; rw [HZ.out]
  have HFL : Hid (∀ k, ((l.take k).foldl (setStep n) ([], z)).1.length ≤ 2 * k) := fun k => by
    have := setF_len n z (l.take k) ([], z)
    rw [List.length_take] at this
    simp only [List.length_nil] at this
    omega
  obtain ⟨np, nm, ni⟩ := n
  dsimp only at hz ⊢
  go_enter Tryz.func23, Tryz.ntmps23
  go_upto_region 2 with fail
  obtain ⟨w1, hw1⟩ : ∃ w1, w1 = w.alloc (.cells #[.int .i64 nm, S8 ni] 54) := ⟨_, rfl⟩
  have HX1 : Hid (Ext w w1) := by rw [hw1]; exact (Ext.refl _).alloc _
  have hb1 : w1.heap[w.heap.size]? = some (.cells #[.int .i64 nm, S8 ni] 54 (0, 0)) := by rw [hw1]; exact alloc_at _ _
  rw [← hw1]
  obtain ⟨g, hgz⟩ : ∃ g, w.heap.size = g := ⟨_, rfl⟩
  rw [hgz] at hb1 ⊢
  have HGZ : Hid _ := hgz
  have HB1 : Hid _ := hb1
  obtain ⟨e0, e1⟩ := cellsE2 hb1
  clear hw1 hb1 hgz
  go_wp2_with fail
  clear e0 e1
  go_loopw [7, 8, 9] (fun v d i wr => ∃ (k : Nat) (acc : List Rw) (dn : Bool), k ≤ l.length ∧ i = .int .i64 k ∧ d = .bool dn ∧ Hid ((l.take k).foldl (setStep ⟨np, nm, ni⟩) ([], z) = (acc, dn)) ∧ Hid (wr.ownsRow w1.heap.size 62 3 v acc.length (acc.flatMap rwC)) ∧ Hid (Ext w1 wr)) (fun _ _ i _ => l.length - (intOf i).toNat)
  case atStart => exact ⟨0, [], z, Nat.zero_le _, rfl, rfl, rfl, World.ownsRow_nil _ _ _ _, Ext.refl _⟩
  case round =>
  clear hz
  obtain ⟨k, acc, dn, hk, rfl, rfl, HF, HOW, HX⟩ := hrel
  obtain ⟨e0, e1⟩ := cellsE2 (HX.out.row HB1.out)
  have hsz := HX.out.size
  have hal : acc.length ≤ 2 * k := by have h9 := HFL.out k; rw [HF.out] at h9; exact h9
  by_cases hlt : k < l.length
  case neg =>
    have hkk : k = l.length := by omega
    subst hkk
    have HSE : Hid (setR l ⟨np, nm, ni⟩ = setEndR ⟨np, nm, ni⟩ (acc, dn)) := by
      unfold Hid
      rw [HSR.out, ← HF.out, List.take_length]
    cases dn with
    | true =>
      have HO : Hid (wr.ownsRow w.heap.size 62 3 u7 (setR l ⟨np, nm, ni⟩).length ((setR l ⟨np, nm, ni⟩).flatMap rwC)) := by
        unfold Hid
        rw [HSE.out]
        exact World.ownsRow.mono HOW.out HX1.out.size
      go_wp2
      go_ret
      exact ⟨⟨_, rfl, by rw [← HGZ.out]; exact HO.out⟩, HX1.out.trans HX.out⟩
    | false =>
      have hown := HOW.out
      go_wp2_with (at_builtin; go_must (refine app_rw rfl _ _ rfl w1.heap.size _ acc.length _ rfl (hown.alloc _) wr.heap.size 1 ⟨np, nm, ni⟩ rfl (alloc_at _ _) (by omega) (by simp; omega) ?_; intro v' w3 hown3 hg3 _))
      go_ret
      have HXE : Ext w1 w3 := owns_ext_app (HX.out.alloc _) (hown.alloc _) hg3
      refine ⟨⟨_, rfl, ?_⟩, HX1.out.trans HXE⟩
      have h9 := World.ownsRow.mono hown3 HX1.out.size
      rw [HSE.out, ← HGZ.out]
      unfold setEndR
      rw [if_neg (by simp), List.length_append, List.flatMap_append]
      exact h9
  obtain ⟨r, hr⟩ : ∃ r, l[k]? = some r := ⟨_, List.getElem?_eq_getElem hlt⟩
  obtain ⟨bb, oo, rfl, c0, c1, c2⟩ := HG.out k r hr
  have hxw := HX1.out.trans HX.out
  have y0 := hxw.cell c0
  have y1 := hxw.cell c1
  have y2 := hxw.cell c2
  have HC : Hid _ := And.intro c0 (And.intro c1 c2)
  have HSN : Hid _ := setR_snoc (n := ⟨np, nm, ni⟩) (b := z) hr
  rw [HF.out] at HSN
  obtain ⟨q, hq⟩ : ∃ q, ltB r.path np = q := ⟨_, rfl⟩
  have hbl : Op.bytesLess r.path np = q := by rw [less_ltB]; exact hq
  have HQ : Hid _ := hq
  clear c0 c1 c2 hr hq hxw
  cases dn
  case' true =>
    obtain ⟨A, hA⟩ : ∃ A, A = acc := ⟨_, rfl⟩
    have HST : Hid (∀ f, (r.path == np) = f → setStep ⟨np, nm, ni⟩ (acc, true) r = (A ++ (if f = true then [] else [r]), true)) := fun f hf => by
      rw [hA, setStep_of (d := false) (e := true) (f := f) _ _ _ rfl rfl hf]
      simp
    obtain ⟨w9, hw9⟩ : ∃ w9, w9 = wr := ⟨_, rfl⟩
    have HX9 : Hid (Ext w1 w9) := by rw [hw9]; exact HX.out
    have hown9 := HOW.out
    rw [← hA, ← hw9] at hown9
    have hal9 : A.length ≤ 2 * k + 1 := by rw [hA]; omega
    clear hA
    go_upto_region 9 with fail
    rw [← hw9]
    clear hw9
  case' false =>
    cases q
    case' true =>
      obtain ⟨A, hA⟩ : ∃ A, A = acc := ⟨_, rfl⟩
      have HST : Hid (∀ f, (r.path == np) = f → setStep ⟨np, nm, ni⟩ (acc, false) r = (A ++ (if f = true then [] else [r]), false)) := fun f hf => by
        rw [hA, setStep_of (d := false) (e := false) (f := f) _ _ _ (by rw [HQ.out]; rfl) (by rw [HQ.out]; rfl) hf]
        simp
      obtain ⟨w9, hw9⟩ : ∃ w9, w9 = wr := ⟨_, rfl⟩
      have HX9 : Hid (Ext w1 w9) := by rw [hw9]; exact HX.out
      have hown9 := HOW.out
      rw [← hA, ← hw9] at hown9
      have hal9 : A.length ≤ 2 * k + 1 := by rw [hA]; omega
      clear hA
      go_upto_region 9 with fail
      rw [← hw9]
      clear hw9
    case' false =>
      have HST : Hid (∀ f, (r.path == np) = f → setStep ⟨np, nm, ni⟩ (acc, false) r = ((acc ++ [⟨np, nm, ni⟩]) ++ (if f = true then [] else [r]), true)) := fun f hf => by
        rw [setStep_of (d := true) (e := true) (f := f) _ _ _ (by rw [HQ.out]; rfl) (by rw [HQ.out]; rfl) hf]
        simp
      have hown := HOW.out
      go_upto_region 9 with (at_builtin; go_must (refine app_rw rfl _ _ rfl w1.heap.size _ acc.length _ rfl (hown.alloc _) wr.heap.size 1 ⟨np, nm, ni⟩ rfl (alloc_at _ _) (by omega) (by simp; omega) ?_; intro v' w9 hown3 hg3 _))
      have HX9 : Hid (Ext w1 w9) := owns_ext_app (HX.out.alloc _) (hown.alloc _) hg3
      obtain ⟨A, hA⟩ : ∃ A, A = acc ++ [(⟨np, nm, ni⟩ : Rw)] := ⟨_, rfl⟩
      rw [← hA] at HST
      have hown9 : w9.ownsRow w1.heap.size 62 3 v' A.length (A.flatMap rwC) := by rw [hA, List.length_append, List.flatMap_append]; exact hown3
      have hal9 : A.length ≤ 2 * k + 1 := by rw [hA, List.length_append, List.length_singleton]; omega
      clear hown3 hg3 hown hA
  all_goals
    have HOW9 : Hid (w9.ownsRow w1.heap.size 62 3 _ A.length (A.flatMap rwC)) := hown9
    clear y0 y1 y2 e0 e1 hown9
    obtain ⟨c0, c1, c2⟩ := HC.out
    have hxw9 := HX1.out.trans HX9.out
    have y0 := hxw9.cell c0
    have y1 := hxw9.cell c1
    have y2 := hxw9.cell c2
    have htr : (⟨r.path.toArray⟩ : ByteArray).toList = r.path := Lib.toList_data _
    have htn : (⟨np.toArray⟩ : ByteArray).toList = np := Lib.toList_data _
    have hsz9 := HX9.out.size
    obtain ⟨f, hf⟩ : ∃ f, (r.path == np) = f := ⟨_, rfl⟩
    have HFF : Hid _ := hf
    clear c0 c1 c2 hxw9
    cases f
    case' true =>
      have HSX : Hid _ := HST.out true HFF.out
      have hfn : (r.path != np) = false := by show (!(r.path == np)) = false; rw [hf]; rfl
      go_wp2_with fail
      go_roundw
      case rel =>
        refine ⟨k + 1, A, _, by omega, by go_num, rfl, ?_, HOW9, HX9⟩
        unfold Hid
        rw [HSN.out, HSX.out, if_pos rfl, List.append_nil]
      case measure => simp [intOf]; omega
    case' false =>
      have HSX : Hid _ := HST.out false HFF.out
      have hfn : (r.path != np) = true := by show (!(r.path == np)) = true; rw [hf]; rfl
      have hown : w9.ownsRow w1.heap.size 62 3 _ A.length (A.flatMap rwC) := HOW9.out
      go_wp2_with (at_builtin; go_must (refine app_rw rfl _ _ rfl w1.heap.size _ A.length _ rfl (hown.alloc _) w9.heap.size 1 r rfl (alloc_at _ _) (by omega) (by simp; omega) ?_; intro v' w3 hown3 hg3 _))
      go_roundw
      case rel =>
        refine ⟨k + 1, A ++ [r], _, by omega, by go_num, rfl, ?_, ?_, owns_ext_app (HX9.out.alloc _) (hown.alloc _) hg3⟩
        · unfold Hid
          rw [HSN.out, HSX.out, if_neg (by simp)]
        · unfold Hid
          rw [List.length_append, List.flatMap_append]
          exact hown3
      case measure => simp [intOf]; omega

end Go.Proofs.YtdhgmpibjneplaaGreatDoor

/-! marref.Rows: are two lists of rows alike? Conditions: as each theorem states. -/
namespace Go.Proofs.YtdhgmpibjneplaaGreatDoor
open Go Go.RowKit Go.Sort
set_option linter.unusedVariables false
set_option linter.unusedSimpArgs false
set_option linter.unusedSectionVars false

def RowsPost (a b : List Rw) (e : Ending) : Prop := ∃ c : Bool, e = .returned (.bool c) ∧ (c = true ↔ a = b)
theorem rows_no {a b : List Rw} {k : Nat} {x y : Rw} (hx : a[k]? = some x) (hy : b[k]? = some y) (h : x ≠ y) : a ≠ b := fun e => by
  rw [e, hy] at hx
  exact h (Option.some.inj hx).symm

set_option maxRecDepth 100000 in
set_option maxHeartbeats 4000000 in
theorem rrows_any (va vb : Value) (a b : List Rw) (w : World) (hva : IsRws w va a) (hvb : IsRws w vb b) :
    Calls Tryz.prog 24 #[va, vb] w fun e w' => RowsPost a b e ∧ Ext w w' := by
  obtain ⟨aa, ac, rfl, l1, l2, l3, hga⟩ := hva.cells
  obtain ⟨ba, bc, rfl, m1, m2, m3, hgb⟩ := hvb.cells
  have HGA : Hid _ := hga
  have HGB : Hid _ := hgb
  clear hva hvb hga hgb
  by_cases hlen : a.length = b.length
  case neg =>
    have hln : ((a.length : Int) != (b.length : Int)) = true := by simp; omega
    have HNE : Hid (a ≠ b) := fun e => hlen (by rw [e])
    clear hlen
    go_enter Tryz.func24, Tryz.ntmps24
    go_wp2
    go_ret
    exact ⟨⟨false, rfl, ⟨fun h => (by cases h), fun h => (HNE.out h).elim⟩⟩, Ext.refl _⟩
  have hln : ((a.length : Int) != (b.length : Int)) = false := by simp; omega
  have HLEN : Hid (a.length = b.length) := hlen
  clear hlen
  go_enter Tryz.func24, Tryz.ntmps24
  go_wp2_with fail
  clear hln
  go_loopw [5] (fun i wr => ∃ k : Nat, k ≤ a.length ∧ i = .int .i64 k ∧ Hid (a.take k = b.take k) ∧ Hid (Ext w wr)) (fun i _ => a.length - (intOf i).toNat)
  case atStart => exact ⟨0, Nat.zero_le _, rfl, rfl, Ext.refl _⟩
  case round =>
  obtain ⟨k, hk, rfl, HT, HX⟩ := hrel
  by_cases hlt : k < a.length
  case neg =>
    have hkk : k = a.length := by omega
    subst hkk
    have HEQ : Hid (a = b) := by
      have h9 := HT.out
      rw [List.take_length, HLEN.out, List.take_length] at h9
      exact h9
    go_wp2
    go_ret
    exact ⟨⟨true, rfl, ⟨fun _ => HEQ.out, fun _ => rfl⟩⟩, HX.out⟩
  obtain ⟨x, hx⟩ : ∃ x, a[k]? = some x := ⟨_, List.getElem?_eq_getElem hlt⟩
  have hltb : k < b.length := by have := HLEN.out; omega
  obtain ⟨y, hy⟩ : ∃ y, b[k]? = some y := ⟨_, List.getElem?_eq_getElem hltb⟩
  obtain ⟨ab, ao, rfl, c0, c1, c2⟩ := HGA.out k x hx
  obtain ⟨bb, bo, rfl, d0, d1, d2⟩ := HGB.out k y hy
  have x0 := HX.out.cell c0
  have x1 := HX.out.cell c1
  have x2 := HX.out.cell c2
  have y0 := HX.out.cell d0
  have y1 := HX.out.cell d1
  have y2 := HX.out.cell d2
  have HXK : Hid _ := hx
  have HYK : Hid _ := hy
  clear c0 c1 c2 d0 d1 d2 hx hy
  obtain ⟨xp, xm, xi⟩ := x
  obtain ⟨yp, ym, yi⟩ := y
  dsimp only at x0 x1 x2 y0 y1 y2
  have t1 : (⟨xp.toArray⟩ : ByteArray).toList = xp := Lib.toList_data _
  have t2 : (⟨yp.toArray⟩ : ByteArray).toList = yp := Lib.toList_data _
  have t3 : (⟨xi.toArray⟩ : ByteArray).toList = xi := Lib.toList_data _
  have t4 : (⟨yi.toArray⟩ : ByteArray).toList = yi := Lib.toList_data _
  by_cases h0 : xp = yp
  case neg =>
    have HNE : Hid (a ≠ b) := rows_no HXK.out HYK.out (fun e => h0 (by cases e; rfl))
    have q0 : (xp != yp) = true := by simpa using h0
    have r0 : (xp == yp) = false := by simpa using h0
    clear h0
    go_upto_region 6 with fail
    go_quiet (fail)
    go_wp2
    go_ret
    exact ⟨⟨false, rfl, ⟨fun h => (by cases h), fun h => (HNE.out h).elim⟩⟩, HX.out.trans (Ext.drawn _ _)⟩
  have q0 : (xp != yp) = false := by simpa using h0
  have r0 : (xp == yp) = true := by simpa using h0
  have H0 : Hid _ := h0
  clear h0
  by_cases h1 : xm = ym
  case neg =>
    have HNE : Hid (a ≠ b) := rows_no HXK.out HYK.out (fun e => h1 (by cases e; rfl))
    have q1 : (xm != ym) = true := by simpa using h1
    have r1 : (xm == ym) = false := by simpa using h1
    clear h1
    go_upto_region 6 with fail
    go_quiet (fail)
    go_wp2
    go_ret
    exact ⟨⟨false, rfl, ⟨fun h => (by cases h), fun h => (HNE.out h).elim⟩⟩, HX.out.trans (Ext.drawn _ _)⟩
  have q1 : (xm != ym) = false := by simpa using h1
  have r1 : (xm == ym) = true := by simpa using h1
  have H1 : Hid _ := h1
  clear h1
  by_cases h2 : xi = yi
  case neg =>
    have HNE : Hid (a ≠ b) := rows_no HXK.out HYK.out (fun e => h2 (by cases e; rfl))
    have q2 : (xi != yi) = true := by simpa using h2
    have r2 : (xi == yi) = false := by simpa using h2
    clear h2
    go_upto_region 6 with fail
    go_quiet (fail)
    go_wp2
    go_ret
    exact ⟨⟨false, rfl, ⟨fun h => (by cases h), fun h => (HNE.out h).elim⟩⟩, HX.out.trans (Ext.drawn _ _)⟩
  have q2 : (xi != yi) = false := by simpa using h2
  have r2 : (xi == yi) = true := by simpa using h2
  have HTX : Hid (a.take (k + 1) = b.take (k + 1)) := by
    unfold Hid
    rw [take_snocR HXK.out, take_snocR HYK.out, HT.out, H0.out, H1.out, h2]
  clear h2
  go_upto_region 6 with fail
  go_quiet (fail)
  have HXX := fun n => HX.out.trans (Ext.drawn wr n)
  clear x0 x1 x2 y0 y1 y2
  go_wp2_with fail
  go_roundw
  case rel => exact ⟨k + 1, by omega, by go_num, HTX, HXX _⟩
  case measure => simp [intOf]; omega

end Go.Proofs.YtdhgmpibjneplaaGreatDoor

/-! marlaw13: what the chapter's examples fix. Conditions: as each theorem states. -/
namespace Go.Proofs.YtdhgmpibjneplaaGreatDoor
open Go Go.RowKit Go.Sort
set_option linter.unusedVariables false
set_option linter.unusedSimpArgs false
set_option linter.unusedSectionVars false

/-! ### The hashes that an index has -/
def IdsOk (ix : Files) : Prop := ∀ p e, look ix p = some e → e.data.length ≤ 64
theorem ids_nil : IdsOk [] := fun p e h => by cases h
theorem putEnd_id (x : Fs × Int) (id : B8) (h : id.length ≤ 64) : (putEnd x id).2.1.length ≤ 64 := by
  unfold putEnd
  split
  · exact Nat.zero_le _
  · split
    · exact Nat.zero_le _
    · exact h
theorem putO_id (m : Fs) (b : B8) : (putO m b).2.1.length ≤ 64 := by
  have h : (shaM b).length ≤ 64 := Nat.le_of_eq (sha_len _)
  unfold putO
  split
  · exact Nat.zero_le _
  · split
    · exact h
    · split
      · exact Nat.zero_le _
      · split
        · exact Nat.zero_le _
        · exact putEnd_id _ _ h
theorem putObjM_id (m : Fs) (o : Ob) : (putObjM m o).2.1.length ≤ 64 := by
  unfold putObjM
  split
  · exact Nat.zero_le _
  · exact putO_id _ _
theorem hash1_id (m : Fs) (d : B8) : (hashX1 m d).2.2.1.length ≤ 64 := by
  unfold hashX1
  split
  · exact Nat.zero_le _
  · exact putObjM_id _ _
theorem hash_id {ix : Files} (h : IdsOk ix) (m : Fs) (wt : Int) (p : B8) (f : Fi) : (hashX m ix wt p f).2.2.1.length ≤ 64 := by
  unfold hashX
  split
  · split
    · show (lookD ix p).length ≤ 64
      unfold lookD
      cases hq : look ix p with
      | none => exact Nat.zero_le _
      | some e => exact h p e hq
    · exact hash1_id _ _
  · exact hash1_id _ _
theorem ids_step {ix : Files} (h : IdsOk ix) (wt : Int) (pats : List B8) {x : Sc} (hx : IdsOk x.ix) (p : B8) : IdsOk (scanStep ix wt pats x p).1.ix := by
  unfold scanStep
  split
  · exact hx
  · split
    · exact hx
    · split
      · exact hx
      · split
        · exact hx
        · unfold hashStep
          split
          · exact hx
          · intro q e he
            have he : look (putF x.ix (cutW p) _) q = some e := he
            by_cases hq : cutW p = q
            · rw [hq, look_putF_same] at he
              cases he
              exact hash_id h _ _ _ _
            · rw [look_putF_ne hq] at he
              exact hx q e he
theorem ids_scanL {ix : Files} (h : IdsOk ix) (wt : Int) (pats : List B8) : ∀ (l : List B8) {x : Sc}, IdsOk x.ix → IdsOk (scanL ix wt pats l x).1.ix
  | [], x, hx => hx
  | p :: l, x, hx => by
    have hs := ids_step h wt pats hx p
    by_cases he : (scanStep ix wt pats x p).2 = 0
    · rw [step_next _ _ _ _ _ he]
      exact ids_scanL h wt pats l hs
    · rw [step_plan _ _ _ _ _ he]
      exact hs
theorem ids_scan {ix : Files} (h : IdsOk ix) (m : Fs) (wt : Int) (pats : List B8) : IdsOk (scanGo m ix wt pats).1.ix := by
  unfold scanGo
  split
  · exact ids_nil
  · exact ids_scanL h wt pats _ ids_nil
theorem IdsOk.big {ix : Files} (h : IdsOk ix) : ∀ p e, look ix p = some e → e.data.length ≤ 1000000 := fun p e he => Nat.le_trans (h p e he) (by omega)

variable [Inhabited BaseW] [KW : Inhabited KeptW]
set_option maxRecDepth 100000 in
set_option maxHeartbeats 16000000 in
theorem first13_gen (hkp : ∀ k, keptW k = none) (w : World) (hE : Env w) (hS : EnvS w) (m1 m2 m5 : Fs) (A B C D : Sc × Int) (h1 : (putObjM (newM 10000) (blobO [113])).1 = m1) (h2 : (userWrite m1 [119, 47, 97] 1 [113]).1 = m2)
    (hA : scanGo m2 [] 0 [] = A) (hB : scanGo A.1.m A.1.ix A.1.m.time [] = B) (h5 : (userWrite B.1.m [118] 1 []).1 = m5) (hC : scanGo m5 B.1.ix B.1.m.time [] = C) (hD : scanGo C.1.m C.1.ix C.1.m.time [] = D)
    (lA : (listM m2 wP).2.1.length = 1) (lB : (listM A.1.m wP).2.1.length = 1) (lC : (listM m5 wP).2.1.length = 1) (lD : (listM C.1.m wP).2.1.length = 1)
    (eA : A.2 = 0 ∧ A.1.n = 1) (eB : B.2 = 0 ∧ B.1.n = 1) (eC : C.2 = 0 ∧ C.1.n = 1) (eD : D.2 = 0 ∧ D.1.n = 0) :
    Calls Tryz.prog 8 #[] w fun e w' => e = .returned (.bool true) ∧ Ext w w' := by
  have g0 : Good 0 (newM 10000) := good_new (by omega) (by omega)
  have g1 : Good 3 m1 := by rw [← h1]; exact good_putObjM g0 _
  have g2 : Good 4 m2 := by rw [← h2]; exact good_userW g1 _ _ _
  have gA : Good 10 A.1.m := by have h9 := good_scan g2 [] 0 []; rw [hA, lA] at h9; exact h9
  have gB : Good 16 B.1.m := by have h9 := good_scan gA A.1.ix A.1.m.time []; rw [hB, lB] at h9; exact h9
  have g5 : Good 17 m5 := by rw [← h5]; exact good_userW gB _ _ _
  have gC : Good 23 C.1.m := by have h9 := good_scan g5 B.1.ix B.1.m.time []; rw [hC, lC] at h9; exact h9
  have iA : IdsOk A.1.ix := by rw [← hA]; exact ids_scan ids_nil _ _ _
  have iB : IdsOk B.1.ix := by rw [← hB]; exact ids_scan iA _ _ _
  have iC : IdsOk C.1.ix := by rw [← hC]; exact ids_scan iB _ _ _
  have HE : Hid (Env w) := hE
  have HS : Hid (EnvS w) := hS
  have HKP : Hid (∀ k, keptW k = none) := hkp
  have Qg0 : Hid _ := g0
  have Qg1 : Hid _ := g1
  have Qg2 : Hid _ := g2
  have QgA : Hid _ := gA
  have QgB : Hid _ := gB
  have Qg5 : Hid _ := g5
  have QgC : Hid _ := gC
  have QiA : Hid _ := iA
  have QiB : Hid _ := iB
  have QiC : Hid _ := iC
  have Qh1 : Hid _ := h1
  have Qh2 : Hid _ := h2
  have QhA : Hid _ := hA
  have QhB : Hid _ := hB
  have Qh5 : Hid _ := h5
  have QhC : Hid _ := hC
  have QhD : Hid _ := hD
  have QlA : Hid _ := lA
  have QlB : Hid _ := lB
  have QlC : Hid _ := lC
  have QlD : Hid _ := lD
  have QeA : Hid _ := eA
  have QeB : Hid _ := eB
  have QeC : Hid _ := eC
  have QeD : Hid _ := eD
  clear hE hS hkp g0 g1 g2 gA gB g5 gC iA iB iC h1 h2 hA hB h5 hC hD lA lB lC lD eA eB eC eD
  have kc := fun (w : World) (C : Array Value) (n c : Nat) => Lib.run_convert_bytes_const (P := Tryz.prog) w 35 5 C n c Tryz.underlying35 Tryz.underlying5
  go_enter Tryz.func8, Tryz.ntmps8
  go_wp2_with fail
  go_at_call 11
  refine (new_yes 10000 _ (by omega) (by omega)).mono ?_
  rintro e w1 ⟨⟨p, rfl, hf⟩, hx1⟩
  have H1 : Hid (One w (fun _ => False) (Nu w w1) w1 p (newM 10000)) := One.new hf hx1
  obtain ⟨g, rfl⟩ : ∃ g, p = .pointer (some ⟨g, 0, none⟩) := by
    obtain ⟨g, gm, gd, vp, vl, vu, L, c0, hpe, -⟩ := hf
    exact ⟨g, hpe⟩
  clear hf hx1
  go_wp2_with fail
  go_at_call 12
  refine (open_any H1.out HKP.out).mono ?_
  rintro e w2 ⟨gs, gc, rfl, h2, hz2⟩
  have H2 : Hid (St w (fun _ => False) (Nu w w1) w2 (.pointer (some ⟨g, 0, none⟩)) gs gc (newM 10000) 0) := h2
  clear h2 H1
  go_wp2_with fail
  go_at_call 13
  refine (newIndex_any w2).mono ?_
  rintro e w3 ⟨⟨gi, gx, rfl, hgi, hgx, hs1, hs2, hs3⟩, hx3⟩
  have hI3 : Ixs w (Nu w w1) gs gc w3 gi gx [] 0 := by
    have hlt := H2.out.lt
    have hsz := H2.out.one.ext.size
    exact ⟨hgi, hgx, ⟨by omega, by omega⟩, ⟨fun ho => by have := (H2.out.one.lo _ ho).2; omega, by omega, by omega⟩, ⟨fun ho => by have := (H2.out.one.lo _ ho).2; omega, by omega, by omega⟩⟩
  obtain ⟨O3, hO3⟩ : ∃ O3, Nu w w1 = O3 := ⟨_, rfl⟩
  rw [hO3] at hI3 H2
  have HI3 : Hid (Ixs w O3 gs gc w3 gi gx [] 0) := hI3
  have H3 : Hid (St w (fun _ => False) O3 w3 (.pointer (some ⟨g, 0, none⟩)) gs gc (newM 10000) 0) := H2.out.more hx3
  subst hs2
  clear hI3 hx3 hgi hgx hs1 hs3 hz2 hO3 H2
  go_wp2_with fail
  obtain ⟨wa, hwa⟩ : ∃ wa, wa = w3.alloc (.cells #[.int .u8 113] 5 (1, 2)) := ⟨_, rfl⟩
  have hxa : Ext w3 wa := by rw [hwa]; exact (Ext.refl _).alloc _
  have hrow : wa.heap[w3.heap.size]? = some (.cells #[.int .u8 113] 5 (1, 2)) := by rw [hwa]; exact alloc_at _ _
  have HB1 : Hid (IsBytes wa (.slice (some ⟨w3.heap.size, 0, none⟩) 1 1) [113]) := one_byte (x := 113) (fr := (1, 2)) hrow
  have HT1 : Hid (TypB wa (.slice (some ⟨w3.heap.size, 0, none⟩) 1 1)) := fun a n c he => (by cases he; exact ⟨_, _, _, hrow, by kernel_rfl⟩)
  have HP1 : Hid _ := H3.out.more hxa
  have HJ1 : Hid _ := HI3.out.ext hxa
  rw [← hwa]
  clear hwa hxa hrow H3 HI3
  go_at_call 35
  have hob : IsOb wa (obV (blobO [113]) (.slice (some ⟨w3.heap.size, 0, none⟩) 1 1) (.slice none 0 0) (.slice none 0 0)) (blobO [113]) := ⟨_, _, _, rfl, HB1.out, Row.nil _, IsStrs.nil _⟩
  have hsm : ObSmall (blobO [113]) := ⟨(fun x hx => by cases hx), (fun x hx => by cases hx), Nat.zero_le _, Nat.zero_le _⟩
  refine (putObjF_any HKP.out _ (blobO [113]) HP1.out HE.out HS.out Qg0.out (by omega) (by omega) (by omega) hob hsm).mono ?_
  rintro e w4 ⟨O4, n4, rfl, hn4, hst4, hfr4⟩
  rw [Qh1.out] at hst4
  have H4 : Hid (St w (fun _ => False) O4 w4 (.pointer (some ⟨g, 0, none⟩)) gs gc m1 n4) := hst4
  have HI4 : Hid (Ixs w O4 gs gc w4 (gx + 1) gx [] 0) := HJ1.out.frs hfr4
  clear hst4 hfr4 hob hsm HP1 HJ1 HB1 HT1
  try dsimp only
  go_upto_region 8 with fail
  go_wp2_with fail
  obtain ⟨wb, hwa⟩ : ∃ wa, wa = w4.alloc (.cells #[.int .u8 113] 5 (1, 2)) := ⟨_, rfl⟩
  have hxa : Ext w4 wb := by rw [hwa]; exact (Ext.refl _).alloc _
  have hrow : wb.heap[w4.heap.size]? = some (.cells #[.int .u8 113] 5 (1, 2)) := by rw [hwa]; exact alloc_at _ _
  have HB2 : Hid (IsBytes wb (.slice (some ⟨w4.heap.size, 0, none⟩) 1 1) [113]) := one_byte (x := 113) (fr := (1, 2)) hrow
  have HT2 : Hid (TypB wb (.slice (some ⟨w4.heap.size, 0, none⟩) 1 1)) := fun a n c he => (by cases he; exact ⟨_, _, _, hrow, by kernel_rfl⟩)
  have HP2 : Hid _ := H4.out.more hxa
  have HJ2 : Hid _ := HI4.out.ext hxa
  rw [← hwa]
  clear hwa hxa hrow H4 HI4
  have HP2' : Hid (St w (fun _ => False) O4 wb (.pointer (some ⟨g, 0, none⟩)) gs gc m1 n4) := HP2.out
  have HJ2' : Hid (Ixs w O4 gs gc wb (gx + 1) gx [] 0) := HJ2.out
  go_at_call 17
  refine (userWrite_any [119, 47, 97] 1 _ [113] (HE.out.ext HP2'.out.one.ext) HP2'.out.one.fs Qg1.out.ok (by have := Qg1.out.time; omega) (by decide) HB2.out (by decide) (fun hh => may_eq _ hh) (fun a n c he _ => .inr (HT2.out a n c he))).mono ?_
  rw [Qh2.out]
  rintro e w5 ⟨rfl, hp5⟩
  have H5 : Hid (St w (fun _ => False) (Nw O4 wb w5) w5 (.pointer (some ⟨g, 0, none⟩)) gs gc m2 n4) := HP2'.out.post hp5
  have HI5 : Hid (Ixs w (Nw O4 wb w5) gs gc w5 (gx + 1) gx [] 0) := HJ2'.out.frs (FrS.fr hp5)
  clear hp5 HP2 HJ2 HP2' HJ2' HB2 HT2
  go_wp2_with fail
  go_at_call 14
  refine (scan_any HKP.out (.slice none 0 0) [] H5.out HE.out HS.out Qg2.out (by rw [QlA.out]; omega) (by omega) (by rw [QlA.out]; omega) HI5.out (fun hs => hs) (IdsOk.big ids_nil) (IsStrs.nil _) (fun p hp => by cases hp)).mono ?_
  rw [QhA.out, QlA.out, QeA.out.1]
  rintro e w6 ⟨v6, N6, O6, n6, rfl, hp6⟩
  obtain ⟨hN6, -, -, gx6, hi6⟩ := hp6.good rfl
  obtain ⟨hr6a, hr6b⟩ := hp6.reads
  have hst6 := hp6.st
  obtain rfl : N6 = 1 := by rw [hN6, QeA.out.2]; rfl
  have H6 : Hid _ := hst6
  have HI6 : Hid _ := hi6
  clear hN6 hi6 hp6 hst6 H5 HI5
  go_wp2_with fail
  go_at_call 14
  refine (scan_any HKP.out (.slice none 0 0) [] H6.out HE.out HS.out QgA.out (by rw [QlB.out]; omega) (by omega) (by rw [QlB.out]; omega) HI6.out (fun hs => hs) (IdsOk.big QiA.out) (IsStrs.nil _) (fun p hp => by cases hp)).mono ?_
  rw [QhB.out, QlB.out, QeB.out.1]
  rintro e w7 ⟨v7, N7, O7, n7, rfl, hp7⟩
  obtain ⟨hN7, -, -, gx7, hi7⟩ := hp7.good rfl
  obtain ⟨hr7a, hr7b⟩ := hp7.reads
  have hst7 := hp7.st
  obtain rfl : N7 = 1 := by rw [hN7, QeB.out.2]; rfl
  have H7 : Hid _ := hst7
  have HI7 : Hid _ := hi7
  clear hN7 hi7 hp7 hst7 H6 HI6
  go_wp2_with fail
  go_at_call 17
  refine (userWrite_any [118] 1 _ [] (HE.out.ext H7.out.one.ext) H7.out.one.fs QgB.out.ok (by have := QgB.out.time; omega) (by decide) (Row.nil _) (by decide) (fun hh => may_eq _ hh) (fun a n c he _ => by cases he)).mono ?_
  rw [Qh5.out]
  rintro e w8 ⟨rfl, hp8⟩
  have H8 : Hid _ := H7.out.post hp8
  have HI8 : Hid _ := HI7.out.frs (FrS.fr hp8)
  clear hp8 H7 HI7
  go_wp2_with fail
  go_at_call 14
  refine (scan_any HKP.out (.slice none 0 0) [] H8.out HE.out HS.out Qg5.out (by rw [QlC.out]; omega) (by omega) (by rw [QlC.out]; omega) HI8.out (fun hs => hs) (IdsOk.big QiB.out) (IsStrs.nil _) (fun p hp => by cases hp)).mono ?_
  rw [QhC.out, QlC.out, QeC.out.1]
  rintro e w9 ⟨v9, N9, O9, n9, rfl, hp9⟩
  obtain ⟨hN9, -, -, gx9, hi9⟩ := hp9.good rfl
  obtain ⟨hr9a, hr9b⟩ := hp9.reads
  have hst9 := hp9.st
  obtain rfl : N9 = 1 := by rw [hN9, QeC.out.2]; rfl
  have H9 : Hid _ := hst9
  have HI9 : Hid _ := hi9
  clear hN9 hi9 hp9 hst9 H8 HI8
  go_wp2_with fail
  go_at_call 14
  refine (scan_any HKP.out (.slice none 0 0) [] H9.out HE.out HS.out QgC.out (by rw [QlD.out]; omega) (by omega) (by rw [QlD.out]; omega) HI9.out (fun hs => hs) (IdsOk.big QiC.out) (IsStrs.nil _) (fun p hp => by cases hp)).mono ?_
  rw [QhD.out, QlD.out, QeD.out.1]
  rintro e wx ⟨vx, Nx, Ox, nx, rfl, hpx⟩
  obtain ⟨hNx, -, -, gxx, hix⟩ := hpx.good rfl
  obtain ⟨hrxa, hrxb⟩ := hpx.reads
  have hstx := hpx.st
  obtain rfl : Nx = 0 := by rw [hNx, QeD.out.2]; rfl
  have Hx : Hid _ := hstx
  have HIx : Hid _ := hix
  clear hNx hix hpx hstx H9 HI9
  have HXF : Hid (Ext w wx) := Hx.out.one.ext
  clear Hx HIx
  go_wp2
  go_ret
  exact ⟨rfl, HXF.out⟩
theorem first13_any (hkp : ∀ k, keptW k = none) (w : World) (hE : Env w) (hS : EnvS w) :
    Calls Tryz.prog 8 #[] w fun e w' => e = .returned (.bool true) ∧ Ext w w' := by
  obtain ⟨a1, a2, a3, a4, a5, a6, a7, a8⟩ := q_first
  obtain ⟨l1, l2, l3, l4⟩ := q_lens
  exact first13_gen hkp w hE hS qs1 qs2 qs5 qa qb qc qd rfl rfl rfl rfl rfl rfl rfl l1 l2 l3 l4 ⟨a1, a5⟩ ⟨a2, a6⟩ ⟨a3, a7⟩ ⟨a4, a8⟩

end Go.Proofs.YtdhgmpibjneplaaGreatDoor

/-! marlaw5.FewEvents, Few: are events, operations few and small? Conditions: as each theorem states. -/
namespace Go.Proofs.YtdhgmpibjneplaaGreatDoor
open Go Go.RowKit
variable [Inhabited BaseW]

theorem ReadO.dExt {p : List Value → Ev → Prop} {w w' : World} {v : Value} {L : List Ev} (h : ReadO w p v L) (hx : Ext w w') : ReadO w' p v L := h.stay hx.size (fun hn k hk => hx.block k (h.lt hn k hk))
/-- An operation, in its cells. -/
def IsOpn (w : World) (cs : List Value) (o : Opn) : Prop := ∃ vd vp, cs = [.int .i64 o.kind, .int .i64 o.mode, .int .i64 o.keep, .int .i64 o.torn, S8 o.path, S8 o.dest, vd, vp] ∧ OldB vd o.data ∧ ReadO w IsEvI vp o.plan
/-! ### FewEvents -/
def evW (n : Nat) (e : Ev) : Nat := min (n + min e.data.length 40000 + min e.path.length 1000) 160000
def fewEv (es : List Ev) : Bool := decide (es.length ≤ 60) && (es.all (fun e => decide (e.path.length ≤ 400)) && decide (es.foldl evW 0 ≤ 40000))
/-! ### Few -/
def opW (n : Nat) (o : Opn) : Nat := min (n + min o.data.length 40000) 160000
def okOp (o : Opn) : Bool := fewEv o.plan && (decide (o.path.length ≤ 400) && decide (o.dest.length ≤ 400))
def fewOps (l : List Opn) : Bool := decide (l.length ≤ 100) && (l.all okOp && decide (l.foldl opW 0 ≤ 40000))
theorem IsOpn.length {w : World} {cs : List Value} {o : Opn} (h : IsOpn w cs o) : cs.length = 8 ∧ cs.all (·.oneCell') = true := by
  obtain ⟨vd, vp, rfl, h1, h3⟩ := h
  obtain ⟨_, _, rfl, _⟩ := h1.bytes
  obtain ⟨_, ⟨_, _, rfl, _⟩, _⟩ := h3
  exact ⟨rfl, by simp [Value.oneCell']⟩
abbrev IsOps (w : World) (v : Value) (l : List Opn) : Prop := ReadO w (IsOpn w) v l
end Go.Proofs.YtdhgmpibjneplaaGreatDoor

/-! marlaw5: what comes in: operations, by their fields, their slices, their events, read as the texts say. Conditions: what one slice may hold. -/
namespace Go.Proofs.YtdhgmpibjneplaaGreatDoor
open Go Go.ChangeShapes Go.WideShapes Go.ChangeAt Go.RowKit Go.Deep

theorem own : ownKnob Tryz.prog.godebug = none := by kernel_rfl
theorem laidOut : laidOutB Tryz.prog = true := by kernel_rfl
theorem env_of {W : World} (hs : W.ShapedOpen Tryz.prog) : Env W :=
  ⟨Go.Proofs.cell_of_shapedOpen_int (zero := #[.int .i64 0]) (t := 3) hs (of_decide_eq_true (by kernel_rfl)) (by kernel_rfl) rfl (by kernel_rfl) (by kernel_rfl) Tryz.underlying3⟩

theorem trodAll_below (hl : laidOutB Tryz.prog = true) {H : Type} {enc : TypeId × Value → H} {W W' : World} (hb : Below W.heap.size W W') : ∀ {ts : List TypeId} {vs : List Value} {ds : List (DataW H)} {ps : List MemPlace}, DataW.TrodAll enc Tryz.prog W 0 (fun _ => true) true ts vs ds ps → (∀ x ∈ ps, x.block < W.heap.size) → (∀ t ∈ ts, Tryz.prog.readableRec t = true ∧ t < Tryz.prog.types.size) →
    DataW.TrodAll enc Tryz.prog W' 0 (fun b => decide (b < W.heap.size)) true ts vs ds ps
  | [], vs, ds, ps, h, _, _ => by
    obtain ⟨rfl, rfl, rfl⟩ := trodAll_nil h
    exact trodAll_mk0
  | t :: ts, vs, ds, ps, h, hlt, hr => by
    obtain ⟨v, vs', d, ds', p, q, rfl, rfl, rfl, h0, h1⟩ := trodAll_cons h
    exact ⟨p, q, Below.trod hl (hr t (by simp)).1 (hr t (by simp)).2 h0 hb (fun x hx => hlt x (by simp [hx])), trodAll_below hl hb h1 (fun x hx => hlt x (by simp [hx])) (fun t ht => hr t (by simp [ht])), rfl⟩

theorem i64_wf {n : Int} (h : (Lit.int .i64 n).wf = true) : I64 n := by
  have h1 : IntKind.i64.min = -9223372036854775808 := rfl
  have h2 : IntKind.i64.max = 9223372036854775807 := rfl
  simp only [Lit.wf, Bool.and_eq_true, decide_eq_true_eq] at h
  unfold I64
  omega

section
variable {H : Type} {enc : TypeId × Value → H} {P : Program} {w : World} {base : Nat} {spare : Nat → Bool} {held : Bool}
end

/-! ### What one slice may hold, at any depth -/
def Szd {H : Type} (t : TypeId) (d : DataW H) : Prop := ∀ n ∈ d.weights Tryz.prog t, n ≤ reachBytes
theorem szd_arg {H : Type} {ts : List TypeId} {ds : List (DataW H)} {j : Nat} {t : TypeId} {d : DataW H} (h : (DataW.weightsEach Tryz.prog ts ds).all (· ≤ reachBytes) = true) (ht : ts[j]? = some t) (hd : ds[j]? = some d) : Szd t d := fun n hn => by
  have := List.all_eq_true.1 h _ (DataW.weights_mem_each ht hd n hn)
  simpa using this
theorem wAll_mem {H : Type} {P : Program} {e : TypeId} : ∀ {l : List (DataW H)} {d : DataW H}, d ∈ l → ∀ n ∈ d.weights P e, n ∈ DataW.weightsAll P e l
  | d' :: r, d, hd, n, hn => by
    simp only [DataW.weightsAll, List.mem_append]
    rcases List.mem_cons.1 hd with rfl | h
    · exact Or.inl hn
    · exact Or.inr (wAll_mem h n hn)
theorem szd_slice {H : Type} {t q : TypeId} {e s : List (DataW H)} (h : Szd t (.slice e s)) (hu : Tryz.prog.underlying t = some (.slice q)) : (e.length + s.length) * Tryz.prog.bytesOf q ≤ reachBytes ∧ ∀ d ∈ e, Szd q d := by
  refine ⟨h _ (by simp [DataW.weights, hu]), fun d hd n hn => h n ?_⟩
  simp only [DataW.weights, hu, List.mem_cons, List.mem_append]
  exact Or.inr (Or.inl (wAll_mem hd n hn))
section
variable {H : Type} {enc : TypeId × Value → H} {W : World}
theorem trod_i64 {n : Nat} {v : Value} {y : DataW H × List MemPlace} (h : DataW.trod enc Tryz.prog W 0 (fun _ => true) true n 3 [v] = some y) : ∃ z, v = .int .i64 z ∧ I64 z := by
  obtain ⟨z, hc, -, hw⟩ := DataW.trod_int Tryz.underlying3 h
  simp only [List.cons.injEq, and_true] at hc
  exact ⟨z, hc, i64_wf hw⟩
theorem trod_s8 {n : Nat} {v : Value} {y : DataW H × List MemPlace} (h : DataW.trod enc Tryz.prog W 0 (fun _ => true) true n 9 [v] = some y) : ∃ l : B8, v = S8 l := by
  obtain ⟨s, hc, -, -⟩ := DataW.trod_string Tryz.underlying9 h
  simp only [List.cons.injEq, and_true] at hc
  exact ⟨s.data.toList, hc⟩

theorem row_of_cells {a : Addr} {len cap : Nat} {cs : List Value} (hl : len ≤ cap) (hm : cap ≤ maxLen) (hn : len ≤ 140737488355328) (hc : ∀ i u, cs[i]? = some u → W.cell? (a.add i) = some u) : Row W (.slice (some a) len cap) len cs := by
  unfold maxLen at hm
  refine ⟨some a, cap, rfl, hl, by omega, hn, fun hne => ?_⟩
  obtain ⟨x, r, rfl⟩ : ∃ x r, cs = x :: r := by
    cases cs with
    | nil => exact (hne rfl).elim
    | cons x r => exact ⟨x, r, rfl⟩
  have hspot : a.spot = none := by
    have := World.cell?_spot (hc 0 x rfl)
    simpa [Addr.add] using this
  obtain ⟨b, o, sp⟩ := a
  simp only at hspot
  subst hspot
  refine ⟨b, o, rfl, fun i u hu => ?_⟩
  have hadd : (⟨b, o, none⟩ : Addr).add i = ⟨b, o + i, none⟩ := by unfold Addr.add; split <;> simp_all
  rw [← hadd]
  exact hc i u hu


theorem row_low {w : World} {v : Value} {n : Nat} {cs : List Value} (h : Row w v n cs) (hn : cs ≠ []) : ∀ k, v.ownBlock = some k → k < w.heap.size := by
  obtain ⟨a, cap, rfl, h1, h2, h3, h4⟩ := h
  obtain ⟨b, o, rfl, hc⟩ := h4 hn
  intro k hk
  cases cs with
  | nil => exact (hn rfl).elim
  | cons x r =>
    have := World.block_lt_of_cell? _ _ (hc 0 x rfl)
    have hb : b = k := by simpa [Value.ownBlock] using hk
    subst hb
    exact this
theorem flat_inv (m : Nat) (hm : 0 < m) (css : List (List Value)) (h : ∀ c ∈ css, c.length = m) (q : Nat) (u : Value) (hq : css.flatten[q]? = some u) : ∃ c, css[q / m]? = some c ∧ c[q % m]? = some u := by
  induction css generalizing q with
  | nil => simp at hq
  | cons c r ih =>
    have hc := h c (by simp)
    by_cases hl : q < m
    · refine ⟨c, by rw [Nat.div_eq_of_lt hl]; rfl, ?_⟩
      rw [Nat.mod_eq_of_lt hl]
      simpa [List.flatten_cons, List.getElem?_append_left (show q < c.length by omega)] using hq
    · rw [List.flatten_cons, List.getElem?_append_right (by omega), hc] at hq
      obtain ⟨d, h1, h2⟩ := ih (fun x hx => h x (by simp [hx])) (q - m) hq
      refine ⟨d, ?_, ?_⟩
      · have : q / m = (q - m) / m + 1 := by
          rw [Nat.div_eq_sub_div hm (by omega)]
        rw [this]
        exact h1
      · rw [Nat.mod_eq_sub_mod (by omega)]
        exact h2


theorem mul_ge {a b c : Nat} (h : a * b ≤ c) (hb : 1 ≤ b) : a ≤ c := Nat.le_trans (Nat.le_mul_of_pos_right a hb) h
/-- A slice of structs, from what each row says. -/
theorem readO_of {α : Type} (m : Nat) (hm0 : 0 < m) {a : Addr} {len cap : Nat} (d0 : List Value × α) (hl : len ≤ cap) (hm : cap ≤ maxLen) (hn : len ≤ 140737488355328) {p : List Value → α → Prop} (hp : ∀ c x, p c x → c.length = m)
    (key : ∀ i, i < len → ∃ ce : List Value × α, p ce.1 ce.2 ∧ ∀ j u, ce.1[j]? = some u → W.cell? (a.add (i * m + j)) = some u) : ∃ xs : List α, ReadO W p (.slice (some a) len cap) xs ∧ xs.length = len ∧ ∀ x ∈ xs, ∃ c, p c x := by
  have key2 : ∀ i, ∃ ce : List Value × α, i < len → p ce.1 ce.2 ∧ ∀ j u, ce.1[j]? = some u → W.cell? (a.add (i * m + j)) = some u := fun i => by
    by_cases h : i < len
    · obtain ⟨ce, h1⟩ := key i h
      exact ⟨ce, fun _ => h1⟩
    · exact ⟨d0, fun hc => (h hc).elim⟩
  have CE := fun i => (key2 i).choose_spec
  generalize hce : (fun i => (key2 i).choose) = ce at CE
  have CE' : ∀ i, i < len → p (ce i).1 (ce i).2 ∧ ∀ j u, (ce i).1[j]? = some u → W.cell? (a.add (i * m + j)) = some u := fun i hil => by
    have := CE i hil
    rw [← hce]
    exact this
  have hget : ∀ (i : Nat) c, ((List.range len).map fun i => (ce i).1)[i]? = some c → i < len ∧ c = (ce i).1 := fun i c hc => by
    have hil := (List.getElem?_eq_some_iff.1 hc).1
    simp only [List.length_map, List.length_range] at hil
    refine ⟨hil, ?_⟩
    rw [List.getElem?_map, List.getElem?_range hil] at hc
    exact (Option.some.inj hc).symm
  have hrow : Row W (.slice (some a) len cap) len ((List.range len).map fun i => (ce i).1).flatten := by
    refine row_of_cells hl hm hn fun q u hq => ?_
    obtain ⟨c, hc, hu⟩ := flat_inv m hm0 _ (fun c hc => by
      obtain ⟨i, hir, rfl⟩ := List.mem_map.1 hc
      exact hp _ _ (CE' i (by simpa using hir)).1) q u hq
    obtain ⟨hil, rfl⟩ := hget _ _ hc
    have := (CE' _ hil).2 _ u hu
    rwa [show q / m * m + q % m = q by rw [Nat.mul_comm]; exact Nat.div_add_mod q m] at this
  refine ⟨(List.range len).map fun i => (ce i).2, ⟨(List.range len).map fun i => (ce i).1, by rw [List.length_map, List.length_range]; exact hrow, fun hne => ?_, by simp, fun i c e hc he => ?_⟩, by simp, fun x hx => ?_⟩
  · refine row_low hrow fun h0 => ?_
    have hlen : 0 < len := by
      cases len with
      | zero => exact (hne rfl).elim
      | succ n => omega
    have h1 := hp _ _ (CE' 0 hlen).1
    have h2 : ((List.range len).map fun i => (ce i).1)[0]? = some (ce 0).1 := by rw [List.getElem?_map, List.getElem?_range hlen]; rfl
    have h3 := List.mem_of_getElem? h2
    have h4 := List.flatten_eq_nil_iff.1 h0 _ h3
    rw [h4] at h1
    simp at h1
    omega
  · obtain ⟨hil, rfl⟩ := hget _ _ hc
    rw [List.getElem?_map, List.getElem?_range hil] at he
    cases he
    exact (CE' i hil).1
  · obtain ⟨i, hir, rfl⟩ := List.mem_map.1 hx
    exact ⟨_, (CE' i (by simpa using hir)).1⟩
end

section
variable [Inhabited BaseW] {H : Type} {enc : TypeId × Value → H} {W : World}
end

end Go.Proofs.YtdhgmpibjneplaaGreatDoor

/-! marlaw13.Few, patterns. Conditions: as each theorem states. -/
namespace Go.Proofs.YtdhgmpibjneplaaGreatDoor
open Go Go.RowKit
set_option linter.unusedVariables false
set_option linter.unusedSimpArgs false
set_option linter.unusedSectionVars false
variable [Inhabited BaseW]

section
variable {ops : Array Oper} {rest : List Oper} {o : Oper} {a : Act} {Q : Exit → Act → World → Prop} {w : World}
end

theorem IsOpn.ext {w w' : World} {cs : List Value} {o : Opn} (h : IsOpn w cs o) (hx : Ext w w') : IsOpn w' cs o := by
  obtain ⟨vd, vp, rfl, h1, h2⟩ := h
  exact ⟨vd, vp, rfl, h1, h2.dExt hx⟩
theorem IsOps.ext {w w' : World} {v : Value} {l : List Opn} (h : IsOps w v l) (hx : Ext w w') : IsOps w' v l :=
  (h.stay hx.size (fun hn k hk => hx.block k (h.lt hn k hk))).mono (fun c x hc => hc.ext hx)

/-- marlaw13's operations. -/
structure Sop where
  kind : Int
  f : Opn
def IsSop (w : World) (cs : List Value) (o : Sop) : Prop := ∃ fs, cs = .int .i64 o.kind :: fs ∧ IsOpn w fs o.f
theorem IsSop.length {w : World} {cs : List Value} {o : Sop} (h : IsSop w cs o) : cs.length = 9 := by
  obtain ⟨fs, rfl, h⟩ := h
  simp [(h.length).1]
abbrev IsSops (w : World) (v : Value) (l : List Sop) : Prop := ReadO w (IsSop w) v l
def fewS (l : List Sop) : Bool := decide (l.length ≤ 60) && fewOps (l.map Sop.f)
end Go.Proofs.YtdhgmpibjneplaaGreatDoor
