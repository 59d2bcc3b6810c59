/- marlaw5.Plain, marlaw25.Plain: events and acts, for the document. Conditions: at most 9000000 events. -/
import Derived.Test.YthfkohppillflaaDoorFirst
namespace Go.Proofs.YthfkohppillflaaDoor
open Go Go.RowKit

theorem info_re : (Tryd.prog.info? 64).map (fun i => (i.zero, i.size, i.bytes)) = some (some (.agg #[.int .i64 0, .int .i64 0, .int .i64 0, .int .i64 0, .int .i64 0, S8 [], .slice none 0 0]), 7, 80) := by kernel_rfl

section
variable {ops : Array Oper} {rest : List Oper} {o : Oper} {a : Act} {Q : Exit → Act → World → Prop} {w : World}
/-- append of one event of the document's. -/
theorem app_re (hgd : o.guard = none) (s x : Operand) (ho : o.op = .call { callee := .builtin .append, args := #[s, x], argTypes := #[32, 32] })
    (base : Nat) (v : Value) (n : Nat) (xs : List Value) (hs : a.eval s = v) (hown : w.ownsRow base 64 7 v n xs)
    (g c : Nat) (news : List Value) (hx : a.eval x = .slice (some ⟨g, 0, none⟩) 1 c) (hl : news.length = 7) {fr : Nat × Nat} (hg : w.heap[g]? = some (.cells news.toArray 64 fr)) (h1 : news.all (·.oneCell') = true)
    (hb : n ≤ 10000000) (hbase : base ≤ w.heap.size)
    (h : ∀ v' w', w'.ownsRow base 64 7 v' (n + 1) (xs ++ news) → w.grownBy w' v.ownBlock → wpList Tryd.prog ops Q rest (a.put o.dst v') w') : wpList Tryd.prog ops Q (o :: rest) a w :=
  app_any _ _ _ 7 80 Tryd.underlying32 info_re rfl (by omega) hgd s x ho base v n _ hs hown ⟨g, 0, none⟩ 1 c _ hx (by simpa using hl) (by simpa using news_of_block hg) (fun u hu => List.all_eq_true.1 h1 u hu) (by omega) (by omega) hbase
    (fun v' w' h1 h2 _ => h v' w' h1 h2)
end

theorem alloc_at1 (w : World) (p q : Obj) : ((w.alloc p).alloc q).heap[w.heap.size + 1]? = some q := by
  have := alloc_at (w.alloc p) q
  rwa [show (w.alloc p).heap.size = w.heap.size + 1 by simp] at this

def EvRows (w : World) (css : List (List Value)) (es : List Ev) : Prop := ∀ (j : Nat) c e, css[j]? = some c → es[j]? = some e → IsEv w c e
theorem EvRows.snoc {w : World} {css : List (List Value)} {es : List Ev} {c : List Value} {e : Ev} (h : EvRows w css es) (he : es[css.length]? = some e) (hc : IsEv w c e) : EvRows w (css ++ [c]) es := by
  intro j d f hd hf
  rw [List.getElem?_append] at hd
  split at hd
  · exact h j d f hd hf
  · rename_i hj
    have hjk : j = css.length := by
      have h9 := (List.getElem?_eq_some_iff.1 hd).1
      simp at h9; omega
    subst hjk
    rw [Nat.sub_self] at hd
    have : c = d := by simpa using hd
    subst this
    rw [he] at hf
    exact (Option.some.inj hf) ▸ hc

/-- Events in a block of their own type; what their data are lies in an elder world. -/
def EvsFrom (te : TypeId) (w0 w : World) (v : Value) (es : List Ev) : Prop := ∃ css : List (List Value), Row w v es.length css.flatten ∧ Typed te w v ∧ css.length = es.length ∧ EvRows w0 css es
theorem EvsFrom.keep {te : TypeId} {w0 w w' : World} {v : Value} {es : List Ev} (h : EvsFrom te w0 w v es) (k : Keep te w w') : EvsFrom te w0 w' v es := by
  obtain ⟨css, h1, h2, h3, h4⟩ := h
  exact ⟨css, h1.keep h2 k, h2.keep k, h3, h4⟩
theorem EvsFrom.evs {te : TypeId} {w0 w : World} {v : Value} {es : List Ev} (h : EvsFrom te w0 w v es) (hx : Ext w0 w) : IsEvs w v es := by
  obtain ⟨css, h1, _, h3, h4⟩ := h
  exact ⟨css, h1, h3, fun i c e hc he => (h4 i c e hc he).ext hx⟩

set_option maxRecDepth 100000 in
set_option maxHeartbeats 1000000 in
theorem plainEvs_any (v : Value) (es : List Ev) (w0 w : World) (hx0 : Ext w0 w) (hv : IsEvs w0 v es) (hn : es.length ≤ 9000000) :
    Calls Tryd.prog 40 #[v] w fun e w' => (∃ v, e = .returned v ∧ EvsFrom 64 w0 w' v es) ∧ Ext w w' := by
  obtain ⟨a, cap, rfl, h1, h2, h3, h4⟩ := hv.get
  have H4 : Hid _ := h4
  clear h4 hv
  go_enter Tryd.func40, Tryd.ntmps40
  go_wp2
  go_loopw [3, 4] (fun v i wr => ∃ (k : Nat) (css : List (List Value)), k ≤ es.length ∧ i = .int .i64 k ∧ wr.ownsRow w.heap.size 64 7 v k css.flatten ∧ css.length = k ∧ EvRows w0 css es ∧ Ext w wr) (fun _ i _ => es.length - (intOf i).toNat)
  case atStart => exact ⟨0, [], Nat.zero_le _, rfl, World.ownsRow_nil _ _ _ _, rfl, fun j c e hc => by simp at hc, Ext.refl _⟩
  case round =>
    obtain ⟨k, css, hk, rfl, hown, hcl, hcs, hx⟩ := hrel
    have HCL : Hid _ := hcl
    have HCS : Hid _ := hcs
    clear hcl hcs
    by_cases hlt : k < es.length
    · obtain ⟨e, hee⟩ : ∃ e, es[k]? = some e := ⟨_, List.getElem?_eq_getElem hlt⟩
      obtain ⟨b, o, vd, rfl, hb, c0, c1, c2, c3, c4, c5, c6⟩ := H4.out k e hee
      have HX : Hid _ := hee
      have HEV : Hid (IsEv w0 [.int .i64 e.t, .int .i64 e.kind, .int .i64 e.mode, .int .i64 e.keep, .int .i64 e.torn, S8 e.path, vd] e) := ⟨vd, rfl, hb⟩
      obtain ⟨d1, d2, rfl, -⟩ := id hb
      clear hee hb
      replace c0 := (hx0.trans hx).cell c0
      replace c1 := (hx0.trans hx).cell c1
      replace c2 := (hx0.trans hx).cell c2
      replace c3 := (hx0.trans hx).cell c3
      replace c4 := (hx0.trans hx).cell c4
      replace c5 := (hx0.trans hx).cell c5
      replace c6 := (hx0.trans hx).cell c6
      have hsz := hx.size
      go_wp2_with (at_builtin; go_must (refine app_re rfl _ _ rfl w.heap.size _ k _ rfl ((hown.alloc _).alloc _) (wr.heap.size + 1) 1 [.int .i64 e.t, .int .i64 e.kind, .int .i64 e.mode, .int .i64 e.keep, .int .i64 e.torn, S8 e.path, .slice d1 e.data.length d2] rfl rfl (alloc_at1 _ _ _) (by simp [Value.oneCell']) (by omega) (by simp; omega) ?_; intro v' w3 hown3 hg3))
      go_roundw
      case rel =>
        refine ⟨k + 1, css ++ [[.int .i64 e.t, .int .i64 e.kind, .int .i64 e.mode, .int .i64 e.keep, .int .i64 e.torn, S8 e.path, .slice d1 e.data.length d2]], by omega, by go_num, ?_, by simp [HCL.out], EvRows.snoc HCS.out (by rw [HCL.out]; exact HX.out) HEV.out, owns_ext_app ((hx.alloc _).alloc _) ((hown.alloc _).alloc _) hg3⟩
        rw [List.flatten_append]
        simpa using hown3
      case measure => simp [intOf]; omega
    · have hkk : k = es.length := by omega
      subst hkk
      have hres : EvsFrom 64 w0 wr u3 es := ⟨css, Row.of_owns hown (by omega), Typed.of_owns hown, HCL.out, HCS.out⟩
      have HR : Hid _ := hres
      clear hres hown
      go_wp2
      go_ret
      exact ⟨⟨_, rfl, HR.out⟩, hx⟩

theorem cellsAt8 {w : World} {g : Nat} {v0 v1 v2 v3 v4 v5 v6 v7 : Value} {t : TypeId} {fr : Nat × Nat} (h : w.heap[g]? = some (.cells #[v0, v1, v2, v3, v4, v5, v6, v7] t fr)) :
    w.cell? ⟨g, 0, none⟩ = some v0 ∧ w.cell? ⟨g, 1, none⟩ = some v1 ∧ w.cell? ⟨g, 2, none⟩ = some v2 ∧ w.cell? ⟨g, 3, none⟩ = some v3 ∧ w.cell? ⟨g, 4, none⟩ = some v4 ∧ w.cell? ⟨g, 5, none⟩ = some v5 ∧ w.cell? ⟨g, 6, none⟩ = some v6 ∧ w.cell? ⟨g, 7, none⟩ = some v7 := by
  simp [World.cell?, h]

theorem sizeRc' : (Tryd.prog.info? 34).map (·.size) = some 8 := by kernel_rfl

set_option maxRecDepth 100000 in
set_option maxHeartbeats 2000000 in
theorem plainAct_any (cs : List Value) (x : Ac) (w : World) (hv : IsAc w cs x) (hn : x.events.length ≤ 9000000) :
    Calls Tryd.prog 13 #[.agg cs.toArray] w fun e w' => (∃ cs, e = .returned (.agg cs.toArray) ∧ IsAc w' cs x) ∧ Ext w w' := by
  obtain ⟨vd, vf, ve, rfl, hd, hf, he⟩ := hv
  have HD : Hid _ := hd
  have HF : Hid _ := hf
  have HE : Hid _ := he
  obtain ⟨d1, d2, rfl, -⟩ := id hd
  obtain ⟨f1, f2, rfl, -⟩ := id hf
  obtain ⟨q1, ⟨e1, e2, rfl, -⟩, -⟩ := id he
  clear hd hf he
  obtain ⟨w1, hw1⟩ : ∃ w1, w1 = (w.alloc (.cells #[.int .i64 x.kind, .int .i64 x.a, .int .i64 x.b, .int .i64 x.n, S8 x.path, .slice d1 x.data.length d2, .slice f1 x.fates.length f2, .slice e1 x.events.length e2] 26)).alloc (.cells zeroAc.toArray 34) := ⟨_, rfl⟩
  have hx1 : Ext w w1 := by rw [hw1]; exact ((Ext.refl _).alloc _).alloc _
  have hga : w1.heap[w.heap.size]? = some (.cells #[.int .i64 x.kind, .int .i64 x.a, .int .i64 x.b, .int .i64 x.n, S8 x.path, .slice d1 x.data.length d2, .slice f1 x.fates.length f2, .slice e1 x.events.length e2] 26 (0, 0)) := by rw [hw1]; exact ((Ext.refl _).alloc _).row (alloc_at _ _)
  have hgb : w1.heap[w.heap.size + 1]? = some (.cells zeroAc.toArray 34 (0, 0)) := by rw [hw1]; exact alloc_at1 _ _ _
  obtain ⟨c0, c1, c2, c3, c4, c5, c6, c7⟩ := cellsAt8 hga
  have HW1 : Hid _ := hw1
  clear hw1
  go_enter Tryd.func13, Tryd.ntmps13
  go_wp2_with fail
  rw [show (w.alloc (.cells #[.int .i64 x.kind, .int .i64 x.a, .int .i64 x.b, .int .i64 x.n, S8 x.path, .slice d1 x.data.length d2, .slice f1 x.fates.length f2, .slice e1 x.events.length e2] 26)).alloc (.cells #[.int .i64 0, .int .i64 0, .int .i64 0, .int .i64 0, S8 [], .slice none 0 0, .slice none 0 0, .slice none 0 0] 34) = w1 from HW1.out.symm]
  apply wp_region_mix 18 [_, _, _, _, _, _, _, _, _, _, _, _, _, _, _, _, undef, undef] [none, none, none, none, none, none, none, none, none, none, none, none, none, none, none, none, some (fun u w' => EvsFrom 64 w w' u x.events), some (fun u w' => ∃ ve, u = .agg (acCells x.kind x.a x.b x.n x.path (.slice d1 x.data.length d2) (.slice f1 x.fates.length f2) ve) ∧ EvsFrom 64 w w' ve x.events)] [[], [0], [], [2], [], [4], [], [6], [], [8], [], [10], [], [12], [], [14], [15], [1, 3, 5, 7, 9, 11, 13, 16]] (by kernel_rfl) (by kernel_rfl) (by simp [mixV])
  · refine ⟨?_, ?_, trivial⟩
    · exact fun _ _ _ he h => h.keep (Keep.of_ext he)
    · exact fun _ _ _ he ⟨ve, h1, h2⟩ => ⟨ve, h1, h2.keep (Keep.of_ext he)⟩
  · simp (maxSteps := 1000000) only [List.take_succ_cons, List.take_zero, oblFrom, stepObl, fillFrom, Act.put, List.setIfInBounds_toArray, List.set_cons_zero, List.set_cons_succ, knows, getV, mixV, List.getD_cons_zero, List.getD_cons_succ, and_true, true_and, forall_const]
    refine ⟨?_, ?_, ?_, ?_, ?_, ?_, ?_, ?_, ?_, ?_, ?_, ?_, ?_, ?_, ?_, ?_, ?_, ?_⟩
    · intro xs wq hq R hR
      have f0 := hq.cell c0; have f1 := hq.cell c1; have f2 := hq.cell c2; have f3 := hq.cell c3; have f4 := hq.cell c4; have f5 := hq.cell c5; have f6 := hq.cell c6; have f7 := hq.cell c7
      go_simp
      exact hR _ _ (Ext.refl _) rfl
    · intro xs wq hq hk R hR
      have f0 := hq.cell c0; have f1 := hq.cell c1; have f2 := hq.cell c2; have f3 := hq.cell c3; have f4 := hq.cell c4; have f5 := hq.cell c5; have f6 := hq.cell c6; have f7 := hq.cell c7
      go_simp
      exact hR _ _ (Ext.refl _) rfl
    · intro xs wq hq R hR
      have f0 := hq.cell c0; have f1 := hq.cell c1; have f2 := hq.cell c2; have f3 := hq.cell c3; have f4 := hq.cell c4; have f5 := hq.cell c5; have f6 := hq.cell c6; have f7 := hq.cell c7
      go_simp
      exact hR _ _ (Ext.refl _) rfl
    · intro xs wq hq hk R hR
      have f0 := hq.cell c0; have f1 := hq.cell c1; have f2 := hq.cell c2; have f3 := hq.cell c3; have f4 := hq.cell c4; have f5 := hq.cell c5; have f6 := hq.cell c6; have f7 := hq.cell c7
      go_simp
      exact hR _ _ (Ext.refl _) rfl
    · intro xs wq hq R hR
      have f0 := hq.cell c0; have f1 := hq.cell c1; have f2 := hq.cell c2; have f3 := hq.cell c3; have f4 := hq.cell c4; have f5 := hq.cell c5; have f6 := hq.cell c6; have f7 := hq.cell c7
      go_simp
      exact hR _ _ (Ext.refl _) rfl
    · intro xs wq hq hk R hR
      have f0 := hq.cell c0; have f1 := hq.cell c1; have f2 := hq.cell c2; have f3 := hq.cell c3; have f4 := hq.cell c4; have f5 := hq.cell c5; have f6 := hq.cell c6; have f7 := hq.cell c7
      go_simp
      exact hR _ _ (Ext.refl _) rfl
    · intro xs wq hq R hR
      have f0 := hq.cell c0; have f1 := hq.cell c1; have f2 := hq.cell c2; have f3 := hq.cell c3; have f4 := hq.cell c4; have f5 := hq.cell c5; have f6 := hq.cell c6; have f7 := hq.cell c7
      go_simp
      exact hR _ _ (Ext.refl _) rfl
    · intro xs wq hq hk R hR
      have f0 := hq.cell c0; have f1 := hq.cell c1; have f2 := hq.cell c2; have f3 := hq.cell c3; have f4 := hq.cell c4; have f5 := hq.cell c5; have f6 := hq.cell c6; have f7 := hq.cell c7
      go_simp
      exact hR _ _ (Ext.refl _) rfl
    · intro xs wq hq R hR
      have f0 := hq.cell c0; have f1 := hq.cell c1; have f2 := hq.cell c2; have f3 := hq.cell c3; have f4 := hq.cell c4; have f5 := hq.cell c5; have f6 := hq.cell c6; have f7 := hq.cell c7
      go_simp
      exact hR _ _ (Ext.refl _) rfl
    · intro xs wq hq hk R hR
      have f0 := hq.cell c0; have f1 := hq.cell c1; have f2 := hq.cell c2; have f3 := hq.cell c3; have f4 := hq.cell c4; have f5 := hq.cell c5; have f6 := hq.cell c6; have f7 := hq.cell c7
      go_simp
      exact hR _ _ (Ext.refl _) rfl
    · intro xs wq hq R hR
      have f0 := hq.cell c0; have f1 := hq.cell c1; have f2 := hq.cell c2; have f3 := hq.cell c3; have f4 := hq.cell c4; have f5 := hq.cell c5; have f6 := hq.cell c6; have f7 := hq.cell c7
      go_simp
      exact hR _ _ (Ext.refl _) rfl
    · intro xs wq hq hk R hR
      have f0 := hq.cell c0; have f1 := hq.cell c1; have f2 := hq.cell c2; have f3 := hq.cell c3; have f4 := hq.cell c4; have f5 := hq.cell c5; have f6 := hq.cell c6; have f7 := hq.cell c7
      go_simp
      exact hR _ _ (Ext.refl _) rfl
    · intro xs wq hq R hR
      have f0 := hq.cell c0; have f1 := hq.cell c1; have f2 := hq.cell c2; have f3 := hq.cell c3; have f4 := hq.cell c4; have f5 := hq.cell c5; have f6 := hq.cell c6; have f7 := hq.cell c7
      go_simp
      exact hR _ _ (Ext.refl _) rfl
    · intro xs wq hq hk R hR
      have f0 := hq.cell c0; have f1 := hq.cell c1; have f2 := hq.cell c2; have f3 := hq.cell c3; have f4 := hq.cell c4; have f5 := hq.cell c5; have f6 := hq.cell c6; have f7 := hq.cell c7
      go_simp
      exact hR _ _ (Ext.refl _) rfl
    · intro xs wq hq R hR
      have f0 := hq.cell c0; have f1 := hq.cell c1; have f2 := hq.cell c2; have f3 := hq.cell c3; have f4 := hq.cell c4; have f5 := hq.cell c5; have f6 := hq.cell c6; have f7 := hq.cell c7
      go_simp
      exact hR _ _ (Ext.refl _) rfl
    · intro xs wq hq hk R hR
      have f0 := hq.cell c0; have f1 := hq.cell c1; have f2 := hq.cell c2; have f3 := hq.cell c3; have f4 := hq.cell c4; have f5 := hq.cell c5; have f6 := hq.cell c6; have f7 := hq.cell c7
      go_simp
      exact hR _ _ (Ext.refl _) rfl
    · intro xs wq hq hk R hR
      go_simp
      exact (plainEvs_any _ _ w _ (hx1.trans hq) HE.out hn).mono (by rintro e' w4 ⟨⟨u, rfl, hu⟩, h2⟩; exact ⟨_, rfl, hR _ _ h2 hu⟩)
    · intro xs wq hq hk R hR
      obtain ⟨hk0, hk1, hk2, hk3, hk4, hk5, hk6, hk7⟩ := hk
      obtain ⟨z1, ⟨ua, uc, hu, -⟩, -⟩ := id hk7
      go_simp
      exact hR _ _ (Ext.refl _) ⟨_, rfl, hu ▸ hk7⟩
  intro xs w3 hx3 hk
  simp only [heldV, Nat.zero_add, Nat.reduceAdd, and_true] at hk
  obtain ⟨q0, q1, q2, q3, q4, q5, q6, q7, q8, q9, q10, q11, q12, q13, q14, q15, q16, q17⟩ := hk
  simp (maxSteps := 1000000) only [List.take_succ_cons, List.take_zero, List.drop_succ_cons, List.drop_zero, fillFrom, Act.put, List.setIfInBounds_toArray, List.set_cons_zero, List.set_cons_succ, Nat.zero_add, Nat.reduceAdd, q0, q1, q2, q3, q4, q5, q6, q7, q8, q9, q10, q11, q12, q13, q14, q15]
  clear q0 q1 q2 q3 q4 q5 q6 q7 q8 q9 q10 q11 q12 q13 q14 q15
  generalize xs 16 = x16 at *
  generalize xs 17 = x17 at *
  obtain ⟨ve, rfl, hve⟩ := q17
  obtain ⟨z1, ⟨ua, uc, hu, -⟩, -⟩ := id hve
  subst hu
  have hgb3 := hx3.row hgb
  go_wp2_with (refine wpList_store_row rfl 34 (.tmp 2) (.tmp 20) rfl (w.heap.size + 1) (acCells x.kind x.a x.b x.n x.path (.slice d1 x.data.length d2) (.slice f1 x.fates.length f2) (.slice ua x.events.length uc)) rfl rfl 34 _ hgb3 sizeRc' rfl (by simp [zeroAc, Value.oneCell']) ?_)
  refine bodyPost_ret (results_cell_row rfl _ _ (w.heap.size + 1) 34 (acCells x.kind x.a x.b x.n x.path (.slice d1 x.data.length d2) (.slice f1 x.fates.length f2) (.slice ua x.events.length uc)) (0, 0) _ rfl (setRow_heap _ _ _ _ _ _ hgb3) Tryd.underlying34 rfl sizeRc') rfl ?_
  have hxs : Ext w (w3.setRow (w.heap.size + 1) (acCells x.kind x.a x.b x.n x.path (.slice d1 x.data.length d2) (.slice f1 x.fates.length f2) (.slice ua x.events.length uc))) := (hx1.trans hx3).setRow _ _ (by omega)
  exact ⟨⟨_, rfl, _, _, _, rfl, IsBytes.ext HD.out hxs, Row.ext HF.out hxs, (hve.keep (Keep.of_grown (setRow_grown _ _ _) hgb3 (by decide))).evs hxs⟩, hxs⟩

end Go.Proofs.YthfkohppillflaaDoor
