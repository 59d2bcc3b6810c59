/- script.Acts, marref24.Acts: bytes as acts. Conditions: at most 100000 bytes. -/
import Derived.Test.YthfkohppillflaaDoorRact
namespace Go.Proofs.YthfkohppillflaaDoor
open Go Go.RowKit

def actAt (b : B8) (k : Nat) : Ac := actL ((b.getD (4 * k) 0).toNat % 10) (b.getD (4 * k + 1) 0).toNat (b.getD (4 * k + 2) 0).toNat (b.getD (4 * k + 3) 0).toNat
def actsN (b : B8) : Nat := min (b.length / 4) 500
def actsL (b : B8) : List Ac := (List.range (actsN b)).map (actAt b)
theorem actsL_length (b : B8) : (actsL b).length = actsN b := by simp [actsL]
theorem actsL_get (b : B8) (k : Nat) (h : k < actsN b) : (actsL b)[k]? = some (actAt b k) := by simp [actsL, h]

def IsActs (te ta : TypeId) (w : World) (v : Value) (xs : List Ac) : Prop := ∃ css : List (List Value), Row w v xs.length css.flatten ∧ Typed ta w v ∧ css.length = xs.length ∧ ∀ (i : Nat) c x, css[i]? = some c → xs[i]? = some x → IsAcG te w c x
theorem IsActs.keep {te ta : TypeId} {w w' : World} {v : Value} {xs : List Ac} (h : IsActs te ta w v xs) (ka : Keep ta w w') (k5 : Keep 5 w w') (k3 : Keep 3 w w') (ke : Keep te w w') : IsActs te ta w' v xs := by
  obtain ⟨css, h1, h2, h3, h4⟩ := h
  exact ⟨css, h1.keep h2 ka, h2.keep ka, h3, fun i c x hc hx => (h4 i c x hc hx).keep k5 k3 ke⟩
theorem IsActs.ext {te ta : TypeId} {w w' : World} {v : Value} {xs : List Ac} (h : IsActs te ta w v xs) (he : Ext w w') : IsActs te ta w' v xs := h.keep (Keep.of_ext he) (Keep.of_ext he) (Keep.of_ext he) (Keep.of_ext he)

/-- What lies in the cells of a list of acts. -/
theorem IsActs.get {te ta : TypeId} {w : World} {v : Value} {xs : List Ac} (h : IsActs te ta w v xs) : ∃ a cap, v = .slice a xs.length cap ∧ xs.length ≤ cap ∧ xs.length ≤ 140737488355328 ∧ cap ≤ 9223372036854775807 ∧
    ∀ (k : Nat) x, xs[k]? = some x → ∃ b o vd vf ve, a = some ⟨b, o, none⟩ ∧ IsAcG te w [.int .i64 x.kind, .int .i64 x.a, .int .i64 x.b, .int .i64 x.n, S8 x.path, vd, vf, ve] x ∧ w.cell? ⟨b, o + k * 8, none⟩ = some (.int .i64 x.kind) ∧ w.cell? ⟨b, o + k * 8 + 1, none⟩ = some (.int .i64 x.a) ∧ w.cell? ⟨b, o + k * 8 + 2, none⟩ = some (.int .i64 x.b) ∧
      w.cell? ⟨b, o + k * 8 + 3, none⟩ = some (.int .i64 x.n) ∧ w.cell? ⟨b, o + k * 8 + 4, none⟩ = some (S8 x.path) ∧ w.cell? ⟨b, o + k * 8 + 5, none⟩ = some vd ∧ w.cell? ⟨b, o + k * 8 + 6, none⟩ = some vf ∧ w.cell? ⟨b, o + k * 8 + 7, none⟩ = some ve := by
  obtain ⟨css, ⟨a, cap, rfl, h1, h2, h3, h4⟩, _, h5, h6⟩ := h
  refine ⟨a, cap, rfl, h1, h3, h2, fun k e he => ?_⟩
  have hk : k < css.length := by rw [h5]; exact (List.getElem?_eq_some_iff.1 he).1
  have hc : css[k]? = some css[k] := List.getElem?_eq_getElem hk
  have hac := h6 k _ e hc he
  obtain ⟨vd, vf, ve, hcs, hd⟩ := id hac
  have hlen : ∀ c ∈ css, c.length = 8 := by
    intro c hm
    obtain ⟨i, hi, rfl⟩ := List.mem_iff_getElem.1 hm
    have hi2 : i < xs.length := by omega
    obtain ⟨_, _, _, hx, _⟩ := h6 i css[i] xs[i] (List.getElem?_eq_getElem hi) (List.getElem?_eq_getElem hi2)
    rw [hx]; rfl
  rw [hcs] at hc hac
  have hf := fun j u hu => flat_get 8 css k j _ u hlen hc hu
  obtain ⟨b, o, rfl, hcell⟩ := h4 (by
    intro hn
    have := hf 0 _ rfl
    rw [hn] at this
    simp at this)
  refine ⟨b, o, vd, vf, ve, rfl, hac, ?_, ?_, ?_, ?_, ?_, ?_, ?_, ?_⟩
  · have := hcell _ _ (hf 0 _ rfl); rw [Nat.mul_comm]; simpa using this
  all_goals
    rw [Nat.add_assoc, Nat.mul_comm]
    exact hcell _ _ (hf _ _ rfl)

theorem info_ac : (Tryd.prog.info? 26).map (fun i => (i.zero, i.size, i.bytes)) = some (some (.agg zeroAc.toArray), 8, 120) := by kernel_rfl
theorem info_rc : (Tryd.prog.info? 34).map (fun i => (i.zero, i.size, i.bytes)) = some (some (.agg zeroAc.toArray), 8, 120) := by kernel_rfl

section
variable {ops : Array Oper} {rest : List Oper} {o : Oper} {a : Act} {Q : Exit → Act → World → Prop} {w : World}
/-- append of one act. -/
theorem app_ac (hgd : o.guard = none) (s x : Operand) (ho : o.op = .call { callee := .builtin .append, args := #[s, x], argTypes := #[45, 45] })
    (base : Nat) (v : Value) (n : Nat) (xs : List Value) (hs : a.eval s = v) (hown : w.ownsRow base 26 8 v n xs)
    (g c : Nat) (news : List Value) (hx : a.eval x = .slice (some ⟨g, 0, none⟩) 1 c) (hl : news.length = 8) {fr : Nat × Nat} (hg : w.heap[g]? = some (.cells news.toArray 26 fr)) (h1 : news.all (·.oneCell') = true)
    (hb : n ≤ 10000000) (hbase : base ≤ w.heap.size)
    (h : ∀ v' w', w'.ownsRow base 26 8 v' (n + 1) (xs ++ news) → w.grownBy w' v.ownBlock → wpList Tryd.prog ops Q rest (a.put o.dst v') w') : wpList Tryd.prog ops Q (o :: rest) a w :=
  app_any _ _ _ 8 120 Tryd.underlying45 info_ac rfl (by omega) hgd s x ho base v n _ hs hown ⟨g, 0, none⟩ 1 c _ hx (by simpa using hl) (by simpa using news_of_block hg) (fun u hu => List.all_eq_true.1 h1 u hu) (by omega) (by omega) hbase
    (fun v' w' h1 h2 _ => h v' w' h1 h2)
theorem app_rc (hgd : o.guard = none) (s x : Operand) (ho : o.op = .call { callee := .builtin .append, args := #[s, x], argTypes := #[47, 47] })
    (base : Nat) (v : Value) (n : Nat) (xs : List Value) (hs : a.eval s = v) (hown : w.ownsRow base 34 8 v n xs)
    (g c : Nat) (news : List Value) (hx : a.eval x = .slice (some ⟨g, 0, none⟩) 1 c) (hl : news.length = 8) {fr : Nat × Nat} (hg : w.heap[g]? = some (.cells news.toArray 34 fr)) (h1 : news.all (·.oneCell') = true)
    (hb : n ≤ 10000000) (hbase : base ≤ w.heap.size)
    (h : ∀ v' w', w'.ownsRow base 34 8 v' (n + 1) (xs ++ news) → w.grownBy w' v.ownBlock → wpList Tryd.prog ops Q rest (a.put o.dst v') w') : wpList Tryd.prog ops Q (o :: rest) a w :=
  app_any _ _ _ 8 120 Tryd.underlying47 info_rc rfl (by omega) hgd s x ho base v n _ hs hown ⟨g, 0, none⟩ 1 c _ hx (by simpa using hl) (by simpa using news_of_block hg) (fun u hu => List.all_eq_true.1 h1 u hu) (by omega) (by omega) hbase
    (fun v' w' h1 h2 _ => h v' w' h1 h2)
end

theorem getD_get {l : B8} {i : Nat} {x : UInt8} (h : i < l.length) (hx : l.getD i 0 = x) : l[i]? = some x := by
  rw [← hx]; simp [h]

/-- The next act of a list that grows. -/
theorem acts_step {te : TypeId} {w w' : World} {b : B8} {k : Nat} {css : List (List Value)} {cs : List Value} (hcl : css.length = k) (hcs : ∀ (j : Nat) c, css[j]? = some c → IsAcG te w c (actAt b j)) (h5 : Keep 5 w w') (h3 : Keep 3 w w') (he : Keep te w w') (hn : IsAcG te w' cs (actAt b k)) :
    (css ++ [cs]).length = k + 1 ∧ ∀ (j : Nat) c, (css ++ [cs])[j]? = some c → IsAcG te w' c (actAt b j) := by
  refine ⟨by simp [hcl], fun j c hc => ?_⟩
  rw [List.getElem?_append] at hc
  split at hc
  · exact (hcs j c hc).keep h5 h3 he
  · rename_i hj
    have hjk : j = k := by
      have h9 := (List.getElem?_eq_some_iff.1 hc).1
      simp at h9; omega
    subst hjk
    rw [hcl, Nat.sub_self] at hc
    have : cs = c := by simpa using hc
    subst this
    exact hn
theorem acts_done {te ta : TypeId} {w : World} {v : Value} {b : B8} {base : Nat} {css : List (List Value)} (hown : w.ownsRow base ta 8 v (actsN b) css.flatten) (hcl : css.length = actsN b) (hcs : ∀ (j : Nat) c, css[j]? = some c → IsAcG te w c (actAt b j)) : IsActs te ta w v (actsL b) := by
  have hn : actsN b ≤ 500 := by unfold actsN; omega
  refine ⟨css, by rw [actsL_length]; exact Row.of_owns hown (by omega), Typed.of_owns hown, by rw [actsL_length, hcl], fun i c x hc hx => ?_⟩
  have hi : i < actsN b := by rw [← hcl]; exact (List.getElem?_eq_some_iff.1 hc).1
  rw [actsL_get b i hi] at hx
  have := Option.some.inj hx
  subst this
  exact hcs i c hc

end Go.Proofs.YthfkohppillflaaDoor
