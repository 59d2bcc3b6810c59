/- marlaw26.ScriptBack: true at any act and any text of ordinary size. Conditions: the library's variables; data of an event of at most 1048576 bytes. -/
import Derived.Test.YthfkohppillflaaDoorFew
import Derived.Test.YthfkohppillflaaDoorPureBack
import Derived.Test.YthfkohppillflaaDoorPlain
import Derived.Laws.AppendOwnNone
namespace Go.Proofs.YthfkohppillflaaDoor
open Go Go.RowKit

section
variable {ops : Array Oper} {rest : List Oper} {o : Oper} {a : Act} {Q : Exit → Act → World → Prop} {w : World}
/-- append of a slice of numbers that came in. -/
theorem app_ints (hgd : o.guard = none) (s x : Operand) (ho : o.op = .call { callee := .builtin .append, args := #[s, x], argTypes := #[23, 23] })
    (base : Nat) (v : Value) (n : Nat) (l : List Int) (hs : a.eval s = v) (hown : w.ownsRow base 3 1 v n (l.map fun x => .int .i64 x))
    (ao : Option Addr) (c : Nat) (news : List Int) (hx : a.eval x = .slice ao news.length c) (hn : IsInts w (.slice ao news.length c) news) (hc : ao = none → c = 0)
    (hb : n + news.length ≤ 1000000000) (hbase : base ≤ w.heap.size)
    (h : ∀ v' w', w'.ownsRow base 3 1 v' (n + news.length) ((l ++ news).map fun x => .int .i64 x) → w.grownBy w' v.ownBlock → wpList Tryd.prog ops Q rest (a.put o.dst v') w') : wpList Tryd.prog ops Q (o :: rest) a w := by
  obtain ⟨a', c', he, h1, h2, h3, h4⟩ := hn
  simp only [Value.slice.injEq, List.length_map, true_and] at he
  obtain ⟨rfl, -, rfl⟩ := he
  cases ao with
  | none =>
    have hc0 := hc rfl
    subst hc0
    have hl : news = [] := List.eq_nil_of_length_eq_zero (by simpa using h1)
    subst hl
    obtain ⟨i0, hi, hz0, hz1, hz2⟩ := info_parts info_int
    refine wpList_append_own_none hgd s x 23 ho base 3 i0 1 Tryd.underlying23 hi v n _ hs hown hx ?_
    exact h v w (by simpa using hown) ⟨rfl, rfl, rfl, Nat.le_refl _, fun k _ _ => rfl⟩
  | some ad =>
    refine app_any _ _ _ 1 8 Tryd.underlying23 info_int rfl (by omega) hgd s x ho base v n _ hs hown ad news.length c (news.map fun x => .int .i64 x) hx (by simp) (fun j u hu => ?_) (by intro u hu; obtain ⟨_, _, rfl⟩ := List.mem_map.1 hu; rfl) (by omega) (by omega) hbase
      (fun v' w' h1 h2 _ => h v' w' (by rw [List.map_append]; exact h1) h2)
    obtain ⟨b, o, hbo, hcell⟩ := h4 (by intro e; rw [e] at hu; simp at hu)
    cases hbo
    have hadd : (⟨b, o, none⟩ : Addr).add j = ⟨b, o + j, none⟩ := by unfold Addr.add; split <;> simp_all
    rw [hadd]
    exact hcell j u hu
end

theorem small_zero : zeroA.small := by
  refine ⟨⟨?_, ?_, ?_, ?_, ?_, ?_⟩, ?_, ?_, ?_, ?_, ?_⟩ <;> simp [zeroA, I64]
theorem parse_small {s : B8} (hs : s.length ≤ 3000000) : (parseL s).1.small := by
  have hk := kindUpto_le ((cut 32 s).getD 0 []) 8
  unfold parseL
  simp only
  split
  · exact small_zero
  · split
    · exact small_zero
    · split
      · exact readL_small (by unfold I64 kindOf; omega) hs
      · exact small_zero
theorem parse_says {s : B8} (h : (parseL s).2 = 0) : printL (parseL s).1 = s := parse_print (x := (parseL s).1) (by rw [← h])
theorem told_not {x : Ac} (hok : x.ok) (ht : tellsB x = true) : printL x ≠ [63] := fun h => by
  have h1 := print_parse hok ht
  rw [h] at h1
  have h2 : (parseL [63]).2 = 6 := by decide +kernel
  rw [h1] at h2
  exact absurd (show (0 : Int) = 6 from h2) (by decide)

theorem few_small {x : Ac} (hok : x.ok) (h : fewAc x = true) (hd : ∀ e ∈ x.events, e.data.length ≤ 1048576) : x.small ∧ x.fates.length ≤ 200 ∧ x.events.length ≤ 60 := by
  unfold fewAc fewEv at h
  simp only [Bool.and_eq_true, decide_eq_true_eq, List.all_eq_true] at h
  obtain ⟨h1, h2, h3, h4, h5, h6⟩ := h
  refine ⟨⟨hok, by omega, by omega, by omega, by omega, fun e he => ⟨?_, ?_⟩⟩, h3, h4⟩
  · have := h5 e he; omega
  · have := hd e he; omega

theorem few_len {x : Ac} (hok : x.ok) (h : fewAc x = true) (hd : ∀ e ∈ x.events, e.data.length ≤ 1048576) : (printL x).length ≤ 3000000 := by
  have hs := few_small hok h hd
  unfold fewAc fewEv at h
  simp only [Bool.and_eq_true, decide_eq_true_eq, List.all_eq_true] at h
  obtain ⟨h1, h2, h3, h4, h5, h6⟩ := h
  have g1 := fold_sum x.events 0 (by omega) h6
  have g2 := max_sum (M := 1048576) (by omega) (x.events.map fun e => e.data.length) (by
    intro d hm
    obtain ⟨e, he, rfl⟩ := List.mem_map.1 hm
    exact hd e he) (by rw [List.map_map]; simpa [Function.comp_def] using g1)
  have g3 : ∀ l : List Ev, (∀ e ∈ l, e.ok ∧ e.path.length ≤ 400) → (l.map fun e => (evS e).length).sum ≤ 600 * l.length + 2 * (l.map fun e => e.data.length).sum := by
    intro l
    induction l with
    | nil => intro _; simp
    | cons e l ih =>
      intro hl
      have := ih (fun e he => hl e (by simp [he]))
      obtain ⟨⟨o1, o2, o3, o4, o5⟩, hp⟩ := hl e (by simp)
      have k1 := itoa_len _ o1
      have k2 := itoa_len _ o2
      have k3 := itoa_len _ o3
      have k4 := itoa_len _ o4
      have k5 := itoa_len _ o5
      have k6 := orL_le e.path
      have k7 := orL_le (hexL e.data)
      have k8 := hexL_length e.data
      have k9 := join_len [58] (evL e)
      have k10 : (evS e).length ≤ 600 + 2 * e.data.length := by
        unfold evS
        simp [evL] at k9 ⊢
        omega
      simp only [List.map_cons, List.sum_cons, List.length_cons]
      omega
  have g4 := g3 x.events (fun e he => ⟨hok.2.2.2.2.2 e he, h5 e he⟩)
  have g5 := join_len [44] (x.events.map evS)
  rw [List.map_map] at g5
  have ge : (List.map (List.length ∘ evS) x.events) = x.events.map fun n => (evS n).length := rfl
  rw [ge] at g5
  simp only [List.length_map, List.length_cons, List.length_nil] at g5
  have f1 := join_len [44] (x.fates.map Lib.itoa)
  have f2 := sum_le_of (fun n => (Lib.itoa n).length) 21 x.fates (fun n hn => itoa_len n (hok.2.2.2.2.1 n hn))
  rw [List.map_map] at f1
  have fe : (List.map (List.length ∘ Lib.itoa) x.fates) = x.fates.map fun n => (Lib.itoa n).length := rfl
  rw [fe] at f1
  simp only [List.length_map, List.length_cons, List.length_nil] at f1
  unfold printL
  split
  · have j1 := join_len [32] (lineL x)
    have k1 := itoa_len _ hok.2.1
    have k2 := itoa_len _ hok.2.2.1
    have k3 := itoa_len _ hok.2.2.2.1
    have k4 := orL_le x.path
    have k5 := orL_le (hexL x.data)
    have k6 := hexL_length x.data
    have k7 := orL_le (Lib.join (x.fates.map Lib.itoa) [44])
    have k8 := orL_le (Lib.join (x.events.map evS) [44])
    have k11 : (wordsL.getD (x.kind - 1).toNat []).length ≤ 7 := by
      generalize (x.kind - 1).toNat = n
      rcases n with _ | _ | _ | _ | _ | _ | _ | _ | n <;> simp [wordsL]
    simp only [lineL, List.cons_append, List.nil_append, List.map_cons, List.map_nil, List.sum_cons, List.sum_nil, List.length_cons, List.length_nil] at j1 ⊢
    omega
  · simp

def backN (x : Ac) (k : Nat) : List Int := [x.a, x.b, x.n] ++ x.fates ++ (x.events.take k).flatMap evN
theorem backN_snoc {x : Ac} {k : Nat} {e : Ev} (h : x.events[k]? = some e) : backN x (k + 1) = backN x k ++ [e.t, e.kind, e.mode, e.keep, e.torn] := by
  unfold backN
  rw [List.take_add_one, h, Option.toList_some, List.flatMap_append, ← List.append_assoc]
  simp [evN]
theorem backN_len {x : Ac} {k : Nat} (h : k ≤ x.events.length) : (backN x k).length = 3 + x.fates.length + 5 * k := by
  have : ∀ l : List Ev, (l.flatMap evN).length = 5 * l.length := by
    intro l
    induction l with
    | nil => rfl
    | cons e l ih => simp [evN] at ih ⊢; omega
  unfold backN
  simp only [List.length_append, this, List.length_take, List.length_cons, List.length_nil]
  omega

end Go.Proofs.YthfkohppillflaaDoor
