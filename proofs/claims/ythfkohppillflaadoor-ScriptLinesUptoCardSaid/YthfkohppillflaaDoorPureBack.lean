/- Lines there and back, in plain Lean: what a read line prints, what a printed act reads as. Conditions: as each theorem states. -/
import Derived.Test.YthfkohppillflaaDoorParse
namespace Go.Proofs.YthfkohppillflaaDoor
open Go Go.RowKit

theorem parse_print {s : B8} {x : Ac} (h : parseL s = (x, 0)) : printL x = s := by
  unfold parseL at h
  simp only at h
  split at h
  · cases h
  · split at h
    · cases h
    · split at h
      · rename_i hp
        obtain ⟨rfl, -⟩ := Prod.mk.inj h
        exact hp
      · cases h

/- signs -/
theorem dec_chars : ∀ (u : Nat) (c : UInt8), c ∈ Lib.decDigits u → 48 ≤ c.toNat ∧ c.toNat ≤ 57 := by
  intro u
  induction u using Nat.strongRecOn with
  | ind u ih =>
    intro c hc
    rw [Lib.decDigits] at hc
    split at hc
    · simp only [List.mem_singleton] at hc
      subst hc
      simp only [UInt8.toNat_ofNat']
      omega
    · rcases List.mem_append.1 hc with h | h
      · exact ih (u / 10) (by omega) c h
      · simp only [List.mem_singleton] at h
        subst h
        simp only [UInt8.toNat_ofNat']
        omega
theorem dec_ne (u : Nat) : Lib.decDigits u ≠ [] := by
  rw [Lib.decDigits]
  split <;> simp
theorem itoa_chars {n : Int} {c : UInt8} (h : c ∈ Lib.itoa n) : c = 45 ∨ (48 ≤ c.toNat ∧ c.toNat ≤ 57) := by
  unfold Lib.itoa at h
  split at h
  · rcases List.mem_cons.1 h with h | h
    · exact .inl h
    · exact .inr (dec_chars _ _ h)
  · exact .inr (dec_chars _ _ h)
theorem itoa_no {n : Int} {c : UInt8} (h0 : c ≠ 45) (h1 : c.toNat < 48 ∨ 57 < c.toNat) : c ∉ Lib.itoa n := fun h => by
  rcases itoa_chars h with h | h
  · exact h0 h
  · omega
theorem itoa_ne (n : Int) : Lib.itoa n ≠ [] ∧ Lib.itoa n ≠ [45] := by
  unfold Lib.itoa
  split
  · refine ⟨by simp, fun h => ?_⟩
    exact dec_ne _ (List.cons.inj h).2
  · refine ⟨dec_ne _, fun h => ?_⟩
    have := dec_chars n.toNat 45 (by rw [h]; simp)
    simp at this
theorem parse_dec : ∀ (u : Nat) (r : B8), u < 9223372036854775809 → Lib.parseUint10 0 (Lib.decDigits u ++ r) = Lib.parseUint10 u r := by
  intro u
  induction u using Nat.strongRecOn with
  | ind u ih =>
    intro r hu
    rw [Lib.decDigits]
    split
    · rename_i h
      simp only [List.cons_append, List.nil_append, Lib.parseUint10, UInt8.toNat_ofNat']
      rw [if_pos (by omega), if_neg (by omega), if_neg (by omega)]
      congr 1
      omega
    · rename_i h
      rw [List.append_assoc, ih (u / 10) (by omega) _ (by omega)]
      simp only [List.cons_append, List.nil_append, Lib.parseUint10, UInt8.toNat_ofNat']
      rw [if_pos (by omega), if_neg (by omega), if_neg (by omega)]
      congr 1
      omega
theorem mag_dec {u : Nat} (hu : u < 9223372036854775809) : Lib.parseMag (Lib.decDigits u) = .ok u := by
  unfold Lib.parseMag
  rw [if_neg (dec_ne u)]
  have := parse_dec u [] hu
  rw [List.append_nil] at this
  rw [this]
  rfl
theorem numV_itoa {n : Int} (h : I64 n) : numV (Lib.itoa n) = n := by
  have key : Lib.atoiAll (Lib.itoa n) = .ok n := by
    obtain ⟨h0, h1⟩ := h
    unfold Lib.itoa
    split
    · rename_i hn
      unfold Lib.atoiAll
      simp only
      rw [if_pos (by simp), mag_dec (by omega)]
      have h45 : ((45 : UInt8).toNat = 45) = True := by simp
      simp only [h45, not_true_eq_false, false_and, if_false, true_and, if_true]
      rw [if_neg (by omega)]
      congr 1
      omega
    · rename_i hn
      obtain ⟨c, r, hcr⟩ : ∃ c r, Lib.decDigits n.toNat = c :: r := by
        cases hd : Lib.decDigits n.toNat with
        | nil => exact (dec_ne _ hd).elim
        | cons c r => exact ⟨c, r, rfl⟩
      have hm := @mag_dec n.toNat (by omega)
      have hc := dec_chars n.toNat c (by rw [hcr]; simp)
      rw [hcr] at hm ⊢
      unfold Lib.atoiAll
      simp only
      rw [if_neg (by omega), hm]
      have h45 : (c.toNat = 45) = False := by simp; omega
      simp only [h45, not_false_eq_true, true_and, false_and, if_false]
      rw [if_neg (by omega)]
      congr 1
      omega
  unfold numV
  rw [key]

theorem hexs_mem (k : Nat) (h : k < 16) : hexs.getD k 0 ∈ hexs := by
  rw [List.getD_eq_getElem?_getD, List.getElem?_eq_getElem (by simpa [hexs] using h)]
  exact List.getElem_mem _
theorem hex_chars {l : B8} {c : UInt8} (h : c ∈ hexL l) : c ∈ hexs := by
  unfold hexL at h
  obtain ⟨x, -, hx⟩ := List.mem_flatMap.1 h
  have := x.toNat_lt
  simp only [List.mem_cons, List.not_mem_nil, or_false] at hx
  rcases hx with rfl | rfl
  · exact hexs_mem _ (by omega)
  · exact hexs_mem _ (by omega)
theorem hex_no {l : B8} {c : UInt8} (h : hexs.elem c = false) : c ∉ hexL l := fun hc => by
  have := hex_chars hc
  rw [← List.elem_iff] at this
  rw [this] at h
  cases h
theorem dig_hex : ∀ k : Fin 16, dig (hexs.getD k.val 0) = k.val := by decide +kernel
theorem undig_hex : ∀ l : B8, undig (hexL l) = l
  | [] => rfl
  | x :: l => by
    have := undig_hex l
    have hx := x.toNat_lt
    have e : hexL (x :: l) = hexs.getD (x.toNat / 16) 0 :: hexs.getD (x.toNat % 16) 0 :: hexL l := rfl
    rw [e, undig, this, dig_hex ⟨x.toNat / 16, by omega⟩, dig_hex ⟨x.toNat % 16, by omega⟩]
    congr 1
    apply UInt8.toNat_inj.1
    simp only [UInt8.toNat_ofNat']
    omega
theorem und_or (l : B8) : undL (orL (hexL l)) = l := by
  cases l with
  | nil => rfl
  | cons x l =>
    have hl := hexL_length (x :: l)
    have h1 : hexL (x :: l) ≠ [] := fun h => by rw [h] at hl; simp at hl
    have h2 : hexL (x :: l) ≠ [45] := fun h => by rw [h] at hl; simp at hl; omega
    unfold orL
    rw [if_neg h1]
    unfold undL
    rw [if_neg h2, undig_hex]
theorem none_or {p : B8} (h : p ≠ [45]) : noneL (orL p) = p := by
  unfold orL noneL
  by_cases h0 : p = []
  · subst h0; rfl
  · rw [if_neg h0, if_neg h]
theorem or_chars {l : B8} {c : UInt8} (h : c ∈ orL l) : c = 45 ∨ c ∈ l := by
  unfold orL at h
  split at h
  · exact .inl (by simpa using h)
  · exact .inr h

/- pieces -/
theorem cut_one {c : UInt8} : ∀ {l : B8}, c ∉ l → cut c l = [l]
  | [], _ => rfl
  | x :: l, h => by
    have hx : (x == c) = false := by simp; exact fun e => h (by simp [e])
    have ih := cut_one (fun e => h (List.mem_cons_of_mem _ e) : c ∉ l)
    unfold cut
    rw [hx, ih]
    rfl
theorem cut_app {c : UInt8} : ∀ {l : B8} (r : B8), c ∉ l → cut c (l ++ c :: r) = l :: cut c r
  | [], r, _ => by
    show cut c (c :: r) = _
    rw [cut]; simp
  | x :: l, r, h => by
    have hx : (x == c) = false := by simp; exact fun e => h (by simp [e])
    have ih := cut_app r (fun e => h (List.mem_cons_of_mem _ e) : c ∉ l)
    show cut c (x :: (l ++ c :: r)) = _
    rw [cut, hx, ih]
    rfl
theorem join_two (x y : B8) (L : List B8) (c : UInt8) : Lib.join (x :: y :: L) [c] = x ++ c :: Lib.join (y :: L) [c] := by
  simp [Lib.join, List.intercalate, List.intersperse]
theorem cut_join {c : UInt8} : ∀ (L : List B8), L ≠ [] → (∀ l ∈ L, c ∉ l) → cut c (Lib.join L [c]) = L
  | [], h, _ => (h rfl).elim
  | [x], _, h => by
    have : Lib.join [x] [c] = x := by simp [Lib.join, List.intercalate, List.intersperse]
    rw [this, cut_one (h x (by simp))]
  | x :: y :: L, _, h => by
    rw [join_two, cut_app _ (h x (by simp)), cut_join (y :: L) (by simp) (fun l hl => h l (List.mem_cons_of_mem _ hl))]
theorem mem_join {s c : UInt8} : ∀ (L : List B8), c ∈ Lib.join L [s] → c = s ∨ ∃ l ∈ L, c ∈ l
  | [], h => by simp [Lib.join_nil] at h
  | [x], h => by
    have : Lib.join [x] [s] = x := by simp [Lib.join, List.intercalate, List.intersperse]
    rw [this] at h
    exact .inr ⟨x, by simp, h⟩
  | x :: y :: L, h => by
    rw [join_two] at h
    rcases List.mem_append.1 h with h | h
    · exact .inr ⟨x, by simp, h⟩
    · rcases List.mem_cons.1 h with h | h
      · exact .inl h
      · rcases mem_join (y :: L) h with h | ⟨l, hl, hc⟩
        · exact .inl h
        · exact .inr ⟨l, List.mem_cons_of_mem _ hl, hc⟩
theorem mem_cut {s c : UInt8} : ∀ (l : B8), c ∈ l → c = s ∨ ∃ x ∈ cut s l, c ∈ x
  | [], h => by simp at h
  | x :: l, h => by
    unfold cut
    by_cases hx : (x == s) = true
    · rw [if_pos hx]
      rcases List.mem_cons.1 h with h | h
      · exact .inl (h.trans (by simpa using hx))
      · rcases mem_cut l h with h | ⟨y, hy, hc⟩
        · exact .inl h
        · exact .inr ⟨y, List.mem_cons_of_mem _ hy, hc⟩
    · rw [if_neg hx]
      cases hq : cut s l with
      | nil => exact (cut_ne s l hq).elim
      | cons a t =>
        simp only
        rcases List.mem_cons.1 h with h | h
        · exact .inr ⟨x :: a, by simp, by simp [h]⟩
        · rcases mem_cut (s := s) l h with h | ⟨y, hy, hc⟩
          · exact .inl h
          · rw [hq] at hy
            rcases List.mem_cons.1 hy with rfl | hy
            · exact .inr ⟨x :: y, by simp, List.mem_cons_of_mem _ hc⟩
            · exact .inr ⟨y, List.mem_cons_of_mem _ hy, hc⟩

theorem plain_chars {p : B8} (h : plainB p = true) : p ≠ [45] ∧ 32 ∉ p := by
  unfold plainB at h
  by_cases h0 : p = []
  · subst h0; simp
  · have he : p.isEmpty = false := by simpa using h0
    simp only [he, Bool.false_or, Bool.and_eq_true, Bool.not_eq_true', beq_eq_false_iff_ne] at h
    refine ⟨h.2, fun hm => ?_⟩
    have h1 := h.1
    unfold pathB at h1
    simp only [Bool.and_eq_true, List.all_eq_true] at h1
    rcases mem_cut (s := 47) p hm with hc | ⟨y, hy, hc⟩
    · revert hc; decide
    · have := h1.2.1 y hy
      unfold nameB at this
      simp only [Bool.and_eq_true, Bool.not_eq_true'] at this
      have h2 := this.1
      have h3 : y.any badC = true := List.any_eq_true.2 ⟨32, hc, by decide⟩
      rw [h3] at h2
      cases h2
theorem contains_mem {c : UInt8} : ∀ {l : B8}, c ∈ l → 0 ≤ Lib.index l [c]
  | [], h => by simp at h
  | x :: l, h => by
    by_cases hx : x = c
    · subst hx
      rw [Lib.index]
      simp [List.isPrefixOf]
    · rw [index_one_ne x c l hx]
      have := contains_mem (l := l) (by rcases List.mem_cons.1 h with h | h; · exact (hx h.symm).elim
                                        · exact h)
      rw [if_neg (by simp; omega)]
      omega
theorem told_chars {e : Ev} (h : evTold e = true) : e.path ≠ [45] ∧ 32 ∉ e.path ∧ 58 ∉ e.path ∧ 44 ∉ e.path := by
  unfold evTold at h
  simp only [Bool.and_eq_true, Bool.not_eq_true'] at h
  refine ⟨(plain_chars h.1).1, (plain_chars h.1).2, fun hm => ?_, fun hm => ?_⟩
  · have := contains_mem hm
    have h2 := h.2.1
    unfold Lib.contains at h2
    simp at h2
    omega
  · have := contains_mem hm
    have h2 := h.2.2
    unfold Lib.contains at h2
    simp at h2
    omega

theorem ev_piece {e : Ev} {c : UInt8} (h45 : c ≠ 45) (hd : c.toNat < 48 ∨ 57 < c.toNat) (hp : c ∉ e.path) (hh : hexs.elem c = false) : ∀ l ∈ evL e, c ∉ l := by
  intro l hl hc
  unfold evL at hl
  simp only [List.mem_cons, List.not_mem_nil, or_false] at hl
  rcases hl with rfl | rfl | rfl | rfl | rfl | rfl | rfl
  · exact itoa_no h45 hd hc
  · exact itoa_no h45 hd hc
  · exact itoa_no h45 hd hc
  · exact itoa_no h45 hd hc
  · exact itoa_no h45 hd hc
  · rcases or_chars hc with h | h
    · exact h45 h
    · exact hp h
  · rcases or_chars hc with h | h
    · exact h45 h
    · exact hex_no hh h
theorem cut_ev {e : Ev} (h : evTold e = true) : cut 58 (evS e) = evL e :=
  cut_join _ (by simp [evL]) (ev_piece (by decide) (by decide) (told_chars h).2.2.1 (by decide))
theorem ev_no {e : Ev} {c : UInt8} (h58 : c ≠ 58) (h45 : c ≠ 45) (hd : c.toNat < 48 ∨ 57 < c.toNat) (hp : c ∉ e.path) (hh : hexs.elem c = false) : c ∉ evS e := fun hc => by
  rcases mem_join _ hc with h | ⟨l, hl, hm⟩
  · exact h58 h
  · exact ev_piece h45 hd hp hh l hl hm
theorem read_ev {e : Ev} (h : evTold e = true) (hok : e.ok) : readEvL (evS e) = e := by
  obtain ⟨h1, h2, h3, h4, h5⟩ := hok
  unfold readEvL
  rw [cut_ev h]
  simp only [evL, List.length_cons, List.length_nil, List.getD_cons_zero, List.getD_cons_succ]
  rw [numV_itoa h1, numV_itoa h2, numV_itoa h3, numV_itoa h4, numV_itoa h5, none_or (told_chars h).1, und_or]
  rfl
theorem list_back {L : List B8} (h : ∀ l ∈ L, 44 ∉ l) (h0 : ∀ l ∈ L, l ≠ [] ∧ l ≠ [45]) : listL (orL (Lib.join L [44])) = L := by
  cases L with
  | nil => rfl
  | cons x L =>
    have hc := cut_join (c := 44) (x :: L) (by simp) h
    have hx := h0 x (by simp)
    have h1 : Lib.join (x :: L) [44] ≠ [] := fun e => by
      rw [e] at hc
      exact hx.1 (List.cons.inj hc).1.symm
    have h2 : Lib.join (x :: L) [44] ≠ [45] := fun e => by
      rw [e] at hc
      exact hx.2 (List.cons.inj (show [[45]] = x :: L from hc)).1.symm
    unfold orL
    rw [if_neg h1]
    unfold listL
    rw [if_neg h2, hc]
theorem ev_ne {e : Ev} (h : evTold e = true) : evS e ≠ [] ∧ evS e ≠ [45] := by
  have := cut_ev h
  have hl : (evL e).length = 7 := rfl
  refine ⟨fun e2 => ?_, fun e2 => ?_⟩ <;> (rw [e2] at this; rw [← this] at hl; revert hl; decide)

theorem kind_word : ∀ k : Fin 8, kindOf (wordsL.getD k.val []) = k.val + 1 ∧ 32 ∉ wordsL.getD k.val [] := by decide +kernel

theorem map_back {α β : Type} (f : α → β) (g : β → α) : ∀ l : List α, (∀ x ∈ l, g (f x) = x) → (l.map f).map g = l
  | [], _ => rfl
  | x :: l, h => by simp [h x (by simp), map_back f g l (fun y hy => h y (by simp [hy]))]

theorem print_both {x : Ac} (hok : x.ok) (ht : tellsB x = true) : cut 32 (printL x) = lineL x ∧ parseL (printL x) = (x, 0) := by
  have ht' := ht
  unfold tellsB at ht
  simp only [Bool.and_eq_true, List.all_eq_true, decide_eq_true_eq] at ht
  obtain ⟨hev, hk1, hk8, hp⟩ := ht
  have hpr : printL x = Lib.join (lineL x) [32] := by
    unfold printL lineL
    rw [if_pos ht']
    rfl
  obtain ⟨kd, a, b, n, p, d, fs, es⟩ := x
  obtain ⟨o1, o2, o3, o4, o5, o6⟩ := hok
  simp only at hk1 hk8 hp hev o1 o2 o3 o4 o5 o6
  obtain ⟨k, rfl⟩ : ∃ k : Nat, kd = k := ⟨kd.toNat, by omega⟩
  have hkw := kind_word ⟨k - 1, by omega⟩
  have hk : ((k : Int) - 1).toNat = k - 1 := by omega
  have hfa : ∀ l ∈ fs.map Lib.itoa, 44 ∉ l ∧ 32 ∉ l ∧ l ≠ [] ∧ l ≠ [45] := by
    intro l hl
    obtain ⟨f, -, rfl⟩ := List.mem_map.1 hl
    exact ⟨itoa_no (by decide) (by decide), itoa_no (by decide) (by decide), (itoa_ne f).1, (itoa_ne f).2⟩
  have hes : ∀ l ∈ es.map evS, 44 ∉ l ∧ 32 ∉ l ∧ l ≠ [] ∧ l ≠ [45] := by
    intro l hl
    obtain ⟨e, he, rfl⟩ := List.mem_map.1 hl
    have := told_chars (hev e he)
    exact ⟨ev_no (by decide) (by decide) (by decide) this.2.2.2 (by decide), ev_no (by decide) (by decide) (by decide) this.2.1 (by decide), (ev_ne (hev e he)).1, (ev_ne (hev e he)).2⟩
  have hno : ∀ l ∈ lineL ⟨(k : Int), a, b, n, p, d, fs, es⟩, 32 ∉ l := by
    intro l hl hc
    unfold lineL at hl
    simp only [List.cons_append, List.nil_append, List.mem_cons, List.not_mem_nil, or_false, hk] at hl
    rcases hl with rfl | rfl | rfl | rfl | rfl | rfl | rfl | rfl
    · exact hkw.2 hc
    · exact itoa_no (by decide) (by decide) hc
    · exact itoa_no (by decide) (by decide) hc
    · exact itoa_no (by decide) (by decide) hc
    · rcases or_chars hc with h | h
      · revert h; decide
      · exact (plain_chars hp).2 h
    · rcases or_chars hc with h | h
      · revert h; decide
      · exact hex_no (by decide) h
    · rcases or_chars hc with h | h
      · revert h; decide
      · rcases mem_join _ h with h | ⟨y, hy, hm⟩
        · revert h; decide
        · exact (hfa y hy).2.1 hm
    · rcases or_chars hc with h | h
      · revert h; decide
      · rcases mem_join _ h with h | ⟨y, hy, hm⟩
        · revert h; decide
        · exact (hes y hy).2.1 hm
  have hcut : cut 32 (printL ⟨(k : Int), a, b, n, p, d, fs, es⟩) = lineL ⟨(k : Int), a, b, n, p, d, fs, es⟩ := by
    rw [hpr]
    exact cut_join _ (by simp [lineL]) hno
  have hread : readL (k : Int) (lineL ⟨(k : Int), a, b, n, p, d, fs, es⟩) = ⟨(k : Int), a, b, n, p, d, fs, es⟩ := by
    unfold readL lineL
    simp only [List.cons_append, List.nil_append, List.getD_cons_zero, List.getD_cons_succ]
    rw [numV_itoa o2, numV_itoa o3, numV_itoa o4, none_or (plain_chars hp).1, und_or, list_back (fun l hl => (hfa l hl).1) (fun l hl => (hfa l hl).2.2), list_back (fun l hl => (hes l hl).1) (fun l hl => (hes l hl).2.2),
      map_back _ _ fs (fun f hf => numV_itoa (o5 f hf)), map_back _ _ es (fun e he => read_ev (hev e he) (o6 e he))]
  have hkind : kindOf ((lineL ⟨(k : Int), a, b, n, p, d, fs, es⟩).getD 0 []) = k := by
    have e : (lineL ⟨(k : Int), a, b, n, p, d, fs, es⟩).getD 0 [] = wordsL.getD (k - 1) [] := by
      show wordsL.getD ((k : Int) - 1).toNat [] = _
      rw [hk]
    rw [e, hkw.1]
    simp only
    omega
  refine ⟨hcut, ?_⟩
  unfold parseL
  simp only [hcut, hkind]
  rw [if_neg (by omega), if_neg (by simp [lineL]), if_pos (by rw [hread]), hread]

theorem print_parse {x : Ac} (hok : x.ok) (ht : tellsB x = true) : parseL (printL x) = (x, 0) := (print_both hok ht).2
theorem cut_print {x : Ac} (hok : x.ok) (ht : tellsB x = true) : cut 32 (printL x) = lineL x := (print_both hok ht).1

end Go.Proofs.YthfkohppillflaaDoor
