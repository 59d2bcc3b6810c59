/- fsim.copiedEvents, Plan, User: events copied, with their data. Conditions: at most 100000 events. -/
import Derived.Test.YtfimfbdlegookaaGreatDoorZac
import Derived.Sort.OwnSorted
import Derived.Sort.KeysCollected
import Derived.Shelf.SlicesE.DeleteFunc
import Derived.Lib.SliceRun

set_option linter.unusedVariables false
set_option linter.unusedSimpArgs false

/-! What holds of a file system at all times, kept by all that is done: in plain Lean. Conditions: as each theorem states. -/
namespace Go.Proofs.YtfimfbdlegookaaGreatDoor
open Go Go.RowKit

/-! ### Paths above a path -/
theorem cut_append (c : UInt8) : ∀ (l r : B8), cut c (l ++ c :: r) = cut c l ++ cut c r
  | [], r => by simp [cut]
  | x :: l, r => by
    have ih := cut_append c l r
    show cut c (x :: (l ++ c :: r)) = cut c (x :: l) ++ cut c r
    by_cases hx : (x == c) = true
    · rw [cut, cut, if_pos hx, if_pos hx, ih]
      rfl
    · rw [cut, cut, if_neg hx, if_neg hx, ih]
      cases hq : cut c l with
      | nil => exact (cut_ne c l hq).elim
      | cons a t => rfl
theorem join_one (x : B8) (c : UInt8) : Lib.join [x] [c] = x := by simp [Lib.join, List.intercalate, List.intersperse]
theorem join_two (x y : B8) (L : List B8) (c : UInt8) : Lib.join (x :: y :: L) [c] = x ++ c :: Lib.join (y :: L) [c] := by
  simp [Lib.join, List.intercalate, List.intersperse]
theorem join_cut (c : UInt8) : ∀ l : B8, Lib.join (cut c l) [c] = l
  | [] => by simp [cut, join_one]
  | x :: l => by
    have ih := join_cut c l
    rw [cut]
    by_cases hx : (x == c) = true
    · rw [if_pos hx]
      have e : x = c := by simpa using hx
      subst e
      cases hq : cut x l with
      | nil => exact (cut_ne x l hq).elim
      | cons a t => rw [hq] at ih; rw [join_two, ih]; rfl
    · rw [if_neg hx]
      cases hq : cut c l with
      | nil => exact (cut_ne c l hq).elim
      | cons a t =>
        rw [hq] at ih
        cases t with
        | nil => rw [join_one] at ih ⊢; rw [ih]
        | cons b t => rw [join_two] at ih ⊢; simp [ih]
theorem join_append (c : UInt8) : ∀ (A B : List B8), A ≠ [] → B ≠ [] → Lib.join (A ++ B) [c] = Lib.join A [c] ++ c :: Lib.join B [c]
  | [], _, h, _ => (h rfl).elim
  | [x], [], _, h => (h rfl).elim
  | [x], y :: B, _, _ => by rw [join_one]; exact join_two x y B c
  | x :: y :: A, B, _, hB => by
    have ih := join_append c (y :: A) B (by simp) hB
    show Lib.join (x :: y :: (A ++ B)) [c] = _
    rw [join_two, join_two, show y :: (A ++ B) = (y :: A) ++ B from rfl, ih]
    simp
theorem under_iff (d s : B8) : isUnder d s = true ↔ ∃ r, s = d ++ 47 :: r := by
  unfold isUnder
  rw [List.isPrefixOf_iff_prefix]
  constructor
  · rintro ⟨r, hr⟩; exact ⟨r, by rw [← hr]; simp⟩
  · rintro ⟨r, hr⟩; exact ⟨r, by rw [hr]; simp⟩
theorem mem_parents {path p : B8} (hp : pathB path = true) : p ∈ parentsL path ↔ isUnder p path = true := by
  unfold parentsL parentsN splitL
  rw [if_pos hp, under_iff]
  constructor
  · intro h
    obtain ⟨i, hi, rfl⟩ := List.mem_map.1 h
    have hi' := List.mem_range.1 hi
    refine ⟨Lib.join ((cut 47 path).drop (i + 1)) [47], ?_⟩
    rw [← join_append 47 _ _ (by intro h0; have := congrArg List.length h0; simp at this; rw [this] at hi'; simp at hi') (by intro h0; have := congrArg List.length h0; simp at this; omega), List.take_append_drop, join_cut]
  · rintro ⟨r, rfl⟩
    refine List.mem_map.2 ⟨(cut 47 p).length - 1, List.mem_range.2 ?_, ?_⟩
    · have h1 : 0 < (cut 47 p).length := List.length_pos_iff.2 (cut_ne 47 p)
      have h2 : 0 < (cut 47 r).length := List.length_pos_iff.2 (cut_ne 47 r)
      rw [cut_append, List.length_append]
      omega
    · have h1 : 0 < (cut 47 p).length := List.length_pos_iff.2 (cut_ne 47 p)
      rw [cut_append, show (cut 47 p).length - 1 + 1 = (cut 47 p).length by omega, List.take_left, join_cut]
theorem look_some {l : Files} {p : B8} : (look l p).isSome = true ↔ ∃ e ∈ l, e.1 = p := by
  unfold look
  rw [Option.isSome_map, List.find?_isSome]
  simp
theorem may_eq {l : Files} {path : B8} (but : B8) (hp : pathB path = true) : mayP l path but = mayF l path but := by
  unfold mayP mayF dirB
  rw [← Bool.not_or]
  congr 1
  rw [Bool.eq_iff_iff]
  simp only [Bool.or_eq_true, List.any_eq_true, Bool.and_eq_true, Bool.not_eq_true', beq_eq_false_iff_ne]
  constructor
  · rintro (⟨p, h1, h2, h3⟩ | ⟨e, h1, h2, h3⟩)
    · obtain ⟨e, he, rfl⟩ := look_some.1 h2
      exact ⟨e, he, h3, .inl ((mem_parents hp).1 h1)⟩
    · exact ⟨e, h1, h2, .inr h3⟩
  · rintro ⟨e, h1, h2, h3 | h3⟩
    · exact .inl ⟨e.1, (mem_parents hp).2 h3, look_some.2 ⟨e, h1, rfl⟩, h2⟩
    · exact .inr ⟨e, h1, h2, h3⟩

/-! ### What holds at all times -/
theorem files_ap {l : Files} {c : Ch} (h : ∀ e ∈ l, pathB e.1 = true ∧ e.2.data.length ≤ 20000) (hc : ChOk c) : ∀ e ∈ ap l c, pathB e.1 = true ∧ e.2.data.length ≤ 20000 := by
  intro e he
  cases c with
  | put p f =>
    rcases mem_putF he with rfl | ⟨h1, _⟩
    · exact hc
    · exact h e h1
  | mv s d =>
    unfold ap at he
    simp only at he
    split at he
    · rename_i x hx
      rcases mem_putF he with rfl | ⟨h1, _⟩
      · exact ⟨hc.2.1, (h _ (look_mem hx)).2⟩
      · exact h e (List.mem_filter.1 h1).1
    · exact h e he
  | del p => exact h e (List.mem_filter.1 he).1
theorem files_fold {cs : List Ch} : ∀ {l : Files}, (∀ e ∈ l, pathB e.1 = true ∧ e.2.data.length ≤ 20000) → (∀ c ∈ cs, ChOk c) → ∀ e ∈ cs.foldl ap l, pathB e.1 = true ∧ e.2.data.length ≤ 20000 := by
  induction cs with
  | nil => exact fun h _ => h
  | cons c cs ih => exact fun h hc => ih (files_ap h (hc c (by simp))) (fun d hd => hc d (by simp [hd]))
theorem ok_at {c : Ch} (t : Nat) (h : ChOk c) : ChOk (c.at t) := by
  cases c with
  | put p f => exact h
  | mv s d => exact h
  | del p => exact h
theorem ok_does {m : Fs} {c : Ch} (h : OkM m) (hc : ChOk c) (hmv : ∀ s d, c = .mv s d → (look m.now s).isSome = true) : OkM (does m c) := by
  have hl := ap_length m.now (c.at (m.time + 1))
  have h1 := h.lnow
  have h2 := h.lsure
  have h3 := h.lpend
  have h4 := h.lusers
  have h5 := h.lsp
  refine ⟨by simp only [does]; omega, by simp only [does]; omega, by simp only [does, List.length_append, List.length_cons, List.length_nil]; omega, by simp only [does, List.length_append, List.length_cons, List.length_nil]; omega, by simp only [does]; omega, files_ap h.dnow (ok_at _ hc), h.dsure, ?_, ?_, ?_⟩
  · intro d hd
    rcases List.mem_append.1 hd with hd | hd
    · exact h.dpend d hd
    · rw [List.mem_singleton.1 hd]; exact ok_at _ hc
  · show (m.pend ++ [c.at (m.time + 1)]).foldl ap m.sure = ap m.now (c.at (m.time + 1))
    rw [List.foldl_append, h.fold]
    rfl
  · intro k s d hk
    show (look (((m.pend ++ [c.at (m.time + 1)]).take k).foldl ap m.sure) s).isSome = true
    have hk' : (m.pend ++ [c.at (m.time + 1)])[k]? = some (.mv s d) := hk
    rw [List.getElem?_append] at hk'
    split at hk'
    · rename_i hlt
      rw [List.take_append_of_le_length (by omega)]
      exact h.mvs k s d hk'
    · rename_i hge
      have h9 := (List.getElem?_eq_some_iff.1 hk').1
      have hz : k - m.pend.length = 0 := by simp at h9; omega
      rw [hz] at hk'
      have e : c.at (m.time + 1) = .mv s d := by simpa using hk'
      have hke : k = m.pend.length := by omega
      subst hke
      rw [List.take_left, h.fold]
      cases c with
      | put p f => cases e
      | mv s' d' => exact hmv s d e
      | del p => cases e
theorem ok_puts {m : Fs} {path : B8} {mode : Int} {data : B8} {fits : Bool} (h : OkM m) (hp : pathB path = true) (hd : data.length ≤ 20000) : OkM (putsM m path mode data fits).1 := by
  unfold putsM
  split
  · exact h
  · split
    · exact h
    · exact ok_does h ⟨hp, hd⟩ (fun s d e => by cases e)
theorem ok_removes {m : Fs} {path : B8} (h : OkM m) : OkM (removesM m path).1 := by
  unfold removesM
  split
  · exact h
  · split
    · exact h
    · rename_i h1 _
      exact ok_does h (show pathB path = true by simpa using h1) (fun s d e => by cases e)
theorem ok_settle {m : Fs} (h : OkM m) : OkM (settle m) :=
  ⟨h.lnow, h.lnow, Nat.zero_le _, h.lnow, h.lusers, h.dnow, h.dnow, fun c hc => (by cases hc), rfl, fun k s d hk => by simp [settle] at hk⟩
theorem OkM.same {m m' : Fs} (h : OkM m) (h1 : m'.now = m.now) (h2 : m'.sure = m.sure) (h3 : m'.pend = m.pend) (h4 : m'.users.length ≤ m'.time) (h5 : m.time ≤ m'.time) : OkM m' := by
  refine ⟨by rw [h1]; exact Nat.le_trans h.lnow h5, by rw [h2]; exact Nat.le_trans h.lsure h5, by rw [h3]; exact Nat.le_trans h.lpend h5, by rw [h2, h3]; exact Nat.le_trans h.lsp h5, h4, by rw [h1]; exact h.dnow, by rw [h2]; exact h.dsure, by rw [h3]; exact h.dpend, by rw [h1, h2, h3]; exact h.fold, by rw [h2, h3]; exact h.mvs⟩
theorem wrong_zero {path : B8} {mode : Int} {data : B8} (h : wrongE path mode data = 0) : pathB path = true ∧ 1 ≤ mode ∧ mode ≤ 3 ∧ data.length ≤ 20000 := by
  unfold wrongE at h
  split at h
  · cases h
  · split at h
    · cases h
    · split at h
      · cases h
      · rename_i h1 h2 h3
        refine ⟨by simpa using h1, by omega, by omega, by omega⟩
theorem puts_zero {m : Fs} {path : B8} {mode : Int} {data : B8} {fits : Bool} (h : (putsM m path mode data fits).2 = 0) : putsM m path mode data fits = (does m (.put path ⟨mode, data, 0⟩), 0) := by
  unfold putsM at h ⊢
  by_cases h1 : (look m.now path).isNone = true ∧ mayF m.now path [] = false
  · rw [if_pos h1] at h; cases h
  · rw [if_neg h1] at h ⊢
    by_cases h2 : fits = false
    · rw [if_pos h2] at h; cases h
    · rw [if_neg h2]
theorem removes_zero {m : Fs} {path : B8} (h : (removesM m path).2 = 0) : removesM m path = (does m (.del path), 0) := by
  unfold removesM at h ⊢
  by_cases h1 : pathB path = false
  · rw [if_pos h1] at h; cases h
  · rw [if_neg h1] at h ⊢
    by_cases h2 : (look m.now path).isNone = true
    · rw [if_pos h2] at h; cases h
    · rw [if_neg h2]
theorem puts_time {m : Fs} {path : B8} {mode : Int} {data : B8} {fits : Bool} : m.time ≤ (putsM m path mode data fits).1.time ∧ (putsM m path mode data fits).1.time ≤ m.time + 1 := by
  unfold putsM
  split
  · exact ⟨Nat.le_refl _, Nat.le_succ _⟩
  · split
    · exact ⟨Nat.le_refl _, Nat.le_succ _⟩
    · exact ⟨Nat.le_succ _, Nat.le_refl _⟩
theorem removes_time {m : Fs} {path : B8} : m.time ≤ (removesM m path).1.time ∧ (removesM m path).1.time ≤ m.time + 1 := by
  unfold removesM
  split
  · exact ⟨Nat.le_refl _, Nat.le_succ _⟩
  · split
    · exact ⟨Nat.le_refl _, Nat.le_succ _⟩
    · exact ⟨Nat.le_succ _, Nat.le_refl _⟩
theorem ok_userWrite {m : Fs} {path : B8} {mode : Int} {data : B8} (h : OkM m) : OkM (userWrite m path mode data).1 := by
  unfold userWrite
  split
  · exact h
  · split
    · exact h
    · rename_i hw
      have hw0 := wrong_zero (by simpa using hw)
      split
      · exact ok_puts h hw0.1 hw0.2.2.2
      · rename_i hp
        have hp0 := puts_zero (by simpa using hp)
        have ho := ok_settle (ok_puts (mode := mode) (fits := true) h hw0.1 hw0.2.2.2)
        refine ho.same rfl rfl rfl ?_ (Nat.le_refl _)
        have := h.lusers
        rw [hp0]
        simp only [settle, does, List.length_append, List.length_cons, List.length_nil]
        omega
theorem ok_userRemove {m : Fs} {path : B8} (h : OkM m) : OkM (userRemove m path).1 := by
  unfold userRemove
  split
  · exact h
  · split
    · exact ok_removes h
    · rename_i hp
      have hp0 := removes_zero (by simpa using hp)
      have ho := ok_settle (ok_removes (path := path) h)
      refine ho.same rfl rfl rfl ?_ (Nat.le_refl _)
      have := h.lusers
      rw [hp0]
      simp only [settle, does, List.length_append, List.length_cons, List.length_nil]
      omega
theorem userWrite_time {m : Fs} {path : B8} {mode : Int} {data : B8} : m.time ≤ (userWrite m path mode data).1.time ∧ (userWrite m path mode data).1.time ≤ m.time + 1 := by
  unfold userWrite
  split
  · exact ⟨Nat.le_refl _, Nat.le_succ _⟩
  · split
    · exact ⟨Nat.le_refl _, Nat.le_succ _⟩
    · split
      · exact puts_time
      · exact puts_time (m := m) (path := path) (mode := mode) (data := data) (fits := true)
theorem userRemove_time {m : Fs} {path : B8} : m.time ≤ (userRemove m path).1.time ∧ (userRemove m path).1.time ≤ m.time + 1 := by
  unfold userRemove
  split
  · exact ⟨Nat.le_refl _, Nat.le_succ _⟩
  · split
    · exact removes_time
    · exact removes_time (m := m) (path := path)
theorem torn_length (l : Files) (t : Int) (c : Option Ch) : (torn1 l t c).length ≤ l.length + 1 ∧ (c = none → torn1 l t c = l) := by
  unfold torn1
  refine ⟨?_, fun h => by subst h; rfl⟩
  split
  · split
    · exact ap_length _ _
    · omega
  · omega
theorem fallen_length {m : Fs} (keep torn : Int) (h : OkM m) : (fallen m keep torn).length ≤ m.time := by
  unfold fallen
  have h1 := torn_length ((m.pend.take (keepN m keep)).foldl ap m.sure) torn m.pend[keepN m keep]?
  have h2 := fold_length m.sure (m.pend.take (keepN m keep))
  have h3 := h.lsp
  have h4 : (m.pend.take (keepN m keep)).length ≤ keepN m keep := List.length_take_le _ _
  by_cases hk : keepN m keep < m.pend.length
  · omega
  · have h5 := h1.2 (List.getElem?_eq_none (by omega))
    rw [h5]
    have : keepN m keep ≤ m.pend.length := by unfold keepN; omega
    omega
theorem fallen_files {m : Fs} (keep torn : Int) (h : OkM m) : ∀ e ∈ fallen m keep torn, pathB e.1 = true ∧ e.2.data.length ≤ 20000 := by
  have hf := files_fold (cs := m.pend.take (keepN m keep)) h.dsure (fun c hc => h.dpend c (List.mem_of_mem_take hc))
  unfold fallen torn1
  split
  · rename_i p f hk
    split
    · refine files_ap hf ?_
      have := h.dpend _ (List.mem_of_getElem? hk)
      refine ⟨this.1, ?_⟩
      simp only [List.length_take]
      have := this.2
      omega
    · exact hf
  · exact hf
theorem ok_crash {m : Fs} (keep torn : Int) (h : OkM m) : OkM (crash m keep torn) := by
  unfold crash
  split
  · exact h
  · have hl := fallen_length keep torn h
    have hf := fallen_files keep torn h
    exact ⟨hl, hl, Nat.zero_le _, hl, h.lusers, hf, hf, fun c hc => (by cases hc), rfl, fun k s d hk => by simp at hk⟩
theorem crash_time (m : Fs) (keep torn : Int) : (crash m keep torn).time = m.time := by
  unfold crash
  split <;> rfl

/-- An event that happens: to the files. -/
def hapM (m : Fs) (e : Ev) : Fs :=
  if e.kind = 1 then crash m e.keep e.torn else if e.kind = 4 then (userWrite m e.path e.mode e.data).1 else if e.kind = 5 then (userRemove m e.path).1 else m
def hapE (e : Ev) : Int := if e.kind = 2 then 10 else if e.kind = 3 then 11 else 0
theorem ok_hap {m : Fs} (h : OkM m) (e : Ev) : OkM (hapM m e) := by
  unfold hapM
  split
  · exact ok_crash _ _ h
  · split
    · exact ok_userWrite h
    · split
      · exact ok_userRemove h
      · exact h
theorem hap_time (m : Fs) (e : Ev) : m.time ≤ (hapM m e).time ∧ (hapM m e).time ≤ m.time + 1 := by
  unfold hapM
  split
  · rw [crash_time]; exact ⟨Nat.le_refl _, Nat.le_succ _⟩
  · split
    · exact userWrite_time
    · split
      · exact userRemove_time
      · exact ⟨Nat.le_refl _, Nat.le_succ _⟩
theorem happen_eq (n : Nat) (x : Fs × Bool × Bool) (e : Ev) : happen n x e = if e.t ≠ n then x else (hapM x.1 e, x.2.1 || hapE e == 10, x.2.2 || hapE e == 11) := by
  obtain ⟨m, f, b⟩ := x
  unfold happen hapM hapE
  simp only
  by_cases h0 : e.t ≠ n
  · rw [if_pos h0, if_pos h0]
  · rw [if_neg h0, if_neg h0]
    by_cases h1 : e.kind = 1
    · simp [h1]
    · by_cases h2 : e.kind = 2
      · simp [h2]
      · by_cases h3 : e.kind = 3
        · simp [h3]
        · by_cases h4 : e.kind = 4
          · simp [h4]
          · by_cases h5 : e.kind = 5
            · simp [h5]
            · simp [h1, h2, h3, h4, h5]

end Go.Proofs.YtfimfbdlegookaaGreatDoor

/-! fsim.FS: happens: an event. Conditions: at most 900000 ticks; a short path. -/
namespace Go.Proofs.YtfimfbdlegookaaGreatDoor
open Go Go.RowKit

set_option maxRecDepth 100000 in
set_option maxHeartbeats 2000000 in
theorem happens_any {S O R : Nat → Prop} {w : World} {p : Value} {m : Fs} (e : Ev) (cs : List Value) (hE : Env w) (h : IsFs S O R w p m) (hok : OkM m) (ht : m.time ≤ 900000) (he : IsEvR R w cs e) (hk64 : I64 e.keep) (ht64 : I64 e.torn) (hpl : e.path.length ≤ 400) :
    Calls Tryz.prog 185 #[p, .agg cs.toArray] w fun x w' => x = .returned (.int .i64 (hapE e)) ∧ FsPost S O R w p (hapM m e) w' := by
  obtain ⟨vd, rfl, hd, -⟩ := he
  obtain ⟨t, kind, mode, keep, torn, path, data⟩ := e
  obtain ⟨d1, d2, rfl, -⟩ := id hd.bytes
  simp only at hd hk64 ht64 hpl ⊢
  have hdl := hd.bytes.len
  have hx : Ext w (w.alloc (.cells #[.int .i64 t, .int .i64 kind, .int .i64 mode, .int .i64 keep, .int .i64 torn, S8 path, .slice d1 data.length d2] 53)) := (Ext.refl _).alloc _
  have HF : Hid _ := h.ext hx
  have HD : Hid _ := hd.ext hx
  have HE : Hid _ := hE.ext hx
  have HX : Hid _ := hx
  have HOK : Hid _ := hok
  have HM : Hid (hapM m ⟨t, kind, mode, keep, torn, path, data⟩ = if kind = 1 then crash m keep torn else if kind = 4 then (userWrite m path mode data).1 else if kind = 5 then (userRemove m path).1 else m) := rfl
  have HH : Hid (hapE ⟨t, kind, mode, keep, torn, path, data⟩ = if kind = 2 then 10 else if kind = 3 then 11 else 0) := rfl
  obtain ⟨M, hM⟩ : ∃ M, hapM m ⟨t, kind, mode, keep, torn, path, data⟩ = M := ⟨_, rfl⟩
  obtain ⟨C, hC⟩ : ∃ C, hapE ⟨t, kind, mode, keep, torn, path, data⟩ = C := ⟨_, rfl⟩
  rw [hM] at HM ⊢
  rw [hC] at HH ⊢
  clear hM hC h hd hE hx hok
  by_cases k1 : kind = 1
  · subst k1
    obtain rfl : crash m keep torn = M := HM.out.symm
    obtain rfl : (0 : Int) = C := HH.out.symm
    clear HM HH
    go_enter Tryz.func185, Tryz.ntmps185
    go_wp2_with (go_at_call 28; go_must (refine (crash_any keep torn HF.out HOK.out ht hk64 ht64).mono ?_; rintro e w2 ⟨rfl, h2⟩))
    go_ret
    exact ⟨rfl, FsPost.pre HX.out h2⟩
  · have b1 : (kind == 1) = false := by simpa using k1
    by_cases k2 : kind = 2
    · subst k2
      obtain rfl : m = M := HM.out.symm
      obtain rfl : (10 : Int) = C := HH.out.symm
      clear HM HH k1 b1
      go_enter Tryz.func185, Tryz.ntmps185
      go_wp2
      go_ret
      exact ⟨rfl, FsPost.pre HX.out (FsPost.same HF.out (Ext.refl _))⟩
    · have b2 : (kind == 2) = false := by simpa using k2
      by_cases k3 : kind = 3
      · subst k3
        obtain rfl : m = M := HM.out.symm
        obtain rfl : (11 : Int) = C := HH.out.symm
        clear HM HH k1 b1 k2 b2
        go_enter Tryz.func185, Tryz.ntmps185
        go_wp2
        go_ret
        exact ⟨rfl, FsPost.pre HX.out (FsPost.same HF.out (Ext.refl _))⟩
      · have b3 : (kind == 3) = false := by simpa using k3
        by_cases k4 : kind = 4
        · subst k4
          obtain rfl : (userWrite m path mode data).1 = M := HM.out.symm
          obtain rfl : (0 : Int) = C := HH.out.symm
          clear HM HH k1 b1 k2 b2 k3 b3
          go_enter Tryz.func185, Tryz.ntmps185
          go_wp2_with (go_at_call 13; go_must (refine (userWrite_any path mode (.slice d1 data.length d2) data HE.out HF.out HOK.out ht hpl HD.out.bytes hdl (fun hp => may_eq _ hp) HD.out.out).mono ?_; rintro e w2 ⟨rfl, h2⟩))
          go_ret
          exact ⟨rfl, FsPost.pre HX.out h2⟩
        · have b4 : (kind == 4) = false := by simpa using k4
          by_cases k5 : kind = 5
          · subst k5
            obtain rfl : (userRemove m path).1 = M := HM.out.symm
            obtain rfl : (0 : Int) = C := HH.out.symm
            clear HM HH k1 b1 k2 b2 k3 b3 k4 b4
            go_enter Tryz.func185, Tryz.ntmps185
            go_wp2_with (go_at_call 94; go_must (refine (userRemove_any path HE.out HF.out HOK.out ht hpl).mono ?_; rintro e w2 ⟨rfl, h2⟩))
            go_ret
            exact ⟨rfl, FsPost.pre HX.out h2⟩
          · have b5 : (kind == 5) = false := by simpa using k5
            obtain rfl : m = M := (HM.out.trans (by rw [if_neg k1, if_neg k4, if_neg k5])).symm
            obtain rfl : (0 : Int) = C := (HH.out.trans (by rw [if_neg k2, if_neg k3])).symm
            clear HM HH
            go_enter Tryz.func185, Tryz.ntmps185
            go_wp2
            go_ret
            exact ⟨rfl, FsPost.pre HX.out (FsPost.same HF.out (Ext.refl _))⟩

end Go.Proofs.YtfimfbdlegookaaGreatDoor

/-! fsim.FS: call: a call is counted, and its events happen. Conditions: at most 800000 ticks, 1000 events; no block of the plan is written. -/
namespace Go.Proofs.YtfimfbdlegookaaGreatDoor
open Go Go.RowKit

structure PlanOk (m : Fs) : Prop where
  len : m.plan.length ≤ 1000
  ev : ∀ e ∈ m.plan, I64 e.keep ∧ I64 e.torn ∧ e.path.length ≤ 400
theorem hap_plan (m : Fs) (e : Ev) : (hapM m e).plan = m.plan ∧ (hapM m e).calls = m.calls ∧ (hapM m e).room = m.room := by
  unfold hapM
  split
  · unfold crash; split <;> exact ⟨rfl, rfl, rfl⟩
  · split
    · unfold userWrite
      split
      · exact ⟨rfl, rfl, rfl⟩
      · split
        · exact ⟨rfl, rfl, rfl⟩
        · split
          · unfold putsM; split
            · exact ⟨rfl, rfl, rfl⟩
            · split <;> exact ⟨rfl, rfl, rfl⟩
          · simp only [settle]; unfold putsM; split
            · exact ⟨rfl, rfl, rfl⟩
            · split <;> exact ⟨rfl, rfl, rfl⟩
    · split
      · unfold userRemove
        split
        · exact ⟨rfl, rfl, rfl⟩
        · split
          · unfold removesM; split
            · exact ⟨rfl, rfl, rfl⟩
            · split <;> exact ⟨rfl, rfl, rfl⟩
          · simp only [settle]; unfold removesM; split
            · exact ⟨rfl, rfl, rfl⟩
            · split <;> exact ⟨rfl, rfl, rfl⟩
      · exact ⟨rfl, rfl, rfl⟩
theorem fold_filter {α β : Type} (f : β → α → β) (p : α → Bool) : ∀ (l : List α) (x : β), (∀ y e, p e = false → f y e = y) → (l.filter p).foldl f x = l.foldl f x
  | [], _, _ => rfl
  | e :: l, x, h => by
    by_cases hp : p e = true
    · rw [List.filter_cons_of_pos hp, List.foldl_cons, List.foldl_cons, fold_filter f p l _ h]
    · rw [List.filter_cons_of_neg hp, List.foldl_cons, h x e (by simpa using hp), fold_filter f p l _ h]
theorem hapE_cases (e : Ev) : hapE e = 0 ∨ hapE e = 10 ∨ hapE e = 11 := by
  unfold hapE
  split
  · exact .inr (.inl rfl)
  · split
    · exact .inr (.inr rfl)
    · exact .inl rfl
/-- What holds of a state in the midst of a call. -/
structure Mid (m : Fs) (n : Nat) (x : Fs × Bool × Bool) : Prop where
  ok : OkM x.1
  time : x.1.time ≤ m.time + n
  time0 : m.time ≤ x.1.time
  plan : x.1.plan = m.plan
  calls : x.1.calls = m.calls + 1
  room : x.1.room = m.room
theorem Mid.next {m : Fs} {n k : Nat} {x : Fs × Bool × Bool} (h : Mid m n x) (e : Ev) : Mid m (n + if e.t = (k : Int) then 1 else 0) (happen k x e) := by
  rw [happen_eq]
  by_cases ht : e.t ≠ (k : Int)
  · rw [if_pos ht, if_neg ht]
    exact h
  · rw [if_neg ht, if_pos (by simpa using ht)]
    have h1 := hap_time x.1 e
    have h2 := hap_plan x.1 e
    have := h.time
    have := h.time0
    exact ⟨ok_hap h.ok e, by simp only; omega, by simp only; omega, h2.1.trans h.plan, h2.2.1.trans h.calls, h2.2.2.trans h.room⟩
theorem Mid.fold {m : Fs} (k : Nat) : ∀ (l : List Ev) {n : Nat} {x : Fs × Bool × Bool}, Mid m n x → Mid m (n + l.length) (l.foldl (happen k) x)
  | [], n, x, h => h
  | e :: l, n, x, h => by
    have h1 := Mid.fold k l (h.next (k := k) e)
    refine ⟨h1.ok, ?_, h1.time0, h1.plan, h1.calls, h1.room⟩
    have := h1.time
    simp only [List.length_cons, List.foldl_cons]
    split at this <;> omega
def calledM (m : Fs) : Fs := { m with calls := m.calls + 1 }
theorem Mid.start {m : Fs} (h : OkM m) : Mid m 0 (calledM m, false, false) := ⟨h.same rfl rfl rfl h.lusers (Nat.le_refl _), Nat.le_refl _, Nat.le_refl _, rfl, rfl, rfl⟩
theorem call_mid {m : Fs} (h : OkM m) : ∃ x : Fs × Bool × Bool, Mid m m.plan.length x ∧ (callM m).1 = x.1 := by
  have := Mid.fold (m.calls + 1) m.plan (Mid.start h)
  rw [Nat.zero_add] at this
  exact ⟨_, this, rfl⟩

/-- An event of a plan, in its cells. -/
theorem plan_get {R : Nat → Prop} {w : World} {v : Value} {l : List Ev} (h : ReadL w 53 (IsEvR R w) v l) : ∃ a cap, v = .slice a l.length cap ∧ l.length ≤ cap ∧ l.length ≤ 140737488355328 ∧ cap ≤ 9223372036854775807 ∧
    ∀ (k : Nat) e, l[k]? = some e → ∃ b o cs, a = some ⟨b, o, none⟩ ∧ IsEvR R w cs e ∧ ∀ j u, cs[j]? = some u → w.cell? ⟨b, o + k * 7 + j, none⟩ = some u := by
  obtain ⟨css, ⟨a, cap, rfl, h1, h2, h3, h4⟩, ht, he⟩ := h
  refine ⟨a, cap, rfl, h1, h3, h2, fun k e hk => ?_⟩
  have h7 : ∀ c ∈ css, c.length = 7 := fun c hc => by
    obtain ⟨i, hi, rfl⟩ := List.mem_iff_getElem.1 hc
    have hi2 : i < l.length := by rw [← he.1]; exact hi
    exact (he.2 i css[i] l[i] (List.getElem?_eq_getElem hi) (List.getElem?_eq_getElem hi2)).length.1
  have hkl : k < css.length := by rw [he.1]; exact (List.getElem?_eq_some_iff.1 hk).1
  have hev := he.2 k _ e (List.getElem?_eq_getElem hkl) hk
  have hf := fun j u hu => flat_get 7 css k j _ u h7 (List.getElem?_eq_getElem hkl) hu
  obtain ⟨b, o, rfl, hc⟩ := h4 (by
    intro hn
    have h0 : (css[k])[0]? = some ((css[k])[0]'(by rw [hev.length.1]; omega)) := List.getElem?_eq_getElem _
    have := hf 0 _ h0
    rw [hn] at this
    simp at this)
  refine ⟨b, o, css[k], rfl, hev, fun j u hu => ?_⟩
  have := hc _ _ (hf j u hu)
  rwa [Nat.add_assoc, Nat.mul_comm k 7]

theorem add_run {w : World} {g : Nat} {c : Int} (hc : w.cell? ⟨g, 5, none⟩ = some (.int .i64 c)) (hz : w.frozen? ⟨g, 5, none⟩ = false) (h0 : 0 ≤ c) (h1 : c ≤ 1000000000) :
    (callFunc 196 #[.pointer (some ⟨g, 5, none⟩), .int .i64 1]).run Tryz.prog w = .ok (.value (.int .i64 (c + 1))) (w.setCell ⟨g, 5, none⟩ (.int .i64 (c + 1))) :=
  run_call_add (P := Tryz.prog) Tryz.func196 (by kernel_rfl) (by kernel_rfl) (by kernel_rfl) .i64 (by kernel_rfl) (y := 1) (s := c + 1) hc hz (by
    have := IntWalk.i64_in (c + 1) (by omega)
    simp [go_sem, this])
set_option maxRecDepth 100000 in
theorem add_any {w : World} {g : Nat} {c : Int} (hc : w.cell? ⟨g, 5, none⟩ = some (.int .i64 c)) (hz : w.frozen? ⟨g, 5, none⟩ = false) (h0 : 0 ≤ c) (h1 : c ≤ 1000000000) :
    Calls Tryz.prog 167 #[.pointer (some ⟨g, 5, none⟩), .int .i64 1] w fun e w' => e = .returned (.int .i64 (c + 1)) ∧ w' = w.setCell ⟨g, 5, none⟩ (.int .i64 (c + 1)) := by
  have hl := add_run hc hz h0 h1
  go_enter Tryz.func167, Tryz.ntmps167
  go_wp2
  go_ret
  exact ⟨rfl, rfl⟩

end Go.Proofs.YtfimfbdlegookaaGreatDoor

/-! fsim.FS: call: the walk. Conditions: at most 800000 ticks, 1000 events; no block of the plan is written. -/
namespace Go.Proofs.YtfimfbdlegookaaGreatDoor
open Go Go.RowKit

/-- No block of the plan is written by a call. -/
def Apart (S O : Nat → Prop) (w : World) : Prop := ∀ k, S k → ¬ O k ∧ k < w.heap.size
theorem Apart.next {S O : Nat → Prop} {w w' : World} (h : Apart S O w) (hs : w.heap.size ≤ w'.heap.size) : Apart S (Nw O w w') w' := fun k hk => ⟨fun hn => by
  rcases hn with hn | hn
  · exact (h k hk).1 hn
  · have := (h k hk).2; omega, by have := (h k hk).2; omega⟩
def NoG (O : Nat → Prop) : Prop := ∀ k, O k → k ≠ 2

theorem filt_take {n c0 : Nat} {L : List Ev} {k : Nat} {e : Ev} (h : L[k]? = some e) (hc : c0 < n) : ((L.take (k + 1)).filter fun e => decide ((c0 : Int) < e.t)).length = ((L.take k).filter fun e => decide ((c0 : Int) < e.t)).length + (if (c0 : Int) < e.t then 1 else 0) := by
  rw [List.take_add_one, h, Option.toList_some, List.filter_append, List.length_append]
  congr 1
  by_cases h0 : (c0 : Int) < e.t
  · rw [if_pos h0, List.filter_cons_of_pos (by simpa using h0)]; rfl
  · rw [if_neg h0, List.filter_cons_of_neg (by simpa using h0)]; rfl

set_option maxRecDepth 100000 in
set_option maxHeartbeats 4000000 in
theorem call_any {S O R : Nat → Prop} {w : World} {p : Value} {m : Fs} (hE : Env w) (h : IsFs S O R w p m) (hok : OkM m) (hpo : PlanOk m) (ht : m.time ≤ 800000) (hcl : m.calls ≤ 1000000) (hG : NoG O) (hA : Apart S O w) :
    Calls Tryz.prog 144 #[p] w fun e w' => e = .returned (.tuple #[.bool (callM m).2.1, .int .i64 (callM m).2.2]) ∧ FsPost S O R w p (callM m).1 w' := by
  have HH : Hid _ := h
  obtain ⟨g, gm, gd, vp, vl, vu, L, c0, rfl, hg, hO, hP, hpl, hc0, hL0⟩ := h
  obtain ⟨d0, d1, d2, d3, d4, d5, d6, d7, d8⟩ := cellsAt9 hg
  have hfz : w.frozen? ⟨g, 5, none⟩ = false := by simp [World.frozen?, hg]
  have HG : Hid _ := hg
  have HP : Hid _ := hP
  have HE : Hid _ := hE
  have HA : Hid _ := hA
  have HNG : Hid _ := hG
  have HPO : Hid _ := hpo
  have HOK : Hid _ := hok
  have HPL : Hid _ := hpl
  obtain ⟨a, cap, rfl, l1, l2, l3, hget⟩ := plan_get hP.plan
  have HGET : Hid _ := hget
  have hsl : ∀ b o, a = some ⟨b, o, none⟩ → S b := fun b o hh => hP.ol b (by rw [hh]; rfl)
  have HSL : Hid _ := hsl
  obtain ⟨w1, hw1⟩ : ∃ w1, w1 = w.setCell ⟨g, 5, none⟩ (.int .i64 ((m.calls : Int) + 1)) := ⟨_, rfl⟩
  have hg1 : w1.heap[g]? = some (.cells (fsCells m.room gm gd vp (.slice a L.length cap) (m.calls + 1) vu m.time m.down) 107 (0, 0)) := by
    rw [hw1, heap_setCell_same w g 5 _ _ _ hg]
    simp
  have hgr1 : w.grownBy w1 (some g) := by rw [hw1]; exact setCell_grown _ _ _ _
  have hf1 : FsPost S O R w (.pointer (some ⟨g, 0, none⟩)) (calledM m) w1 := by
    refine ⟨⟨g, gm, gd, vp, _, vu, L, c0, rfl, hg1, .inl hO, (hP.own hg hgr1).mono (fun k hk => .inl hk) (fun k hk => .inl hk), hpl, Nat.le_succ_of_le hc0, hL0⟩, (Fr.refl O w).step hgr1 (fun k hk => by cases hk; exact .inl hO) (by rintro k hk; cases hk; exact cells_u8 hg (by kernel_rfl))⟩
  have HW1 : Hid _ := hw1
  have HF1 : Hid _ := hf1
  obtain ⟨x0, x1, x2, x3, x4, x5, x6, x7, x8⟩ := cellsAt9 hg1
  have HPE : Hid (callM m = ((L.foldl (happen (m.calls + 1)) (calledM m, false, false)).1, (L.foldl (happen (m.calls + 1)) (calledM m, false, false)).2.1, if (L.foldl (happen (m.calls + 1)) (calledM m, false, false)).1.down then 12 else if (L.foldl (happen (m.calls + 1)) (calledM m, false, false)).2.2 then 11 else 0)) := by
    have hfe : m.plan.foldl (happen (m.calls + 1)) (calledM m, false, false) = L.foldl (happen (m.calls + 1)) (calledM m, false, false) := by
      rw [hpl, fold_filter (happen (m.calls + 1)) _ L _ (fun y e he => by
        rw [happen_eq, if_pos]
        intro h0
        simp only [decide_eq_false_iff_not] at he
        omega)]
    rw [← hfe]
    rfl
  clear hg hP hE hA hG hpo hok hpl hget hsl hw1 hf1 hg1
  go_enter Tryz.func144, Tryz.ntmps144
  go_wp2_with (go_at_call 167; go_must (refine (add_any d5 hfz (by omega) (by omega)).mono ?_; rintro e w' ⟨rfl, rfl⟩; rw [show w.setCell ⟨g, 5, none⟩ (.int .i64 ((m.calls : Int) + 1)) = w1 from HW1.out.symm]))
  go_loopw [5, 6, 18] (fun fu br i wr => ∃ (k : Nat) (x : Fs × Bool × Bool), k ≤ L.length ∧ i = .int .i64 k ∧ fu = .bool x.2.1 ∧ br = .bool x.2.2 ∧ x = (L.take k).foldl (happen (m.calls + 1)) (calledM m, false, false) ∧ FsPost S O R w (.pointer (some ⟨g, 0, none⟩)) x.1 wr ∧ Mid m ((L.take k).filter fun e => decide ((c0 : Int) < e.t)).length x) (fun _ _ i _ => L.length - (intOf i).toNat)
  case atStart => exact ⟨0, (calledM m, false, false), Nat.zero_le _, rfl, rfl, rfl, rfl, HF1.out, Mid.start HOK.out⟩
  case round =>
    obtain ⟨k, ⟨mx, fx, bx⟩, hk, rfl, rfl, rfl, hx, hf, hmid⟩ := hrel
    have HXE : Hid _ := hx
    have HF : Hid _ := hf
    have HMID : Hid _ := hmid
    clear hx hf hmid
    by_cases hlt : k < L.length
    ·
      obtain ⟨e, hke⟩ : ∃ e, L[k]? = some e := ⟨_, List.getElem?_eq_getElem hlt⟩
      obtain ⟨b, o, cs, rfl, hev, hcell⟩ := HGET.out k e hke
      have hsb := HSL.out b o rfl
      have hcr : ∀ j u, cs[j]? = some u → wr.cell? ⟨b, o + k * 7 + j, none⟩ = some u := fun j u hu => by
        have hcu := hcell j u hu
        rw [World.cell?_of_block (w := w) (w' := wr) (a := ⟨b, o + k * 7 + j, none⟩) (HF.out.fr.block b (World.block_lt_of_cell? _ _ hcu) (.inl (HA.out b hsb).1))]
        exact hcu
      have hevr : IsEvR (Nw R w wr) wr cs e := (hev.keepR (KeepR.of_keep HF.out.fr.keep)).mono (fun k hk => .inl hk)
      have HEV : Hid _ := hevr
      have HKE : Hid _ := hke
      obtain ⟨vd, rfl, hd, -⟩ := id hevr
      obtain ⟨q1, q2, rfl, -⟩ := id hd.bytes
      have y0 := hcr 0 _ rfl
      have y1 := hcr 1 _ rfl
      have y2 := hcr 2 _ rfl
      have y3 := hcr 3 _ rfl
      have y4 := hcr 4 _ rfl
      have y5 := hcr 5 _ rfl
      have y6 := hcr 6 _ rfl
      simp only [Nat.add_zero] at y0
      have hfil := filt_take (n := m.calls + 1) hke (show c0 < m.calls + 1 by omega)
      have HFIL : Hid _ := hfil
      have hstep : (L.take (k + 1)).foldl (happen (m.calls + 1)) (calledM m, false, false) = happen (m.calls + 1) (mx, fx, bx) e := by
        rw [List.take_add_one, hke, Option.toList_some, List.foldl_append, ← HXE.out]
        rfl
      have HST : Hid _ := hstep
      have hxa : Ext wr (wr.alloc (.cells #[.int .i64 e.t, .int .i64 e.kind, .int .i64 e.mode, .int .i64 e.keep, .int .i64 e.torn, S8 e.path, .slice q1 e.data.length q2] 53)) := (Ext.refl _).alloc _
      have HXA : Hid _ := hxa
      clear hev hcell hcr hevr hd hfil hstep hxa hke
      by_cases htn : e.t = (m.calls : Int) + 1
      · have hbe : (e.t == (m.calls : Int) + 1) = true := by simpa using htn
        have hbn : (e.t != (m.calls : Int) + 1) = false := by simpa using htn
        have HTN : Hid _ := htn
        have hm9 : e ∈ m.plan := by
          rw [HPL.out]
          exact List.mem_filter.2 ⟨List.mem_of_getElem? HKE.out, by simp only [decide_eq_true_eq]; omega⟩
        have hpe := HPO.out.ev e hm9
        have hcnt : ((L.take k).filter fun e => decide ((c0 : Int) < e.t)).length ≤ 1000 := by
          have h1 := HPO.out.len
          rw [HPL.out] at h1
          exact Nat.le_trans ((List.take_sublist k L).filter _).length_le h1
        have htm : mx.time ≤ 900000 := by
          have h9 : mx.time ≤ m.time + _ := HMID.out.time
          omega
        have HPOST : Hid (FsPost S O R w (.pointer (some ⟨g, 0, none⟩)) mx (wr.alloc (.cells #[.int .i64 e.t, .int .i64 e.kind, .int .i64 e.mode, .int .i64 e.keep, .int .i64 e.torn, S8 e.path, .slice q1 e.data.length q2] 53))) := HF.out.ext HXA.out
        have HEVA : Hid (IsEvR (Nw R w (wr.alloc (.cells #[.int .i64 e.t, .int .i64 e.kind, .int .i64 e.mode, .int .i64 e.keep, .int .i64 e.torn, S8 e.path, .slice q1 e.data.length q2] 53))) (wr.alloc (.cells #[.int .i64 e.t, .int .i64 e.kind, .int .i64 e.mode, .int .i64 e.keep, .int .i64 e.torn, S8 e.path, .slice q1 e.data.length q2] 53)) [.int .i64 e.t, .int .i64 e.kind, .int .i64 e.mode, .int .i64 e.keep, .int .i64 e.torn, S8 e.path, .slice q1 e.data.length q2] e) := (IsEvR.keepR HEV.out (KeepR.of_keep (KeepB.of_ext HXA.out))).mono (fun k hk => hk.fst HXA.out.size)
        have HRES : Hid (happen (m.calls + 1) (mx, fx, bx) e = (hapM mx e, fx || hapE e == 10, bx || hapE e == 11)) := by
          unfold Hid
          rw [happen_eq, if_neg (by simp; omega)]
        have HMN : Hid (Mid m ((L.take (k + 1)).filter fun e => decide ((c0 : Int) < e.t)).length (happen (m.calls + 1) (mx, fx, bx) e)) := by
          have h1 := HMID.out.next (k := m.calls + 1) e
          rw [if_pos (by omega)] at h1
          rw [HFIL.out, if_pos (by omega)]
          exact h1
        have HCA : Hid _ := hapE_cases e
        obtain ⟨C, hC⟩ : ∃ C, hapE e = C := ⟨_, rfl⟩
        rw [hC] at HCA HRES
        clear htn hm9 hcnt
        have HCE : Hid _ := hC
        clear hC
        rcases HCA.out with rfl | rfl | rfl
        · go_wp2_with (go_at_call 185; go_must (refine (happens_any e [.int .i64 e.t, .int .i64 e.kind, .int .i64 e.mode, .int .i64 e.keep, .int .i64 e.torn, S8 e.path, .slice q1 e.data.length q2] (HE.out.fr HPOST.out.fr HNG.out) HPOST.out.fs HMID.out.ok htm HEVA.out hpe.1 hpe.2.1 hpe.2.2).mono ?_; rw [HCE.out]; rintro x2 w2 ⟨rfl, h2⟩; have HP2 : Hid _ := FsPost.trans HPOST.out h2; clear h2))
          go_roundw
          case rel => exact ⟨k + 1, happen (m.calls + 1) (mx, fx, bx) e, by omega, by go_num, by rw [HRES.out]; simp, by rw [HRES.out]; simp, HST.out.symm, by rw [HRES.out]; exact HP2.out, HMN.out⟩
          case measure => simp [intOf]; omega
        · go_wp2_with (go_at_call 185; go_must (refine (happens_any e [.int .i64 e.t, .int .i64 e.kind, .int .i64 e.mode, .int .i64 e.keep, .int .i64 e.torn, S8 e.path, .slice q1 e.data.length q2] (HE.out.fr HPOST.out.fr HNG.out) HPOST.out.fs HMID.out.ok htm HEVA.out hpe.1 hpe.2.1 hpe.2.2).mono ?_; rw [HCE.out]; rintro x2 w2 ⟨rfl, h2⟩; have HP2 : Hid _ := FsPost.trans HPOST.out h2; clear h2))
          go_roundw
          case rel => exact ⟨k + 1, happen (m.calls + 1) (mx, fx, bx) e, by omega, by go_num, by rw [HRES.out]; simp, by rw [HRES.out]; simp, HST.out.symm, by rw [HRES.out]; exact HP2.out, HMN.out⟩
          case measure => simp [intOf]; omega
        · go_wp2_with (go_at_call 185; go_must (refine (happens_any e [.int .i64 e.t, .int .i64 e.kind, .int .i64 e.mode, .int .i64 e.keep, .int .i64 e.torn, S8 e.path, .slice q1 e.data.length q2] (HE.out.fr HPOST.out.fr HNG.out) HPOST.out.fs HMID.out.ok htm HEVA.out hpe.1 hpe.2.1 hpe.2.2).mono ?_; rw [HCE.out]; rintro x2 w2 ⟨rfl, h2⟩; have HP2 : Hid _ := FsPost.trans HPOST.out h2; clear h2))
          go_roundw
          case rel => exact ⟨k + 1, happen (m.calls + 1) (mx, fx, bx) e, by omega, by go_num, by rw [HRES.out]; simp, by rw [HRES.out]; simp, HST.out.symm, by rw [HRES.out]; exact HP2.out, HMN.out⟩
          case measure => simp [intOf]; omega
      · have hbe : (e.t == (m.calls : Int) + 1) = false := by simpa using htn
        have hbn : (e.t != (m.calls : Int) + 1) = true := by simpa using htn
        have HTN : Hid _ := htn
        clear htn
        go_wp2
        go_roundw
        case rel =>
          refine ⟨k + 1, (mx, fx, bx), by omega, by go_num, rfl, rfl, ?_, HF.out.ext HXA.out, ?_⟩
          · rw [HST.out, happen_eq, if_pos (by have := HTN.out; simp; omega)]
          · have h1 := HMID.out
            refine ⟨h1.ok, ?_, h1.time0, h1.plan, h1.calls, h1.room⟩
            rw [HFIL.out]
            have := h1.time
            omega
        case measure => simp [intOf]; omega
    · have hkk : k = L.length := by omega
      subst hkk
      have hxe := HXE.out
      rw [List.take_length] at hxe
      rw [← hxe] at HPE
      have HPF : Hid (callM m = (mx, fx, if mx.down then 12 else if bx then 11 else 0)) := HPE.out
      have hfs : IsFs S (Nw O w wr) (Nw R w wr) wr (.pointer (some ⟨g, 0, none⟩)) mx := HF.out.fs
      have HFF : Hid (FsPost S O R w (.pointer (some ⟨g, 0, none⟩)) mx wr) := HF.out
      obtain ⟨g', gm', gd', vp', vl', vu', L', c0', hpe, hg', hO', hP', hpl', hc0'⟩ := hfs
      cases hpe
      obtain ⟨z0, z1, z2, z3, z4, z5, z6, z7, z8⟩ := cellsAt9 hg'
      obtain ⟨dn, hdn⟩ : ∃ dn, mx.down = dn := ⟨_, rfl⟩
      rw [hdn] at z8 HPF
      clear hxe hP' hg' hpl' hdn HPE
      cases dn with
      | true =>
        go_wp2
        go_ret2
        rw [HPF.out]
        exact ⟨rfl, HFF.out⟩
      | false =>
        cases bx with
        | true =>
          go_wp2
          go_ret2
          rw [HPF.out]
          exact ⟨rfl, HFF.out⟩
        | false =>
          go_wp2
          go_ret2
          rw [HPF.out]
          exact ⟨rfl, HFF.out⟩

end Go.Proofs.YtfimfbdlegookaaGreatDoor

/-! fsim.FS: fits, Create, Write. Conditions: what holds of a file system at all times; short paths. -/
namespace Go.Proofs.YtfimfbdlegookaaGreatDoor
open Go Go.RowKit

/-- What a call finds. -/
structure FsIn (S O R : Nat → Prop) (w : World) (p : Value) (m : Fs) : Prop where
  env : Env w
  fs : IsFs S O R w p m
  ok : OkM m
  plan : PlanOk m
  time : m.time ≤ 700000
  calls : m.calls ≤ 900000
  noG : NoG O
  apart : Apart S O w
  low : ∀ k, O k → k < w.heap.size
  room0 : 0 ≤ m.room
  room1 : m.room ≤ 1073741824

theorem used_bound {m : Fs} (h : OkM m) (ht : m.time ≤ 900000) : usedF m.now ≤ 18000000000 := by
  have := used_le h.lnow (fun e he => (h.dnow e he).2)
  omega
theorem oldLen_le {m : Fs} (h : OkM m) (path : B8) : oldLen m.now path ≤ 20000 := by
  unfold oldLen
  split
  · rename_i f hf
    exact (h.dnow _ (look_mem hf)).2
  · omega

theorem look_shape {R : Nat → Prop} {w : World} {l : Files} {path : B8} {v : Value} {D : Nat} (hD : oldLen l path = D) (h1 : ∀ f, look l path = some f → ∃ sv, v = fiV f sv ∧ IsData R w sv f.data) (h2 : look l path = none → v = .agg #[.int .i64 0, .slice none 0 0, .int .i64 0]) :
    ∃ mo a c ti, v = .agg #[.int .i64 mo, .slice a D c, .int .i64 ti] := by
  unfold oldLen at hD
  cases hl : look l path with
  | some f =>
    rw [hl] at hD
    obtain ⟨sv, rfl, hd⟩ := h1 f hl
    obtain ⟨a, c, rfl, -⟩ := hd.bytes
    exact ⟨f.mode, a, c, f.time, by rw [← hD]⟩
  | none =>
    rw [hl] at hD
    subst hD
    exact ⟨0, none, 0, 0, h2 hl⟩

set_option maxRecDepth 100000 in
set_option maxHeartbeats 2000000 in
theorem fits_any {S O R : Nat → Prop} {w : World} {p : Value} {m : Fs} (path : B8) (n : Nat) (h : IsFs S O R w p m) (hok : OkM m) (ht : m.time ≤ 900000) (hr0 : 0 ≤ m.room) (hr1 : m.room ≤ 1073741824) (hp : path.length ≤ 1000000) :
    Calls Tryz.prog 145 #[p, S8 path, .int .i64 n] w fun e w' => e = .returned (.bool (fitsM m path n)) ∧ Ext w w' := by
  have HH : Hid _ := h
  obtain ⟨g, gm, gd, vp, vl, vu, L, c0, rfl, hg, hO, hP, -, -⟩ := h
  obtain ⟨d0, d1, d2, d3, d4, d5, d6, d7, d8⟩ := cellsAt9 hg
  have HF : Hid _ := hP.now
  have hu := used_bound hok ht
  have hol := oldLen_le hok path
  obtain ⟨U, hU⟩ : ∃ U : Nat, usedF m.now = U := ⟨_, rfl⟩
  obtain ⟨D, hD⟩ : ∃ D : Nat, oldLen m.now path = D := ⟨_, rfl⟩
  have HU : Hid _ := hU
  have HD : Hid _ := hD
  rw [hU] at hu
  rw [hD] at hol
  obtain ⟨r, hr⟩ : ∃ r : Int, m.room = r := ⟨_, rfl⟩
  rw [hr] at d0 hr0 hr1
  have hfit : fitsM m path n = decide ((n : Int) ≤ r - U + D) := by unfold fitsM; rw [hU, hD, hr]
  have HFIT : Hid _ := hfit
  clear hg hP hok hU hD hr hfit d3 d4 d5 d6 d7 d8 d2
  go_enter Tryz.func145, Tryz.ntmps145
  go_wp2_with fail
  have hw1 : IntKind.i64.wrap (r - (U : Int)) = r - (U : Int) := IntWalk.i64_in _ (by omega)
  have hw2 : IntKind.i64.wrap (r - (U : Int) + (D : Int)) = r - (U : Int) + (D : Int) := IntWalk.i64_in _ (by omega)
  apply wp_region_mix 18 [_, _, _, _, _, _, .int .i64 U, .int .i64 (r - U), _, _, _, _, _, undef, undef, .int .i64 D, .int .i64 (r - U + D), .bool (decide ((n : Int) ≤ r - U + D))] [none, none, none, none, none, none, none, none, none, none, none, none, none, some (fun u _ => ∃ mo a c ti, u = .agg #[.int .i64 mo, .slice a D c, .int .i64 ti]), some (fun u _ => ∃ a c, u = .slice a D c), none, none, none] [[], [], [1], [2], [3], [], [5], [4, 6], [], [8], [9], [10], [], [11, 12], [13], [14], [7, 15], [0, 16]] (by kernel_rfl) (by kernel_rfl) (by simp [mixV])
  · refine ⟨?_, ?_, trivial⟩
    · exact fun _ _ _ _ h => h
    · exact fun _ _ _ _ h => h
  · simp (maxSteps := 1000000) only [List.take_succ_cons, List.take_zero, oblFrom, stepObl, fillFrom, Act.put, List.setIfInBounds_toArray, List.set_cons_zero, List.set_cons_succ, knows, getV, mixV, List.getD_cons_zero, List.getD_cons_succ, and_true, true_and, forall_const]
    refine ⟨?_, ?_, ?_, ?_, ?_, ?_, ?_, ?_, ?_, ?_, ?_, ?_, ?_, ?_, ?_, ?_, ?_, ?_⟩
    · intro xs wq hq R hR
      have f0 := hq.cell d0; have f1 := hq.cell d1
      go_simp
      exact hR _ _ (Ext.refl _) rfl
    · intro xs wq hq R hR
      have f0 := hq.cell d0; have f1 := hq.cell d1
      go_simp
      exact hR _ _ (Ext.refl _) rfl
    · intro xs wq hq hk R hR
      have f0 := hq.cell d0; have f1 := hq.cell d1
      go_simp
      exact hR _ _ (Ext.refl _) rfl
    · intro xs wq hq hk R hR
      have f0 := hq.cell d0; have f1 := hq.cell d1
      go_simp
      exact hR _ _ (Ext.refl _) rfl
    · intro xs wq hq hk R hR
      have f0 := hq.cell d0; have f1 := hq.cell d1
      go_simp
      exact hR _ _ (Ext.refl _) rfl
    · intro xs wq hq R hR
      have f0 := hq.cell d0; have f1 := hq.cell d1
      go_simp
      exact hR _ _ (Ext.refl _) rfl
    · intro xs wq hq hk R hR
      go_simp
      exact (used_any (IsFs.ext HH.out hq) (by have := HU.out; omega)).mono (by rw [HU.out]; rintro e' w4 ⟨rfl, h2⟩; exact ⟨_, rfl, hR _ _ h2 rfl⟩)
    · intro xs wq hq hk R hR
      obtain ⟨hk0, hk1⟩ := hk
      have f0 := hq.cell d0; have f1 := hq.cell d1
      go_simp
      exact hR _ _ (Ext.refl _) rfl
    · intro xs wq hq R hR
      have f0 := hq.cell d0; have f1 := hq.cell d1
      go_simp
      exact hR _ _ (Ext.refl _) rfl
    · intro xs wq hq hk R hR
      have f0 := hq.cell d0; have f1 := hq.cell d1
      go_simp
      exact hR _ _ (Ext.refl _) rfl
    · intro xs wq hq hk R hR
      have f0 := hq.cell d0; have f1 := hq.cell d1
      go_simp
      exact hR _ _ (Ext.refl _) rfl
    · intro xs wq hq hk R hR
      have f0 := hq.cell d0; have f1 := hq.cell d1
      go_simp
      exact hR _ _ (Ext.refl _) rfl
    · intro xs wq hq R hR
      have f0 := hq.cell d0; have f1 := hq.cell d1
      go_simp
      exact hR _ _ (Ext.refl _) rfl
    · intro xs wq hq hk R hR
      obtain ⟨hk0, hk1⟩ := hk
      obtain ⟨v, -, hrun, hv1, hv2⟩ := (IsFiles.ext HF.out hq).look_run path hp
      have hz := look_shape HD.out hv1 hv2
      go_simp
      exact hR _ _ (Ext.refl _) hz
    · intro xs wq hq hk R hR
      obtain ⟨mo, a, c, ti, hk⟩ := hk
      go_simp
      exact hR _ _ (Ext.refl _) ⟨_, _, rfl⟩
    · intro xs wq hq hk R hR
      obtain ⟨a, c, hk⟩ := hk
      go_simp
      exact hR _ _ (Ext.refl _) rfl
    · intro xs wq hq hk R hR
      obtain ⟨hk0, hk1⟩ := hk
      have f0 := hq.cell d0; have f1 := hq.cell d1
      go_simp
      exact hR _ _ (Ext.refl _) rfl
    · intro xs wq hq hk R hR
      obtain ⟨hk0, hk1⟩ := hk
      have f0 := hq.cell d0; have f1 := hq.cell d1
      go_simp
      exact hR _ _ (Ext.refl _) rfl
  intro xs w2 hx2 hk
  simp only [heldV, Nat.zero_add, Nat.reduceAdd, and_true] at hk
  obtain ⟨q0, q1, q2, q3, q4, q5, q6, q7, q8, q9, q10, q11, q12, q13, q14, q15, q16, q17⟩ := hk
  simp (maxSteps := 1000000) only [List.take_succ_cons, List.take_zero, List.drop_succ_cons, List.drop_zero, fillFrom, Act.put, List.setIfInBounds_toArray, List.set_cons_zero, List.set_cons_succ, Nat.zero_add, Nat.reduceAdd, q0, q1, q2, q3, q4, q5, q6, q7, q8, q9, q10, q11, q12, q15, q16, q17]
  clear q0 q1 q2 q3 q4 q5 q6 q7 q8 q9 q10 q11 q12 q15 q16 q17
  generalize xs 13 = x13 at *
  generalize xs 14 = x14 at *
  go_wp2
  go_ret
  rw [HFIT.out]
  exact ⟨rfl, hx2⟩

end Go.Proofs.YtfimfbdlegookaaGreatDoor

/-! What each call on a file system does, in plain Lean; what holds behind it. Conditions: as each theorem states. -/
namespace Go.Proofs.YtfimfbdlegookaaGreatDoor
open Go Go.RowKit

def putM (r : Fs × Bool × Int) (path : B8) (mode : Int) (data : B8) (only : Bool) : Fs × Int :=
  if r.2.2 ≠ 0 then (r.1, r.2.2) else if wrongE path mode data ≠ 0 then (r.1, wrongE path mode data)
  else if only = true ∧ (look r.1.now path).isSome then (r.1, 8) else putsM r.1 path mode data (!r.2.1 && fitsM r.1 path data.length)
def createM (m : Fs) (path : B8) (mode : Int) (data : B8) : Fs × Int := putM (callM m) path mode data true
def writeM (m : Fs) (path : B8) (mode : Int) (data : B8) : Fs × Int := putM (callM m) path mode data false
def mvM (r : Fs × Bool × Int) (src dst : B8) (fresh : Bool) : Fs × Int :=
  if r.2.2 ≠ 0 then (r.1, r.2.2) else if pathB src = false ∨ pathB dst = false then (r.1, 6)
  else if (look r.1.now src).isNone then (r.1, 7) else if (look r.1.now dst).isSome ∧ fresh = true then (r.1, 8)
  else if src = dst then (r.1, 0) else if (look r.1.now dst).isNone ∧ mayF r.1.now dst src = false then (r.1, 9) else (does r.1 (.mv src dst), 0)
def moveM (m : Fs) (src dst : B8) (fresh : Bool) : Fs × Int := mvM (callM m) src dst fresh
def removeM (m : Fs) (path : B8) : Fs × Int := if (callM m).2.2 ≠ 0 then ((callM m).1, (callM m).2.2) else removesM (callM m).1 path
def syncM (m : Fs) : Fs × Int := if (callM m).2.2 = 0 then (settle (callM m).1, 0) else ((callM m).1, (callM m).2.2)
def zeroFi : Fi := ⟨0, [], 0⟩
def readM (m : Fs) (path : B8) : Fs × Fi × Int :=
  if (callM m).2.2 ≠ 0 then ((callM m).1, zeroFi, (callM m).2.2) else if pathB path = false then ((callM m).1, zeroFi, 6)
  else match look (callM m).1.now path with
    | some f => ((callM m).1, f, 0)
    | none => ((callM m).1, zeroFi, 7)
def pathsL (l : Files) : List B8 := l.map (·.1)
def listM (m : Fs) (dir : B8) : Fs × List B8 × Int :=
  if (callM m).2.2 ≠ 0 then ((callM m).1, [], (callM m).2.2) else if dir = [] then ((callM m).1, pathsL (callM m).1.now, 0)
  else if pathB dir = false then ((callM m).1, [], 6) else ((callM m).1, (pathsL (callM m).1.now).filter (isUnder dir), 0)
def peekM (m : Fs) (path : B8) : Fi × Bool := match look m.now path with
  | some f => (f, true)
  | none => (zeroFi, false)

/-- What a call leaves, in numbers. -/
structure Left (m m' : Fs) (n : Nat) : Prop where
  ok : OkM m'
  time : m'.time ≤ m.time + n
  time0 : m.time ≤ m'.time
  plan : m'.plan = m.plan
  room : m'.room = m.room
theorem Left.trans {a b c : Fs} {n k : Nat} (h : Left a b n) (k2 : Left b c k) : Left a c (n + k) :=
  ⟨k2.ok, by have := h.time; have := k2.time; omega, Nat.le_trans h.time0 k2.time0, k2.plan.trans h.plan, k2.room.trans h.room⟩
theorem Left.refl {m : Fs} (h : OkM m) : Left m m 0 := ⟨h, Nat.le_refl _, Nat.le_refl _, rfl, rfl⟩
theorem Left.mono {m m' : Fs} {n k : Nat} (h : Left m m' n) (hk : n ≤ k) : Left m m' k := ⟨h.ok, Nat.le_trans h.time (by omega), h.time0, h.plan, h.room⟩
theorem call_left {m : Fs} (h : OkM m) (hp : PlanOk m) : Left m (callM m).1 1000 ∧ (callM m).1.calls = m.calls + 1 := by
  obtain ⟨x, hx, he⟩ := call_mid h
  rw [he]
  have := hp.len
  exact ⟨⟨hx.ok, by have := hx.time; omega, hx.time0, hx.plan, hx.room⟩, hx.calls⟩
theorem left_does {m : Fs} {c : Ch} (h : OkM m) (hc : ChOk c) (hmv : ∀ s d, c = .mv s d → (look m.now s).isSome = true) : Left m (does m c) 1 := ⟨ok_does h hc hmv, Nat.le_refl _, Nat.le_succ _, rfl, rfl⟩
theorem left_puts {m : Fs} {path : B8} {mode : Int} {data : B8} {fits : Bool} (h : OkM m) (hp : pathB path = true) (hd : data.length ≤ 20000) : Left m (putsM m path mode data fits).1 1 := by
  unfold putsM
  split
  · exact (Left.refl h).mono (by omega)
  · split
    · exact (Left.refl h).mono (by omega)
    · exact left_does h ⟨hp, hd⟩ (fun s d e => by cases e)
end Go.Proofs.YtfimfbdlegookaaGreatDoor

/-! fsim.FS: Create, Write. Conditions: what holds of a file system at all times; short paths. -/
namespace Go.Proofs.YtfimfbdlegookaaGreatDoor
open Go Go.RowKit

theorem FsIn.env1 {S O R : Nat → Prop} {w w1 : World} {p : Value} {m m1 : Fs} (h : FsIn S O R w p m) (h1 : FsPost S O R w p m1 w1) : Env w1 := h.env.fr h1.fr h.noG

set_option maxRecDepth 100000 in
set_option maxHeartbeats 4000000 in
theorem write_any {S O R : Nat → Prop} {w : World} {p : Value} {m : Fs} (path : B8) (mode : Int) (v : Value) (data : B8) (h : FsIn S O R w p m) (hp : path.length ≤ 400) (hv : IsBytes w v data) (hout : Out O w v) :
    Calls Tryz.prog 88 #[p, S8 path, .int .i64 mode, v] w fun e w' => e = .returned (.int .i64 (writeM m path mode data).2) ∧ FsPost S O R w p (writeM m path mode data).1 w' := by
  obtain ⟨m1, full, er, hcm⟩ : ∃ m1 full er, callM m = (m1, full, er) := ⟨_, _, _, rfl⟩
  have hcl := call_left h.ok h.plan
  rw [hcm] at hcl
  have hdef : writeM m path mode data = if er ≠ 0 then (m1, er) else if wrongE path mode data ≠ 0 then (m1, wrongE path mode data) else putsM m1 path mode data (!full && fitsM m1 path data.length) := by unfold writeM putM; rw [hcm]; simp only [Bool.false_eq_true, false_and, if_false]
  have HDEF : Hid _ := hdef
  have HCM : Hid _ := hcm
  have HCL : Hid _ := hcl
  have HI : Hid _ := h
  have HV : Hid _ := hv
  have HO : Hid _ := hout
  have htm := h.time
  have hcs := h.calls
  obtain ⟨a, c, rfl, -⟩ := hv.get
  obtain ⟨g, hpg⟩ : ∃ g, p = .pointer (some ⟨g, 0, none⟩) := by
    obtain ⟨g, gm, gd, vp, vl, vu, L, c0, hpe, -⟩ := h.fs
    exact ⟨g, hpe⟩
  subst hpg
  clear hdef hcm hcl h hv hout
  by_cases her : er = 0
  · subst her
    obtain ⟨e2, he2⟩ : ∃ e2, wrongE path mode data = e2 := ⟨_, rfl⟩
    have HW : Hid _ := he2
    rw [he2] at HDEF
    go_enter Tryz.func88, Tryz.ntmps88
    go_wp2_with fail
    go_at_call 144
    refine (call_any HI.out.env HI.out.fs HI.out.ok HI.out.plan (by omega) (by omega) HI.out.noG HI.out.apart).mono ?_
    rw [HCM.out]
    rintro e w1 ⟨rfl, h1⟩
    have H1 : Hid (FsPost S O R w (.pointer (some ⟨g, 0, none⟩)) m1 w1) := h1
    have HOK1 : Hid (OkM m1) := HCL.out.1.ok
    have htm1 : m1.time ≤ m.time + 1000 := HCL.out.1.time
    have hroom : m1.room = m.room := HCL.out.1.room
    have HRM : Hid _ := hroom
    clear h1 hroom
    go_wp2_with fail
    go_at_call 54
    refine (wrong_any path mode (.slice a data.length c) data _ (HI.out.env1 H1.out) (IsBytes.fr HV.out HO.out H1.out.fr) (by omega)).mono ?_
    rw [HW.out]
    rintro e w2 ⟨rfl, hx2⟩
    by_cases hz2 : e2 = 0
    · subst hz2
      have hw0 := wrong_zero he2
      have HW0 : Hid _ := hw0
      have H2 : Hid (FsPost S O R w (.pointer (some ⟨g, 0, none⟩)) m1 w2) := FsPost.ext H1.out hx2
      have HE2 : Hid _ := HI.out.env1 H2.out
      have HV2 : Hid _ := IsBytes.fr HV.out HO.out H2.out.fr
      clear he2 hw0
      have HDD : Hid (writeM m path mode data = putsM m1 path mode data (!full && fitsM m1 path data.length)) := by unfold Hid; rw [HDEF.out]; simp
      clear HDEF
      cases full with
      | true =>
        have HDE : Hid (writeM m path mode data = putsM m1 path mode data false) := HDD.out
        go_wp2_with fail
        go_at_call 55
        refine (puts_any path mode (.slice a data.length c) data false HE2.out H2.out.fs HOK1.out (by omega) hp HV2.out HW0.out.2.2.2 (may_eq _ HW0.out.1)).mono ?_
        rintro e w4 ⟨rfl, h4⟩
        go_wp2
        go_ret
        rw [HDE.out]
        exact ⟨rfl, H2.out.trans h4⟩
      | false =>
        have HDE : Hid (writeM m path mode data = putsM m1 path mode data (fitsM m1 path data.length)) := HDD.out
        go_wp2_with fail
        go_at_call 145
        refine (fits_any path data.length H2.out.fs HOK1.out (by omega) (by rw [HRM.out]; exact HI.out.room0) (by rw [HRM.out]; exact HI.out.room1) (by omega)).mono ?_
        rintro e w3 ⟨rfl, hx3⟩
        generalize fitsM m1 path data.length = ft at *
        have HX3 : Hid _ := hx3
        go_wp2_with fail
        go_at_call 55
        refine (puts_any path mode (.slice a data.length c) data ft (HE2.out.ext HX3.out) (IsFs.ext H2.out.fs HX3.out) HOK1.out (by omega) hp (IsBytes.ext HV2.out HX3.out) HW0.out.2.2.2 (may_eq _ HW0.out.1)).mono ?_
        rintro e w4 ⟨rfl, h4⟩
        go_wp2
        go_ret
        rw [HDE.out]
        exact ⟨rfl, H2.out.trans (FsPost.pre HX3.out h4)⟩
    · have hb : (e2 == 0) = false := by simpa using hz2
      have hb' : (e2 != 0) = true := by simpa using hz2
      have HDD : Hid (writeM m path mode data = (m1, e2)) := by unfold Hid; rw [HDEF.out]; simp [hz2]
      clear hz2 he2 HDEF
      go_wp2
      go_ret
      rw [HDD.out]
      exact ⟨rfl, FsPost.ext H1.out hx2⟩
  · have hb : (er == 0) = false := by simpa using her
    have hb' : (er != 0) = true := by simpa using her
    have HDD : Hid (writeM m path mode data = (m1, er)) := by unfold Hid; rw [HDEF.out]; simp [her]
    clear her HDEF
    go_enter Tryz.func88, Tryz.ntmps88
    go_wp2_with (go_at_call 144; go_must (refine (call_any HI.out.env HI.out.fs HI.out.ok HI.out.plan (by omega) (by omega) HI.out.noG HI.out.apart).mono ?_; rw [HCM.out]; rintro e w1 ⟨rfl, h1⟩))
    go_ret
    rw [HDD.out]
    exact ⟨rfl, h1⟩

end Go.Proofs.YtfimfbdlegookaaGreatDoor

/-! fsim.FS: Remove, Sync, Move, MoveNew. Conditions: what holds of a file system at all times; short paths. -/
namespace Go.Proofs.YtfimfbdlegookaaGreatDoor
open Go Go.RowKit

end Go.Proofs.YtfimfbdlegookaaGreatDoor

/-! fsim.FS: move, Move, MoveNew. Conditions: what holds of a file system at all times; short paths. -/
namespace Go.Proofs.YtfimfbdlegookaaGreatDoor
open Go Go.RowKit

set_option maxRecDepth 100000 in
set_option maxHeartbeats 8000000 in
theorem mv_any {S O R : Nat → Prop} {w : World} {p : Value} {m : Fs} (src dst : B8) (fresh : Bool) (h : FsIn S O R w p m) (hs : src.length ≤ 400) (hd : dst.length ≤ 400) :
    Calls Tryz.prog 147 #[p, S8 src, S8 dst, .bool fresh] w fun e w' => e = .returned (.int .i64 (moveM m src dst fresh).2) ∧ FsPost S O R w p (moveM m src dst fresh).1 w' := by
  obtain ⟨m1, full, er, hcm⟩ : ∃ m1 full er, callM m = (m1, full, er) := ⟨_, _, _, rfl⟩
  have hcl := call_left h.ok h.plan
  rw [hcm] at hcl
  have hdef : moveM m src dst fresh = if er ≠ 0 then (m1, er) else if pathB src = false ∨ pathB dst = false then (m1, 6)
      else if (look m1.now src).isNone then (m1, 7) else if (look m1.now dst).isSome ∧ fresh = true then (m1, 8)
      else if src = dst then (m1, 0) else if (look m1.now dst).isNone ∧ mayF m1.now dst src = false then (m1, 9) else (does m1 (.mv src dst), 0) := by unfold moveM mvM; rw [hcm]
  have HDEF : Hid _ := hdef
  have HCM : Hid _ := hcm
  have HCL : Hid _ := hcl
  have HI : Hid _ := h
  have htm := h.time
  have hcs := h.calls
  obtain ⟨g, hpg⟩ : ∃ g, p = .pointer (some ⟨g, 0, none⟩) := by
    obtain ⟨g, gm, gd, vp, vl, vu, L, c0, hpe, -⟩ := h.fs
    exact ⟨g, hpe⟩
  subst hpg
  have hts : (⟨src.toArray⟩ : ByteArray).toList = src := Lib.toList_data _
  have htd : (⟨dst.toArray⟩ : ByteArray).toList = dst := Lib.toList_data _
  clear hdef hcm hcl h
  by_cases her : er = 0
  · subst her
    have htm1 : m1.time ≤ m.time + 1000 := HCL.out.1.time
    have HOK1 : Hid (OkM m1) := HCL.out.1.ok
    obtain ⟨ps, hps⟩ : ∃ ps, pathB src = ps := ⟨_, rfl⟩
    obtain ⟨pd, hpd⟩ : ∃ pd, pathB dst = pd := ⟨_, rfl⟩
    have HPS : Hid _ := hps
    have HPD : Hid _ := hpd
    rw [hps, hpd] at HDEF
    clear hps hpd
    go_enter Tryz.func147, Tryz.ntmps147
    go_wp2_with fail
    go_at_call 144
    refine (call_any HI.out.env HI.out.fs HI.out.ok HI.out.plan (by omega) (by omega) HI.out.noG HI.out.apart).mono ?_
    rw [HCM.out]
    rintro e w1 ⟨rfl, h1⟩
    have H1 : Hid (FsPost S O R w (.pointer (some ⟨g, 0, none⟩)) m1 w1) := h1
    clear h1
    go_wp2_with fail
    go_at_call 66
    refine (path_l src _ (HI.out.env1 H1.out) (by omega)).mono ?_
    rw [HPS.out]
    rintro e w2 ⟨rfl, hx2⟩
    have H2 : Hid (FsPost S O R w (.pointer (some ⟨g, 0, none⟩)) m1 w2) := FsPost.ext H1.out hx2
    clear hx2
    cases ps with
    | false =>
      have HDD : Hid (moveM m src dst fresh = (m1, 6)) := by unfold Hid; rw [HDEF.out]; simp
      clear HDEF
      go_wp2
      go_ret
      rw [HDD.out]
      exact ⟨rfl, H2.out⟩
    | true =>
      go_wp2_with fail
      go_at_call 66
      refine (path_l dst _ (HI.out.env1 H2.out) (by omega)).mono ?_
      rw [HPD.out]
      rintro e w3 ⟨rfl, hx3⟩
      have H3 : Hid (FsPost S O R w (.pointer (some ⟨g, 0, none⟩)) m1 w3) := FsPost.ext H2.out hx3
      clear hx3
      cases pd with
      | false =>
        have HDD : Hid (moveM m src dst fresh = (m1, 6)) := by unfold Hid; rw [HDEF.out]; simp
        clear HDEF
        go_wp2
        go_ret
        rw [HDD.out]
        exact ⟨rfl, H3.out⟩
      | true =>
        obtain ⟨g', gm', gd', vp', vl', vu', L', c0', hpe, hg', hO', hP', -, -⟩ := H3.out.fs
        cases hpe
        obtain ⟨z0, z1, z2, z3, z4, z5, z6, z7, z8⟩ := cellsAt9 hg'
        obtain ⟨val, hrun, -, hv1, hv2⟩ := hP'.now.look_run src (by omega)
        have HN : Hid _ := hP'.now
        have HG' : Hid _ := hg'
        clear hg' hP'
        cases hlk : look m1.now src with
        | none =>
          rw [hlk] at hrun
          obtain rfl := hv2 hlk
          simp only [Option.isSome_none] at hrun
          have HDD : Hid (moveM m src dst fresh = (m1, 7)) := by unfold Hid; rw [HDEF.out, hlk]; simp
          have hxa : Ext w3 (w3.alloc (.cells #[.int .i64 0, .slice none 0 0, .int .i64 0] 76)) := (Ext.refl _).alloc _
          obtain ⟨q0, q1, q2, q3, q4, q5, q6, q7, q8⟩ := cellsAt9 (Ext.row hxa HG'.out)
          obtain ⟨val2, hrun2, -, hv3, hv4⟩ := (HN.out.ext hxa).look_run dst (by omega)
          have HXA : Hid _ := hxa
          clear hv1 hv2 hlk HDEF hxa q0 q2 q3 q4 q5 q6 q7 q8
          cases hlk2 : look m1.now dst with
          | none =>
            rw [hlk2] at hrun2
            obtain rfl := hv4 hlk2
            simp only [Option.isSome_none] at hrun2
            clear hv3 hv4 hlk2
            go_wp2
            go_ret
            rw [HDD.out]
            exact ⟨rfl, FsPost.ext H3.out (Ext.alloc HXA.out _)⟩
          | some f2 =>
            rw [hlk2] at hrun2
            obtain ⟨sv2, rfl, hsv2⟩ := hv3 f2 hlk2
            obtain ⟨r1, r2, rfl, -⟩ := hsv2.bytes
            simp only [Option.isSome_some] at hrun2
            clear hv3 hv4 hlk2 hsv2
            go_wp2
            go_ret
            rw [HDD.out]
            exact ⟨rfl, FsPost.ext H3.out (Ext.alloc HXA.out _)⟩
        | some f =>
          rw [hlk] at hrun
          obtain ⟨sv, rfl, hsv⟩ := hv1 f hlk
          obtain ⟨s1, s2, rfl, -⟩ := hsv.bytes
          simp only [Option.isSome_some] at hrun
          have hxa : Ext w3 (w3.alloc (.cells #[.int .i64 f.mode, .slice s1 f.data.length s2, .int .i64 f.time] 76)) := (Ext.refl _).alloc _
          obtain ⟨q0, q1, q2, q3, q4, q5, q6, q7, q8⟩ := cellsAt9 (Ext.row hxa HG'.out)
          obtain ⟨val2, hrun2, -, hv3, hv4⟩ := (HN.out.ext hxa).look_run dst (by omega)
          have HXA : Hid _ := hxa
          have HSRC : Hid ((look m1.now src).isSome = true) := by unfold Hid; rw [hlk]; rfl
          have HD2 : Hid (moveM m src dst fresh = if (look m1.now dst).isSome ∧ fresh = true then (m1, 8)
              else if src = dst then (m1, 0) else if (look m1.now dst).isNone ∧ mayF m1.now dst src = false then (m1, 9) else (does m1 (.mv src dst), 0)) := by unfold Hid; rw [HDEF.out, hlk]; simp
          clear hv1 hv2 hsv HDEF hxa q0 q2 q3 q4 q5 q6 q7 q8
          cases hlk2 : look m1.now dst with
          | some f2 =>
            rw [hlk2] at hrun2
            obtain ⟨sv2, rfl, hsv2⟩ := hv3 f2 hlk2
            obtain ⟨r1, r2, rfl, -⟩ := hsv2.bytes
            simp only [Option.isSome_some] at hrun2
            rw [hlk2] at HD2
            clear hv3 hv4 hsv2 hlk hlk2
            cases fresh with
            | true =>
              have HDD : Hid (moveM m src dst true = (m1, 8)) := by unfold Hid; rw [HD2.out]; simp
              clear HD2
              go_wp2
              go_ret
              rw [HDD.out]
              exact ⟨rfl, FsPost.ext H3.out (Ext.alloc HXA.out _)⟩
            | false =>
              obtain ⟨bq, hbq⟩ : ∃ bq, (src == dst) = bq := ⟨_, rfl⟩
              cases bq with
              | true =>
                have HDD : Hid (moveM m src dst false = (m1, 0)) := by unfold Hid; rw [HD2.out, if_neg (by simp), if_pos (by simpa using hbq)]
                clear HD2
                go_wp2
                go_ret
                rw [HDD.out]
                exact ⟨rfl, FsPost.ext H3.out (Ext.alloc HXA.out _)⟩
              | false =>
                have HDD : Hid (moveM m src dst false = (does m1 (.mv src dst), 0)) := by unfold Hid; rw [HD2.out, if_neg (by simp), if_neg (by simpa using hbq), if_neg (by simp)]
                clear HD2
                have H4 : Hid _ := FsPost.ext H3.out (Ext.alloc HXA.out (.cells #[.int .i64 f2.mode, .slice r1 f2.data.length r2, .int .i64 f2.time] 76))
                go_wp2_with (go_at_call 142; go_must (refine (does_any (.mv src dst) [S8 dst, S8 src, .bool false, .int .i64 0, .slice none 0 0, .int .i64 0] (FsPost.fs H4.out) ⟨by omega, by omega, path_ne HPS.out, rfl⟩ (fun s d e => by cases e; exact HSRC.out) (by have := HOK1.out.lnow; omega) (by have := HOK1.out.lpend; omega) (by omega)).mono ?_; rintro e w5 ⟨rfl, h5, hr5⟩))
                go_ret
                rw [HDD.out]
                exact ⟨rfl, FsPost.trans H4.out ⟨h5, hr5⟩⟩
          | none =>
            rw [hlk2] at hrun2
            obtain rfl := hv4 hlk2
            simp only [Option.isSome_none] at hrun2
            rw [hlk2] at HD2
            have hne : (src == dst) = false := by
              rw [beq_eq_false_iff_ne]
              intro e
              rw [e, hlk2] at hlk
              cases hlk
            have HNE : Hid (src ≠ dst) := beq_eq_false_iff_ne.1 hne
            clear hv3 hv4 hlk hlk2
            have H4 : Hid _ := FsPost.ext H3.out (Ext.alloc HXA.out (.cells #[.int .i64 0, .slice none 0 0, .int .i64 0] 76))
            have HN4 : Hid _ := IsFiles.ext HN.out (Ext.alloc HXA.out (.cells #[.int .i64 0, .slice none 0 0, .int .i64 0] 76))
            obtain ⟨t0, t1, t2, t3, t4, t5, t6, t7, t8⟩ := cellsAt9 (Ext.row (Ext.alloc HXA.out (.cells #[.int .i64 0, .slice none 0 0, .int .i64 0] 76)) HG'.out)
            obtain ⟨my, hmy⟩ : ∃ my, mayF m1.now dst src = my := ⟨_, rfl⟩
            have HMY : Hid (mayP m1.now dst src = my) := (may_eq src HPD.out).trans hmy
            rw [hmy] at HD2
            clear hmy t0 t2 t3 t4 t5 t6 t7 t8
            go_wp2_with fail
            go_at_call 141
            refine (may_any dst src (HI.out.env1 H4.out) HN4.out (by omega)).mono ?_
            rw [HMY.out]
            rintro e w5 ⟨rfl, hx5⟩
            have H5 : Hid (FsPost S O R w (.pointer (some ⟨g, 0, none⟩)) m1 w5) := FsPost.ext H4.out hx5
            clear hx5
            cases my with
            | false =>
              have HDD : Hid (moveM m src dst fresh = (m1, 9)) := by unfold Hid; rw [HD2.out, if_neg (by simp), if_neg HNE.out]; simp
              clear HD2
              go_wp2
              go_ret
              rw [HDD.out]
              exact ⟨rfl, H5.out⟩
            | true =>
              have HDD : Hid (moveM m src dst fresh = (does m1 (.mv src dst), 0)) := by unfold Hid; rw [HD2.out, if_neg (by simp), if_neg HNE.out]; simp
              clear HD2
              go_wp2_with (go_at_call 142; go_must (refine (does_any (.mv src dst) [S8 dst, S8 src, .bool false, .int .i64 0, .slice none 0 0, .int .i64 0] H5.out.fs ⟨by omega, by omega, path_ne HPS.out, rfl⟩ (fun s d e => by cases e; exact HSRC.out) (by have := HOK1.out.lnow; omega) (by have := HOK1.out.lpend; omega) (by omega)).mono ?_; rintro e w6 ⟨rfl, h6, hr6⟩))
              go_ret
              rw [HDD.out]
              exact ⟨rfl, FsPost.trans H5.out ⟨h6, hr6⟩⟩
  · have hb : (er == 0) = false := by simpa using her
    have hb' : (er != 0) = true := by simpa using her
    have HDD : Hid (moveM m src dst fresh = (m1, er)) := by unfold Hid; rw [HDEF.out]; simp [her]
    clear her HDEF
    go_enter Tryz.func147, Tryz.ntmps147
    go_wp2_with (go_at_call 144; go_must (refine (call_any HI.out.env HI.out.fs HI.out.ok HI.out.plan (by omega) (by omega) HI.out.noG HI.out.apart).mono ?_; rw [HCM.out]; rintro e w1 ⟨rfl, h1⟩))
    go_ret
    rw [HDD.out]
    exact ⟨rfl, h1⟩

theorem move_any {S O R : Nat → Prop} {w : World} {p : Value} {m : Fs} (src dst : B8) (h : FsIn S O R w p m) (hs : src.length ≤ 400) (hd : dst.length ≤ 400) :
    Calls Tryz.prog 64 #[p, S8 src, S8 dst] w fun e w' => e = .returned (.int .i64 (moveM m src dst false).2) ∧ FsPost S O R w p (moveM m src dst false).1 w' := by
  have HC : Hid _ := mv_any src dst false h hs hd
  clear h
  go_enter Tryz.func64, Tryz.ntmps64
  go_wp2_with (go_at_call 147; go_must (refine Calls.mono HC.out ?_; rintro e w1 ⟨rfl, h1⟩))
  go_ret
  exact ⟨rfl, h1⟩
end Go.Proofs.YtfimfbdlegookaaGreatDoor

/-! fsim.FS: Peek, Paths. Conditions: a short path; at most 1000000 files. -/
namespace Go.Proofs.YtfimfbdlegookaaGreatDoor
open Go Go.RowKit

theorem Nu.mono {w0 w1 w w' : World} (h0 : w0.heap.size ≤ w.heap.size) (h1 : w'.heap.size ≤ w1.heap.size) {k : Nat} (h : Nu w w' k) : Nu w0 w1 k := ⟨Nat.le_trans h0 h.1, Nat.lt_of_lt_of_le h.2 h1⟩

/-- What stands at a path, looked up. -/
theorem IsFiles.peek_run {R : Nat → Prop} {w : World} {b : Nat} {l : Files} (h : IsFiles R w b l) (p : B8) (hp : p.length ≤ 1000000) :
    ∃ (fi : Fi) (a : Option Addr) (c : Nat) (ok : Bool), (Instr.lookup 99 (.map (some b)) (S8 p) true).run Tryz.prog w = .ok (.tuple #[.agg #[.int .i64 fi.mode, .slice a fi.data.length c, .int .i64 fi.time], .bool ok]) w ∧ IsData R w (.slice a fi.data.length c) fi.data ∧
      (match look l p with | some f => (f, true) | none => (zeroFi, false)) = (fi, ok) := by
  obtain ⟨val, hrun, -, hv1, hv2⟩ := h.look_run p hp
  cases hlk : look l p with
  | some f =>
    rw [hlk] at hrun
    obtain ⟨sv, rfl, hsv⟩ := hv1 f hlk
    obtain ⟨a, c, rfl, -⟩ := id hsv.bytes
    exact ⟨f, a, c, true, hrun, hsv, rfl⟩
  | none =>
    rw [hlk] at hrun
    obtain rfl := hv2 hlk
    exact ⟨zeroFi, none, 0, false, hrun, IsData.nil _ _, rfl⟩

set_option maxRecDepth 100000 in
set_option maxHeartbeats 2000000 in
theorem peek_any {S O R : Nat → Prop} {w : World} {p : Value} {m : Fs} (path : B8) (h : IsFs S O R w p m) (hp : path.length ≤ 1000000) :
    Calls Tryz.prog 42 #[p, S8 path] w fun e w' => (∃ v, e = .returned (.tuple #[fiV (peekM m path).1 v, .bool (peekM m path).2]) ∧ IsData (Nu w w') w' v (peekM m path).1.data) ∧ Ext w w' := by
  obtain ⟨g, gm, gd, vp, vl, vu, L, c0, rfl, hg, -, hP, -⟩ := h
  have hxz : Ext w (w.alloc (.cells #[.int .i64 0, .slice none 0 0, .int .i64 0] 76)) := (Ext.refl _).alloc _
  obtain ⟨d0, d1, d2, d3, d4, d5, d6, d7, d8⟩ := cellsAt9 (Ext.row hxz hg)
  obtain ⟨fi, a, c, ok, hrun, hd, hpk⟩ := (hP.now.ext hxz).peek_run path hp
  have HPK : Hid (peekM m path = (fi, ok)) := hpk
  have HD : Hid _ := hd
  have hdl := hd.bytes.len
  rw [HPK.out]
  obtain ⟨wb, hwb⟩ : ∃ wb, wb = (w.alloc (.cells #[.int .i64 0, .slice none 0 0, .int .i64 0] 76)).alloc (.cells #[.int .i64 fi.mode, .slice a fi.data.length c, .int .i64 fi.time] 76) := ⟨_, rfl⟩
  have hxb : Ext (w.alloc (.cells #[.int .i64 0, .slice none 0 0, .int .i64 0] 76)) wb := by rw [hwb]; exact (Ext.refl _).alloc _
  have hgb : wb.heap[w.heap.size + 1]? = some (.cells #[.int .i64 fi.mode, .slice a fi.data.length c, .int .i64 fi.time] 76 (0, 0)) := by rw [hwb]; exact alloc_at1 _ _ _
  have hga : wb.heap[w.heap.size]? = some (.cells #[.int .i64 0, .slice none 0 0, .int .i64 0] 76 (0, 0)) := hxb.row (alloc_at _ _)
  obtain ⟨y0, y1, y2⟩ := cellsAt3 hgb
  have HB : Hid (IsData R wb (.slice a fi.data.length c) fi.data) := hd.ext hxb
  have HWB : Hid _ := hwb
  have hxwb := hxz.trans hxb
  have hsb : w.heap.size + 2 ≤ wb.heap.size := by rw [hwb]; simp
  clear hwb hg hP hd hpk hxz hxb d0 d2 d3 d4 d5 d6 d7 d8
  go_enter Tryz.func42, Tryz.ntmps42
  go_upto_region 2 with fail
  rw [show (w.alloc (.cells #[.int .i64 0, .slice none 0 0, .int .i64 0] 76)).alloc (.cells #[.int .i64 fi.mode, .slice a fi.data.length c, .int .i64 fi.time] 76) = wb from HWB.out.symm]
  go_wp2_with fail
  go_at_call 57
  refine (clone_any _ fi.data _ HB.out.bytes (by omega)).mono ?_
  rintro e w2 ⟨⟨v2, rfl, hd2⟩, hx2⟩
  obtain ⟨c1, c2, rfl, -⟩ := id hd2.bytes
  have HD2 : Hid _ := hd2
  have hgb2 := hx2.row hgb
  have hga2 := hx2.row hga
  have hne2 : w.heap.size ≠ w.heap.size + 1 := by omega
  clear hd2 hgb hga y0 y1 y2
  go_wp2_with (first
    | (refine store_field rfl 31 (.tmp 20) (.tmp 19) rfl (w.heap.size + 1) 1 rfl (.slice c1 fi.data.length c2) rfl rfl _ _ hgb2 (Nat.le_of_ble_eq_true rfl) size_bytes #[.int .i64 fi.mode, .slice c1 fi.data.length c2, .int .i64 fi.time] (by simp) ?_; intro w3 hg3 hgr3; have hga3 := but_row hgr3 hga2 hne2)
    | (refine wpList_load_row rfl 76 (.tmp 6) rfl (w.heap.size + 1) rfl 76 _ (0, 0) _ hg3 Tryz.underlying76 rfl size_fi ?_)
    | (refine wpList_store_row rfl 76 (.tmp 4) (.tmp 21) rfl w.heap.size #[.int .i64 fi.mode, .slice c1 fi.data.length c2, .int .i64 fi.time] rfl rfl 76 _ hga3 size_fi rfl (by simp [Value.oneCell']) ?_))
  refine bodyPost_ret (results_row_tmp rfl _ _ w.heap.size 76 #[.int .i64 fi.mode, .slice c1 fi.data.length c2, .int .i64 fi.time] (0, 0) _ (.bool ok) rfl rfl (setRow_heap _ _ _ _ _ _ hga3) Tryz.underlying76 size_fi) rfl ?_
  have hk3 : KeepB w2 w3 := KeepB.of_grown hgr3 hgb2 (by kernel_rfl)
  have hk4 : KeepB w3 (w3.setRow w.heap.size #[.int .i64 fi.mode, .slice c1 fi.data.length c2, .int .i64 fi.time]) := KeepB.of_grown (setRow_grown _ _ _) hga3 (by kernel_rfl)
  have hx3 : Ext w w3 := Ext.but (hxwb.trans hx2) hgr3 (by omega)
  refine ⟨⟨_, rfl, (HD2.out.keep (hk3.trans hk4)).mono (fun k hk => Nu.mono (by omega) (Nat.le_trans hk3.1 hk4.1) hk)⟩, hx3.setRow _ _ (Nat.le_refl _)⟩

/-! ### Paths -/
theorem sort_any {w : World} {base : Nat} {v : Value} {ss : List B8} (hown : w.ownsRow base 9 1 v ss.length (ss.map S8)) (hl : ss.length ≤ 1000000) :
    Calls Tryz.prog 119 #[v] w fun e w' => e = .returned (.tuple #[]) ∧ w'.ownsRow base 9 1 v ss.length ((ss.mergeSort Go.leB).map S8) ∧ w.grownBy w' v.ownBlock := by
  rcases hown.2 with ⟨rfl, h0⟩ | ⟨g, cap, cur, rfl, hbase, hb, h1, h2, h3, h4⟩
  · have hs : ss = [] := List.eq_nil_of_length_eq_zero (by simpa using h0)
    subst hs
    exact (Tryz.slices_Sort_string_none none 0 w).mono fun e w' ⟨he, hw⟩ => ⟨he, by rw [hw, List.mergeSort_nil]; exact hown, by rw [hw]; exact ⟨rfl, rfl, rfl, Nat.le_refl _, fun _ _ _ => rfl⟩⟩
  · refine (Tryz.slices_Sort_string g 0 cap ss w (holds_of_block hb (by simpa using h4)) (Array.getElem?_eq_some_iff.1 hb).1 (by omega)).mono fun e w' ⟨he, n, os, hw⟩ => ⟨he, ?_, ?_⟩
    · rw [hw]
      exact ownsRow_sorted (by simp) hbase hb h1 h2 h3
    · rw [hw]
      exact grownBy_sorted _

theorem paths_sorted {l : Files} (h : Rising l) : (pathsL l).mergeSort Go.leB = pathsL l := by
  have tr : ∀ a b c : B8, Go.leB a b = true → Go.leB b c = true → Go.leB a c = true := fun a b c h1 h2 => by simp only [Go.leB, decide_eq_true_eq] at *; exact List.le_trans h1 h2
  have tot : ∀ a b : B8, (Go.leB a b || Go.leB b a) = true := fun a b => by simp only [Go.leB, Bool.or_eq_true, decide_eq_true_eq]; exact List.le_total a b
  refine List.Perm.eq_of_pairwise (le := fun a b => Go.leB a b = true) (fun a b _ _ h1 h2 => ?_) (List.pairwise_mergeSort tr tot _) ?_ (List.mergeSort_perm _ _)
  · simp only [Go.leB, decide_eq_true_eq] at h1 h2
    exact List.le_antisymm h1 h2
  · unfold pathsL
    refine List.pairwise_map.2 (h.imp fun {a b} hab => ?_)
    simp only [Go.leB, decide_eq_true_eq]
    exact List.le_of_lt (by simpa [ltB] using hab)

set_option maxRecDepth 100000 in
set_option maxHeartbeats 2000000 in
theorem paths_any {S O R : Nat → Prop} {w : World} {p : Value} {m : Fs} (h : IsFs S O R w p m) (hl : m.now.length ≤ 1000000) :
    Calls Tryz.prog 43 #[p] w fun e w' => (∃ v, e = .returned v ∧ w'.ownsRow w.heap.size 9 1 v m.now.length ((pathsL m.now).map S8)) ∧ Ext w w' := by
  obtain ⟨g, gm, gd, vp, vl, vu, L, c0, rfl, hg, -, hP, -⟩ := h
  obtain ⟨h1, h0, sl, hown, hd⟩ := hP.now
  have hsd := IsFiles.sliced hd
  obtain ⟨d0, d1, d2, d3, d4, d5, d6, d7, d8⟩ := cellsAt9 hg
  have hbl := hown.lt
  have HS : Hid _ := hsd
  have HR : Hid _ := h1
  have hall := leftF_all sl h1
  have HA : Hid _ := hall
  have HSO : Hid _ := paths_sorted h1
  clear hsd h1 hd hall h0 hg hP d0 d2 d3 d4 d5 d6 d7 d8
  go_enter Tryz.func43, Tryz.ntmps43
  go_wp2_with (first
    | (at_range; refine wpList_range_own _ rfl _ 99 rfl 9 76 K_str Tryz.underlying99 _ gm _ _ rfl hown ?_; intro w0 hrg0 hg0 hs0)
    | go_in)
  go_frame
  go_loopw [3] (fun sv wr => ∃ (left : Lit → Bool) (cnt : Nat) (C : List B8), wr.ranges Tryz.prog 9 elemV gm w.heap.size m.now.length (dat sl m.now) left cnt ∧ wr.ownsRow w.heap.size 9 1 sv C.length (C.map S8) ∧ (C ++ pathsL (leftF left m.now)).Perm (pathsL m.now) ∧ Ext w wr)
    (fun _ wr => wr.rangeLeft gm w.heap.size)
  case atStart => exact ⟨_, _, [], hrg0, World.ownsRow_nil _ _ _ _, by rw [HA.out]; exact List.Perm.refl _, Below.grown (Below.refl _ _) hg0 (Nat.le_refl _) (fun j hj => by cases hj)⟩
  case round =>
    obtain ⟨left, cnt, C, hrg, hown, hpm, hx⟩ := hrel
    have HPM : Hid _ := hpm
    have hCl : C.length ≤ m.now.length := by
      have := hpm.length_eq
      simp only [List.length_append, pathsL, List.length_map] at this
      omega
    have HOW : Hid _ := hown
    clear hpm hown
    go_wp2_with (at_next; refine next_files rfl _ rfl gm w.heap.size _ sl m.now _ _ rfl hrg HS.out ?_ ?_)
    · intro hc0 hl0
      have hpe : C.Perm (pathsL m.now) := by
        have := HPM.out
        rw [leftF_none hl0] at this
        simpa [pathsL] using this
      have hms : C.mergeSort Go.leB = pathsL m.now := (Go.mergeSort_of_perm hpe).trans HSO.out
      have hle : C.length = m.now.length := by have := hpe.length_eq; simpa [pathsL] using this
      have HMS : Hid _ := hms
      have HLE : Hid _ := hle
      clear hl0 hpe hms hle
      go_wp2_with (go_at_call 119; go_must (refine (sort_any HOW.out (by omega)).mono ?_; rintro e w5 ⟨rfl, ho5, hg5⟩))
      go_ret
      rw [HMS.out, HLE.out] at ho5
      exact ⟨⟨_, rfl, ho5⟩, Below.grown hx hg5 hx.size (fun q hq => (World.ownsRow.lt HOW.out q hq).1)⟩
    · intro q f ad c w1 cnt1 hlk hsl hlx hat hrg1 hlt hg1 hs1 hen
      have hst := strike_perm (f := f) hlx HR.out hlk
      have hpm1 : ((C ++ [q]) ++ pathsL (leftF (strike left q) m.now)).Perm (pathsL m.now) := by
        refine List.Perm.trans ?_ HPM.out
        rw [List.append_assoc]
        refine List.Perm.append_left C ?_
        exact (List.Perm.map Prod.fst hst).symm
      have HM : Hid _ := hpm1
      have hne := row_ne_iter HOW.out hrg
      have hown1 := World.ownsRow.kept HOW.out hg1 (.inr hne.symm)
      have hx1 : Ext w w1 := Below.grown hx hg1 hx.size (fun j hj => by cases hj; exact Nat.le_refl _)
      have hxa : Ext w1 (w1.alloc (.cells #[S8 q] 9)) := (Ext.refl _).alloc _
      have hown2 := owns_ext hown1 hxa
      have hx2 := hx1.trans hxa
      have hsz : w.heap.size ≤ (w1.alloc (.cells #[S8 q] 9)).heap.size := hx2.size
      have hrg2 := hrg1.alloc (.cells #[S8 q] 9)
      have HNE2 : Hid _ := row_ne_iter hown2 hrg2
      have HLOW : Hid _ := row_ne_low hown2 hbl
      clear hlk hsl hat hst hpm1 hlx hne hown1 hx1 hxa hs1
      go_wp2_with (at_builtin; go_must (refine app_str rfl _ _ rfl w.heap.size _ C.length C rfl hown2 w1.heap.size 1 1 [q] rfl rfl (alloc_at _ _) (by omega) hsz ?_); intro v' w3 hown3 hgr3)
      go_roundw
      case rel => exact ⟨_, cnt1, C ++ [q], hrg2.kept hgr3 HLOW.out HNE2.out, by rw [List.length_append]; exact hown3, HM.out, Below.grown hx2 hgr3 hx2.size (fun j hj => (hown2.lt j hj).1)⟩
      case measure => rw [(hrg2.kept hgr3 HLOW.out HNE2.out).left_eq, hrg.left_eq]; exact hlt

end Go.Proofs.YtfimfbdlegookaaGreatDoor

/-! fsim.FS: List, Read. Conditions: what holds of a file system at all times; short paths. -/
namespace Go.Proofs.YtfimfbdlegookaaGreatDoor
open Go Go.RowKit Go.Sort Go.Shelf

set_option maxRecDepth 100000 in
theorem under_gives (dir x : B8) (B : Nat) (W : World) (hd : dir.length ≤ 1000000) (hc : W.cell? ⟨B, 0, none⟩ = some (S8 dir)) :
    FnGives Tryz.prog 151 #[.pointer (some ⟨B, 0, none⟩)] #[S8 x] (.bool (!isUnder dir x)) W := by
  show Calls Tryz.prog 151 #[S8 x, .pointer (some ⟨B, 0, none⟩)] W _
  have hu : (dir ++ [47]).isPrefixOf x = isUnder dir x := rfl
  obtain ⟨u, hue⟩ : ∃ u, isUnder dir x = u := ⟨_, rfl⟩
  have HU : Hid _ := hu.trans hue
  rw [hue]
  clear hu hue
  go_enter Tryz.func151, Tryz.ntmps151
  go_wp2_with (go_at_call 67; go_must (refine (prefix_any _ _ _).mono ?_; rw [und_str, show (⟨x.toArray⟩ : ByteArray).data.toList = x from rfl, HU.out]; rintro e w' ⟨rfl, rfl⟩))
  go_ret
  exact ⟨rfl, 0, rfl⟩

theorem putRow_grown {w : World} {g n : Nat} (d : Array B8) : w.grownBy (putRow encStr (Sort.ahead w n) g 0 d) (some g) := by
  refine ⟨rfl, rfl, rfl, by simp [Sort.ahead], fun k hk hne => ?_⟩
  have : g ≠ k := fun e => hne (by rw [e])
  simp [putRow, mapBlock, Sort.ahead, Array.getElem?_modify, this]

set_option maxRecDepth 100000 in
theorem index_nil (f : Value) (w : World) :
    Calls Tryz.prog 187 #[.slice none 0 0, f] w fun e w' => e = .returned (.int .i64 (-1)) ∧ w' = w := by
  go_enter Tryz.func187, Tryz.ntmps187
  go_wp2
  go_loop [8] (fun i => i = .int .i64 0) (fun _ => 0)
  case atStart => rfl
  case round =>
    subst hrel
    go_wp2
    go_ret
    exact ⟨rfl, rfl⟩
set_option maxRecDepth 100000 in
theorem delFn_nil (f : Value) (w : World) :
    Calls Tryz.prog 150 #[.slice none 0 0, f] w fun e w' => e = .returned (.slice none 0 0) ∧ w' = w := by
  go_enter Tryz.func150, Tryz.ntmps150
  go_wp2_with (go_at_call 187; go_must (refine (index_nil _ _).mono ?_; rintro e w' ⟨rfl, rfl⟩))
  go_ret
  exact ⟨rfl, rfl⟩

/-- The paths under one: of a slice of the call's own. -/
theorem delFn_any (dir : B8) (B : Nat) {w : World} {base : Nat} {v : Value} {ss : List B8} (hd : dir.length ≤ 1000000) (hc : w.cell? ⟨B, 0, none⟩ = some (S8 dir)) (hB : B < base) (hown : w.ownsRow base 9 1 v ss.length (ss.map S8)) (hl : ss.length ≤ 1000000) :
    Calls Tryz.prog 150 #[v, .func (.func 151) #[] #[.pointer (some ⟨B, 0, none⟩)]] w fun e w' => (∃ v', e = .returned v' ∧ IsStrs w' v' (ss.filter (isUnder dir)) ∧ ∀ k, v'.ownBlock = some k → base ≤ k) ∧ w.grownBy w' v.ownBlock := by
  rcases hown.2 with ⟨rfl, h0⟩ | ⟨g, cap, cur, rfl, hbase, hb, h1, h2, h3, h4⟩
  · have hs : ss = [] := List.eq_nil_of_length_eq_zero (by simpa using h0)
    subst hs
    exact (delFn_nil _ w).mono fun e w' ⟨he, hw⟩ => ⟨⟨_, he, by rw [hw]; exact IsStrs.nil w, fun k hk => by simp [Value.ownBlock] at hk⟩, by rw [hw]; exact ⟨rfl, rfl, rfl, Nat.le_refl _, fun _ _ _ => rfl⟩⟩
  · have hH := holds_of_block hb (by simpa using h4)
    have eg : ∀ args w, (callFunc 151 args).run Tryz.prog w = .ok (.enter 151 args) w := enters_of Tryz.func151 (by kernel_rfl) rfl
    have hBl : B < w.heap.size := World.block_lt_of_cell? _ _ hc
    have hne : B ≠ g := by omega
    have hp : PredAt Tryz.prog 151 #[.pointer (some ⟨B, 0, none⟩)] encStr (fun x => !isUnder dir x) w := fun W x hb => under_gives dir x B W hd ((hb.cell (p := ⟨B, 0, none⟩) hBl).trans hc)
    have hpo : PredOver Tryz.prog 151 #[.pointer (some ⟨B, 0, none⟩)] encStr (fun x => !isUnder dir x) g 0 ss.toArray.size w := fun n os dk x _ => under_gives dir x B _ hd (by
      unfold sortWorld
      rw [cell?_grow _ _ _ (by show B < (putRow _ _ _ _ _).heap.size; rw [size_putRow]; exact hBl), cell?_putRow_other _ _ g 0 _ _ (Or.inl hne)]
      exact hc)
    have hcon := AnyE.slices_DeleteFunc Tryz.laysDel encStr (fun _ => rfl) (fun x => !isUnder dir x) 151 #[.pointer (some ⟨B, 0, none⟩)] eg [] Tryz.zeroValue9 g 0 cap ss.toArray w hp hpo hH (by simp; omega) (by simpa using h1)
    have hfe : (ss.toArray.toList.filter fun x => !(fun x => !isUnder dir x) x) = ss.filter (isUnder dir) := by simp
    rw [hfe, show ss.toArray.size = ss.length from rfl] at hcon
    refine Calls.mono hcon fun e w' ⟨he, q, hw⟩ => ⟨⟨_, he, ?_, fun k hk => ?_⟩, ?_⟩
    · have hle : (ss.filter (isUnder dir)).length ≤ ss.length := List.length_filter_le _ _
      refine ⟨_, cap, rfl, by omega, by unfold maxLen at h2; omega, by omega, fun _ => ⟨g, 0, rfl, fun i u hu => ?_⟩⟩
      obtain ⟨x, hx, rfl⟩ := (by simpa [List.getElem?_map] using hu : ∃ x, (ss.filter (isUnder dir))[i]? = some x ∧ S8 x = u)
      have hi := (List.getElem?_eq_some_iff.1 hx).1
      rw [hw]
      have hH2 : Holds encStr (Sort.ahead w q) g 0 ss.toArray := hH
      rw [cell?_putRow encStr (Sort.ahead w q) g 0 ss.toArray _ hH2 (by simp; omega) i (by simp; omega)]
      congr 1
      have : ((ss.filter (isUnder dir)) ++ List.replicate (ss.length - (ss.filter (isUnder dir)).length) [])[i]? = some x := by rw [List.getElem?_append_left hi]; exact hx
      simp [this]
    · have : g = k := by simpa [Value.ownBlock] using hk
      omega
    · rw [hw]; exact putRow_grown _

end Go.Proofs.YtfimfbdlegookaaGreatDoor

/-! fsim.FS: List, Read. Conditions: what holds of a file system at all times; short paths. -/
namespace Go.Proofs.YtfimfbdlegookaaGreatDoor
open Go Go.RowKit

theorem FsIn.ext {S O R : Nat → Prop} {w wx : World} {p : Value} {m : Fs} (h : FsIn S O R w p m) (hx : Ext w wx) : FsIn S O R wx p m :=
  ⟨h.env.ext hx, h.fs.ext hx, h.ok, h.plan, h.time, h.calls, h.noG, fun k hk => ⟨(h.apart k hk).1, Nat.lt_of_lt_of_le (h.apart k hk).2 hx.size⟩, fun k hk => Nat.lt_of_lt_of_le (h.low k hk) hx.size, h.room0, h.room1⟩
theorem FsPost.cell {S O R : Nat → Prop} {w w1 : World} {p : Value} {m1 : Fs} (h : FsPost S O R w p m1 w1) {b o : Nat} {v : Value} (hc : w.cell? ⟨b, o, none⟩ = some v) (hb : ¬ O b) : w1.cell? ⟨b, o, none⟩ = some v := by
  rw [World.cell?_of_block (w := w) (w' := w1) (a := ⟨b, o, none⟩) (h.fr.block b (World.block_lt_of_cell? _ _ hc) (.inl hb))]
  exact hc
theorem FsPost.row {S O R : Nat → Prop} {w w1 : World} {p : Value} {m1 : Fs} (h : FsPost S O R w p m1 w1) {b : Nat} {o : Obj} (hc : w.heap[b]? = some o) (hb : ¬ O b) : w1.heap[b]? = some o := h.fr.row hc hb
theorem strs_owned {w : World} {base : Nat} {v : Value} {L : List B8} {n : Nat} (h : w.ownsRow base 9 1 v n (L.map S8)) (hn : n = L.length) (hl : n ≤ 1000000) : IsStrs w v L := by
  subst hn
  exact Row.of_owns h (by omega)

set_option maxRecDepth 100000 in
set_option maxHeartbeats 4000000 in
theorem list_any {S O R : Nat → Prop} {w : World} {p : Value} {m : Fs} (dir : B8) (h : FsIn S O R w p m) (hp : dir.length ≤ 400) :
    Calls Tryz.prog 70 #[p, S8 dir] w fun e w' => (∃ v, e = .returned (.tuple #[v, .int .i64 (listM m dir).2.2]) ∧ IsStrs w' v (listM m dir).2.1 ∧ ∀ k, v.ownBlock = some k → w.heap.size ≤ k) ∧ FsPost S O R w p (listM m dir).1 w' := by
  obtain ⟨m1, full, er, hcm⟩ : ∃ m1 full er, callM m = (m1, full, er) := ⟨_, _, _, rfl⟩
  have hcl := call_left h.ok h.plan
  rw [hcm] at hcl
  have hdef : listM m dir = if er ≠ 0 then (m1, [], er) else if dir = [] then (m1, pathsL m1.now, 0) else if pathB dir = false then (m1, [], 6) else (m1, (pathsL m1.now).filter (isUnder dir), 0) := by unfold listM; rw [hcm]
  have HDEF : Hid _ := hdef
  have HCM : Hid _ := hcm
  have HCL : Hid _ := hcl
  have htm := h.time
  have hcs := h.calls
  obtain ⟨wa, hwa⟩ : ∃ wa, wa = w.alloc (.cells #[S8 dir] 9) := ⟨_, rfl⟩
  have hxa : Ext w wa := by rw [hwa]; exact (Ext.refl _).alloc _
  have hba : wa.cell? ⟨w.heap.size, 0, none⟩ = some (S8 dir) := by rw [hwa]; exact (cell_of_row _ _ 0 _ _ _ (alloc_at w _)).trans rfl
  have hsa : w.heap.size < wa.heap.size := by rw [hwa]; simp
  have HNO : Hid (¬ O w.heap.size) := fun ho => by have := h.low _ ho; omega
  have HI : Hid _ := h.ext hxa
  have HWA : Hid _ := hwa
  have HXA : Hid _ := hxa
  have htd : (⟨dir.toArray⟩ : ByteArray).toList = dir := Lib.toList_data _
  clear hdef hcm hcl h hwa hxa
  go_enter Tryz.func70, Tryz.ntmps70
  go_wp2_with fail
  rw [show w.alloc (.cells #[S8 dir] 9) = wa from HWA.out.symm]
  go_at_call 144
  refine (call_any HI.out.env HI.out.fs HI.out.ok HI.out.plan (by omega) (by omega) HI.out.noG HI.out.apart).mono ?_
  rw [HCM.out]
  rintro e w1 ⟨rfl, h1⟩
  have H1 : Hid (FsPost S O R wa p m1 w1) := h1
  have H0 : Hid (FsPost S O R w p m1 w1) := FsPost.pre HXA.out h1
  have hb1 := h1.cell hba HNO.out
  have hln : m1.now.length ≤ 1000000 := by
    have h1 : OkM m1 := HCL.out.1.ok
    have h2 : m1.time ≤ m.time + 1000 := HCL.out.1.time
    have := h1.lnow
    omega
  have hpl : (pathsL m1.now).length = m1.now.length := by simp [pathsL]
  have HPL : Hid _ := hpl
  have hs1 : wa.heap.size ≤ w1.heap.size := h1.fr.size
  clear h1 hba hpl
  by_cases her : er = 0
  · subst her
    by_cases hd0 : dir = []
    · subst hd0
      have HDD : Hid (listM m [] = (m1, pathsL m1.now, 0)) := HDEF.out
      clear HDEF
      go_wp2_with (go_at_call 43; go_must (refine (paths_any H1.out.fs hln).mono ?_; rintro e w2 ⟨⟨v, rfl, hv⟩, hx2⟩))
      go_ret2
      rw [HDD.out]
      exact ⟨⟨_, rfl, strs_owned hv HPL.out.symm hln, fun k hk => by have := (World.ownsRow.lt hv k hk).1; omega⟩, H0.out.ext hx2⟩
    · have hde : dir.isEmpty = false := by cases dir <;> simp_all
      have hdb : (dir == []) = false := by simpa using hd0
      have HD0 : Hid _ := hd0
      obtain ⟨pd, hpd⟩ : ∃ pd, pathB dir = pd := ⟨_, rfl⟩
      have HPD : Hid _ := hpd
      rw [hpd, if_neg (by simp), if_neg hd0] at HDEF
      clear hpd
      go_wp2_with fail
      go_at_call 66
      refine (path_l dir _ (HI.out.env1 H1.out) (by omega)).mono ?_
      rw [HPD.out]
      rintro e w2 ⟨rfl, hx2⟩
      have hb2 := hx2.cell hb1
      have H2 : Hid _ := H1.out.ext hx2
      have H02 : Hid _ := H0.out.ext hx2
      have hs2 := hx2.size
      cases pd with
      | false =>
        have HDD : Hid (listM m dir = (m1, [], 6)) := HDEF.out
        clear HDEF hx2
        go_wp2
        go_ret2
        rw [HDD.out]
        exact ⟨⟨_, rfl, IsStrs.nil _, fun k hk => by simp [Value.ownBlock] at hk⟩, H02.out⟩
      | true =>
        have HDD : Hid (listM m dir = (m1, (pathsL m1.now).filter (isUnder dir), 0)) := HDEF.out
        clear HDEF hx2
        go_wp2_with (first
          | (go_at_call 43; go_must (refine (paths_any H2.out.fs hln).mono ?_; rintro e w3 ⟨⟨v, rfl, hv⟩, hx3⟩; rw [← HPL.out] at hv; have hb3 := hx3.cell hb2; have HV : Hid _ := hv; clear hv))
          | (go_at_call 150; go_must (refine (delFn_any dir w.heap.size (by omega) hb3 (by omega) HV.out (by rw [HPL.out]; exact hln)).mono ?_; rintro e w4 ⟨⟨v4, rfl, hv4, hi4⟩, hg4⟩)))
        go_ret2
        rw [HDD.out]
        have hx24 : Ext w2 w4 := Below.grown hx3 hg4 hx3.size (fun q hq => (World.ownsRow.lt HV.out q hq).1)
        exact ⟨⟨_, rfl, hv4, fun k hk => by have := hi4 k hk; omega⟩, H02.out.ext hx24⟩
  · have hb : (er == 0) = false := by simpa using her
    have hb' : (er != 0) = true := by simpa using her
    have HDD : Hid (listM m dir = (m1, [], er)) := by unfold Hid; rw [HDEF.out]; simp [her]
    clear her HDEF
    go_wp2
    go_ret2
    rw [HDD.out]
    exact ⟨⟨_, rfl, IsStrs.nil _, fun k hk => by simp [Value.ownBlock] at hk⟩, H0.out⟩

/-- A row of a file that is written into a block of the call's own: the file system stands. -/
theorem readBlock {S O R : Nat → Prop} {w w1 : World} {p : Value} {m1 : Fs} {g : Nat} {cs cur : Array Value} (h : FsPost S O R w p m1 w1) (hb : w1.heap[g]? = some (.cells cur 76 (0, 0))) (hg : g = w.heap.size) : FsPost S O R w p m1 (w1.setRow g cs) := by
  subst hg
  have hgr := setRow_grown w1 w.heap.size cs
  obtain ⟨g, gm, gd, vp, vl, vu, L, c0, rfl, hg, hO, hP, hpl, hc0⟩ := h.fs
  have hne := apart_kind hg hb (by simp)
  obtain ⟨e1, c1, k1⟩ := hP.now.kind
  obtain ⟨e2, c2, k2⟩ := hP.sure.kind
  have ne : ∀ k, (∃ x, w1.heap[k]? = some x ∧ ∀ cs fr, x ≠ Obj.cells cs 76 fr) → (w1.setRow w.heap.size cs).heap[k]? = w1.heap[k]? := fun k ⟨x, hx, hn⟩ => hgr.block k (Array.getElem?_eq_some_iff.1 hx).1 (fun heq => by
    simp only [Option.some.injEq] at heq
    subst heq
    rw [hb] at hx
    exact hn cur (0, 0) (Option.some.inj hx).symm)
  have hP2 := hP.stay (ne _ ⟨_, k1, by simp⟩) (ne _ ⟨_, k2, by simp⟩) (fun k hv => by obtain ⟨xs, f, hx⟩ := hP.pend.typed k hv; exact ne k ⟨_, hx, by simp⟩) (fun k hv => by obtain ⟨xs, f, hx⟩ := hP.plan.typed k hv; exact ne k ⟨_, hx, by simp⟩) (fun k hv => by obtain ⟨xs, f, hx⟩ := hP.users.typed k hv; exact ne k ⟨_, hx, by simp⟩) (grownR hgr (by rintro k hk; cases hk; exact cells_u8 hb (by kernel_rfl)))
  have hsz : (w1.setRow w.heap.size cs).heap.size = w1.heap.size := by simp [World.setRow]
  have hmo : ∀ (Q : Nat → Prop) k, Nw Q w w1 k → Nw Q w (w1.setRow w.heap.size cs) k := fun Q k hk => hk.imp id (fun h => ⟨h.1, by rw [hsz]; exact h.2⟩)
  refine ⟨IsFs.mono ⟨g, gm, gd, vp, vl, vu, L, c0, rfl, (ne g ⟨_, hg, by simp⟩).trans hg, hO, hP2, hpl, hc0⟩ (hmo O) (hmo R), h.fr.step hgr (fun k hk => by cases hk; exact .inr (Nat.le_refl _)) (by rintro k hk; cases hk; exact cells_u8 hb (by kernel_rfl))⟩

set_option maxRecDepth 100000 in
set_option maxHeartbeats 4000000 in
theorem read_any {S O R : Nat → Prop} {w : World} {p : Value} {m : Fs} (path : B8) (h : FsIn S O R w p m) (hp : path.length ≤ 400) :
    Calls Tryz.prog 68 #[p, S8 path] w fun e w' => (∃ v, e = .returned (.tuple #[fiV (readM m path).2.1 v, .int .i64 (readM m path).2.2]) ∧ IsData (Nu w w') w' v (readM m path).2.1.data) ∧ FsPost S O R w p (readM m path).1 w' := by
  obtain ⟨m1, full, er, hcm⟩ : ∃ m1 full er, callM m = (m1, full, er) := ⟨_, _, _, rfl⟩
  have hcl := call_left h.ok h.plan
  rw [hcm] at hcl
  have hdef : readM m path = if er ≠ 0 then (m1, zeroFi, er) else if pathB path = false then (m1, zeroFi, 6) else match look m1.now path with | some f => (m1, f, 0) | none => (m1, zeroFi, 7) := by
    unfold readM
    rw [hcm]
    all_goals (dsimp only; cases look m1.now path <;> rfl)
  have HDEF : Hid _ := hdef
  have HCM : Hid _ := hcm
  have HCL : Hid _ := hcl
  have htm := h.time
  have hcs := h.calls
  obtain ⟨wa, hwa⟩ : ∃ wa, wa = w.alloc (.cells #[.int .i64 0, .slice none 0 0, .int .i64 0] 76) := ⟨_, rfl⟩
  have hxa : Ext w wa := by rw [hwa]; exact (Ext.refl _).alloc _
  have hba : wa.heap[w.heap.size]? = some (.cells #[.int .i64 0, .slice none 0 0, .int .i64 0] 76 (0, 0)) := by rw [hwa]; exact alloc_at w _
  have hsa : w.heap.size < wa.heap.size := by rw [hwa]; simp
  have HNO : Hid (¬ O w.heap.size) := fun ho => by have := h.low _ ho; omega
  have HI : Hid _ := h.ext hxa
  have HWA : Hid _ := hwa
  have HXA : Hid _ := hxa
  clear hdef hcm hcl h hwa hxa
  go_enter Tryz.func68, Tryz.ntmps68
  go_wp2_with fail
  rw [show w.alloc (.cells #[.int .i64 0, .slice none 0 0, .int .i64 0] 76) = wa from HWA.out.symm]
  go_at_call 144
  refine (call_any HI.out.env HI.out.fs HI.out.ok HI.out.plan (by omega) (by omega) HI.out.noG HI.out.apart).mono ?_
  rw [HCM.out]
  rintro e w1 ⟨rfl, h1⟩
  have H1 : Hid (FsPost S O R wa p m1 w1) := h1
  have H0 : Hid (FsPost S O R w p m1 w1) := FsPost.pre HXA.out h1
  have hb1 := h1.row hba HNO.out
  have hs1 : wa.heap.size ≤ w1.heap.size := h1.fr.size
  clear h1 hba
  by_cases her : er = 0
  · subst her
    obtain ⟨pd, hpd⟩ : ∃ pd, pathB path = pd := ⟨_, rfl⟩
    have HPD : Hid _ := hpd
    rw [hpd, if_neg (by simp)] at HDEF
    clear hpd
    go_wp2_with fail
    go_at_call 66
    refine (path_l path _ (HI.out.env1 H1.out) (by omega)).mono ?_
    rw [HPD.out]
    rintro e w2 ⟨rfl, hx2⟩
    have hb2 := hx2.row hb1
    have H2 : Hid _ := H1.out.ext hx2
    have H02 : Hid _ := H0.out.ext hx2
    have hs2 := hx2.size
    cases pd with
    | false =>
      have HDD : Hid (readM m path = (m1, zeroFi, 6)) := HDEF.out
      clear HDEF hx2
      go_wp2_with (refine wpList_store_row rfl 76 (.tmp 4) (.tmp 22) rfl w.heap.size #[.int .i64 0, .slice none 0 0, .int .i64 0] rfl rfl 76 _ hb2 size_fi rfl (by simp [Value.oneCell']) ?_)
      refine bodyPost_ret (results_row_tmp rfl _ _ w.heap.size 76 #[.int .i64 0, .slice none 0 0, .int .i64 0] (0, 0) _ (.int .i64 6) rfl rfl (setRow_heap _ _ _ _ _ _ hb2) Tryz.underlying76 size_fi) rfl ?_
      rw [HDD.out]
      exact ⟨⟨_, rfl, IsData.nil _ _⟩, readBlock H02.out hb2 rfl⟩
    | true =>
      have HDE : Hid (readM m path = (m1, (peekM m1 path).1, if (peekM m1 path).2 then 0 else 7)) := by
        unfold Hid peekM
        rw [HDEF.out, if_neg (by simp)]
        cases look m1.now path <;> rfl
      have HZ : Hid ((peekM m1 path).2 = false → (peekM m1 path).1 = zeroFi) := by
        unfold Hid peekM
        cases look m1.now path <;> simp
      obtain ⟨fi, ok, hpk⟩ : ∃ fi ok, peekM m1 path = (fi, ok) := ⟨_, _, rfl⟩
      have HPK : Hid _ := hpk
      rw [hpk] at HDE HZ
      clear HDEF hx2 hpk
      go_wp2_with fail
      go_at_call 42
      refine (peek_any path H2.out.fs (by omega)).mono ?_
      rw [HPK.out]
      rintro e w3 ⟨⟨v, rfl, hv⟩, hx3⟩
      obtain ⟨c1, c2, rfl, -⟩ := id hv.bytes
      have hb3 := hx3.row hb2
      have HV : Hid _ := hv
      have H03 : Hid _ := H02.out.ext hx3
      have hs3 := hx3.size
      have hx4 : Ext w3 (w3.alloc (.cells #[.int .i64 fi.mode, .slice c1 fi.data.length c2, .int .i64 fi.time] 76)) := (Ext.refl _).alloc _
      have hb4 := hx4.row hb3
      have hbv := alloc_at w3 (.cells #[.int .i64 fi.mode, .slice c1 fi.data.length c2, .int .i64 fi.time] 76)
      have H04 : Hid _ := H03.out.ext hx4
      have HX4 : Hid _ := hx4
      clear hv hx3 hx4
      cases ok with
      | false =>
        have hfz : fi = zeroFi := HZ.out rfl
        subst hfz
        have HDD : Hid (readM m path = (m1, zeroFi, 7)) := HDE.out
        clear HDE HZ
        go_wp2_with (refine wpList_store_row rfl 76 (.tmp 4) (.tmp 31) rfl w.heap.size #[.int .i64 0, .slice none 0 0, .int .i64 0] rfl rfl 76 _ hb4 size_fi rfl (by simp [Value.oneCell']) ?_)
        refine bodyPost_ret (results_row_tmp rfl _ _ w.heap.size 76 #[.int .i64 0, .slice none 0 0, .int .i64 0] (0, 0) _ (.int .i64 7) rfl rfl (setRow_heap _ _ _ _ _ _ hb4) Tryz.underlying76 size_fi) rfl ?_
        rw [HDD.out]
        exact ⟨⟨_, rfl, IsData.nil _ _⟩, readBlock H04.out hb4 rfl⟩
      | true =>
        have HDD : Hid (readM m path = (m1, fi, 0)) := HDE.out
        clear HDE HZ
        go_wp2_with (first
          | (refine wpList_load_row rfl 76 (.tmp 8) rfl w3.heap.size rfl 76 _ (0, 0) _ hbv Tryz.underlying76 rfl size_fi ?_)
          | (refine wpList_store_row rfl 76 (.tmp 4) (.tmp 32) rfl w.heap.size #[.int .i64 fi.mode, .slice c1 fi.data.length c2, .int .i64 fi.time] rfl rfl 76 _ hb4 size_fi rfl (by simp [Value.oneCell']) ?_))
        refine bodyPost_ret (results_row_tmp rfl _ _ w.heap.size 76 #[.int .i64 fi.mode, .slice c1 fi.data.length c2, .int .i64 fi.time] (0, 0) _ (.int .i64 0) rfl rfl (setRow_heap _ _ _ _ _ _ hb4) Tryz.underlying76 size_fi) rfl ?_
        rw [HDD.out]
        have hk4 : KeepB w3 _ := (KeepB.of_ext HX4.out).trans (KeepB.of_grown (setRow_grown _ w.heap.size #[.int .i64 fi.mode, .slice c1 fi.data.length c2, .int .i64 fi.time]) hb4 (by kernel_rfl))
        exact ⟨⟨_, rfl, (HV.out.keep hk4).mono (fun k hk => Nu.mono (by omega) hk4.1 hk)⟩, readBlock H04.out hb4 rfl⟩
  · have hb : (er == 0) = false := by simpa using her
    have hb' : (er != 0) = true := by simpa using her
    have HDD : Hid (readM m path = (m1, zeroFi, er)) := by unfold Hid; rw [HDEF.out]; simp [her]
    clear her HDEF
    go_wp2_with (refine wpList_store_row rfl 76 (.tmp 4) (.tmp 17) rfl w.heap.size #[.int .i64 0, .slice none 0 0, .int .i64 0] rfl rfl 76 _ hb1 size_fi rfl (by simp [Value.oneCell']) ?_)
    refine bodyPost_ret (results_row_tmp rfl _ _ w.heap.size 76 #[.int .i64 0, .slice none 0 0, .int .i64 0] (0, 0) _ (.int .i64 er) rfl rfl (setRow_heap _ _ _ _ _ _ hb1) Tryz.underlying76 size_fi) rfl ?_
    rw [HDD.out]
    exact ⟨⟨_, rfl, IsData.nil _ _⟩, readBlock H0.out hb1 rfl⟩

end Go.Proofs.YtfimfbdlegookaaGreatDoor

/-! slices.Clone at events and changes; fsim.copiedEvents; Plan, User. Conditions: at most 1000000 elements. -/
namespace Go.Proofs.YtfimfbdlegookaaGreatDoor
open Go Go.RowKit

theorem owns_empty {w : World} {e : TypeId} {size : Nat} : (w.alloc (.cells #[] e)).ownsRow w.heap.size e size (.slice (some ⟨w.heap.size, 0, none⟩) 0 0) 0 [] :=
  ⟨by simp, .inr ⟨w.heap.size, 0, #[], rfl, Nat.le_refl _, alloc_at _ _, Nat.le_refl _, Nat.zero_le _, by simp, by simp⟩⟩
theorem add_at (b o i : Nat) : (⟨b, o, none⟩ : Addr).add i = ⟨b, o + i, none⟩ := by unfold Addr.add; split <;> simp_all


set_option maxRecDepth 100000 in
set_option maxHeartbeats 1000000 in
theorem clone_evs {w : World} {v : Value} {n : Nat} {xs : List Value} (hv : Row w v n xs) (hl : xs.length = n * 7) (h1 : ∀ u ∈ xs, u.oneCell' = true) (hn : n ≤ 1000000) :
    Calls Tryz.prog 153 #[v] w fun e w' => (∃ v', e = .returned v' ∧ w'.ownsRow w.heap.size 53 7 v' n xs) ∧ Ext w w' := by
  obtain ⟨a, cap, rfl, r1, r2, r3, r4⟩ := hv
  have hq : ∀ W : World, (binOp .eql 32 (.slice a n cap) (.slice none 0 0)).run Tryz.prog W = .ok (.bool a.isNone) W := fun W => Go.Lib.run_eql_slice_nil W _ _ a n cap 0 0 Tryz.underlying32
  cases a with
  | none =>
    have hx : xs = [] := by
      cases xs with
      | nil => rfl
      | cons x l => obtain ⟨b, o, he, _⟩ := r4 (by simp); cases he
    subst hx
    have hn0 : n = 0 := by simp at hl; omega
    subst hn0
    go_enter Tryz.func153, Tryz.ntmps153
    go_wp2
    go_ret
    exact ⟨⟨_, rfl, World.ownsRow_nil _ _ _ _⟩, Ext.refl _⟩
  | some ad =>
    have hxa : Ext w (w.alloc (.cells #[] 53)) := (Ext.refl _).alloc _
    have hnews : ∀ j u, xs[j]? = some u → (w.alloc (.cells #[] 53)).cell? (ad.add j) = some u := fun j u hu => by
      obtain ⟨b, o, he, hc⟩ := r4 (by rintro rfl; simp at hu)
      cases he
      rw [add_at]
      exact hxa.cell (hc j u hu)
    have HN : Hid _ := hnews
    have H1 : Hid _ := h1
    have HL : Hid _ := hl
    clear hnews r4 h1 hl
    go_enter Tryz.func153, Tryz.ntmps153
    go_wp2_with (at_builtin; go_must (refine app_any _ _ _ 7 80 Tryz.underlying32 info_ev rfl (by omega) rfl _ _ rfl w.heap.size _ 0 [] rfl owns_empty ad n cap xs rfl HL.out HN.out H1.out (by omega) (by omega) (by simp) ?_); intro v' w2 hown hgr _)
    simp only [Nat.zero_add, List.nil_append] at hown
    have hx2 : Ext w w2 := Below.grown hxa hgr hxa.size (fun k hk => by cases hk; exact Nat.le_refl _)
    go_wp2
    go_ret
    exact ⟨⟨_, rfl, hown⟩, hx2⟩


end Go.Proofs.YtfimfbdlegookaaGreatDoor

/-! fsim.copiedEvents, Plan, User: events copied, with their data. Conditions: at most 100000 events. -/
namespace Go.Proofs.YtfimfbdlegookaaGreatDoor
open Go Go.RowKit

theorem flat_set (m : Nat) : ∀ (css : List (List Value)) (k j : Nat) (c : List Value) (u : Value), (∀ c ∈ css, c.length = m) → css[k]? = some c → j < m → css.flatten.set (m * k + j) u = (css.set k (c.set j u)).flatten
  | [], k, j, c, u, _, hc, _ => by simp at hc
  | d :: css, 0, j, c, u, hl, hc, hj => by
    have : d = c := by simpa using hc
    subst this
    have hd := hl d (by simp)
    simp only [List.flatten_cons, Nat.mul_zero, Nat.zero_add, List.set_cons_zero]
    rw [List.set_append_left _ _ (by omega)]
  | d :: css, k + 1, j, c, u, hl, hc, hj => by
    have hd := hl d (by simp)
    have ih := flat_set m css k j c u (fun c h => hl c (by simp [h])) (by simpa using hc) hj
    simp only [List.flatten_cons, List.set_cons_succ]
    rw [List.set_append_right _ _ (by rw [hd, Nat.mul_add]; omega), hd, show m * (k + 1) + j - m = m * k + j by rw [Nat.mul_add]; omega, ih]

/-- Events that lie in new blocks, data too. -/
def OwnE (base : Nat) (w : World) (v : Value) (L : List Ev) : Prop := ∃ css : List (List Value), w.ownsRow base 53 7 v L.length css.flatten ∧ Each (IsEvR (fun k => base ≤ k ∧ k < w.heap.size) w) css L

/-- An event that is read alone. -/
def IsEvB (w : World) (cs : List Value) (e : Ev) : Prop := ∃ vd, cs = [.int .i64 e.t, .int .i64 e.kind, .int .i64 e.mode, .int .i64 e.keep, .int .i64 e.torn, S8 e.path, vd] ∧ IsBytes w vd e.data ∧ e.path.length ≤ 1000000
theorem IsEvR.read {R : Nat → Prop} {w : World} {cs : List Value} {e : Ev} (h : IsEvR R w cs e) : IsEvB w cs e := by
  obtain ⟨v, h1, h2, h3⟩ := h
  exact ⟨v, h1, h2.bytes, h3⟩
theorem IsEvB.length {w : World} {cs : List Value} {e : Ev} (h : IsEvB w cs e) : cs.length = 7 ∧ cs.all (·.oneCell') = true := by
  obtain ⟨v, rfl, h2, _⟩ := h
  obtain ⟨_, _, rfl, _⟩ := h2
  exact ⟨rfl, by simp [Value.oneCell']⟩
theorem IsEvB.ext {w w' : World} {cs : List Value} {e : Ev} (h : IsEvB w cs e) (hx : Ext w w') : IsEvB w' cs e := by
  obtain ⟨v, h1, h2, h3⟩ := h
  exact ⟨v, h1, h2.ext hx, h3⟩
def ReadB (w : World) (v : Value) (L : List Ev) : Prop := ∃ css : List (List Value), Row w v L.length css.flatten ∧ Each (IsEvB w) css L
theorem ReadB.ext {w w' : World} {v : Value} {L : List Ev} (h : ReadB w v L) (hx : Ext w w') : ReadB w' v L := by
  obtain ⟨css, h1, h2⟩ := h
  exact ⟨css, h1.ext hx, h2.imp (fun c x hc => hc.ext hx)⟩
theorem OwnL.read {R : Nat → Prop} {w : World} {v : Value} {L : List Ev} (h : OwnL w 53 7 (IsEvR R w) v L) (hl : L.length ≤ 1000000) : ReadB w v L := by
  obtain ⟨css, h1, h2⟩ := h
  exact ⟨css, Row.of_owns h1 (by omega), h2.imp (fun c x hc => hc.read)⟩
theorem ReadL.read {R : Nat → Prop} {w : World} {v : Value} {L : List Ev} (h : ReadL w 53 (IsEvR R w) v L) : ReadB w v L := by
  obtain ⟨css, h1, _, h2⟩ := h
  exact ⟨css, h1, h2.imp (fun c x hc => hc.read)⟩

theorem read_cells {w : World} {v : Value} {L : List Ev} (h : ReadB w v L) : ∃ css : List (List Value), Row w v L.length css.flatten ∧ Each (IsEvB w) css L ∧ css.flatten.length = L.length * 7 ∧ (∀ u ∈ css.flatten, u.oneCell' = true) ∧ (∀ c ∈ css, c.length = 7) := by
  obtain ⟨css, h1, h3⟩ := h
  have hc : ∀ c ∈ css, c.length = 7 ∧ c.all (·.oneCell') = true := fun c hm => by
    obtain ⟨i, hi, rfl⟩ := List.mem_iff_getElem.1 hm
    have hi2 : i < L.length := by rw [← h3.1]; exact hi
    exact (h3.2 i css[i] L[i] (List.getElem?_eq_getElem hi) (List.getElem?_eq_getElem hi2)).length
  refine ⟨css, h1, h3, ?_, fun u hu => ?_, fun c hm => (hc c hm).1⟩
  · rw [List.length_flatten, ← h3.1]
    have : ∀ l : List (List Value), (∀ c ∈ l, c.length = 7) → (l.map List.length).sum = l.length * 7 := fun l => by
      induction l with
      | nil => intro _; rfl
      | cons c l ih =>
        intro h
        have h1 := h c (by simp)
        have h2 := ih (fun d hd => h d (by simp [hd]))
        simp only [List.map_cons, List.sum_cons, List.length_cons]
        omega
    exact this css (fun c hm => (hc c hm).1)
  · obtain ⟨c, hm, hu⟩ := List.mem_flatten.1 hu
    exact List.all_eq_true.1 (hc c hm).2 u hu

set_option maxRecDepth 100000 in
set_option maxHeartbeats 4000000 in
theorem copiedEvents_any {w : World} {v : Value} {L : List Ev} (h : ReadB w v L) (hl : L.length ≤ 100000) :
    Calls Tryz.prog 73 #[v] w fun e w' => (∃ v', e = .returned v' ∧ OwnE w.heap.size w' v' L) ∧ Ext w w' := by
  obtain ⟨css0, hrow, heach, hfl, hone, h7⟩ := read_cells h
  obtain ⟨a, cap, rfl, -⟩ := id hrow
  have HC : Hid _ := clone_evs hrow hfl hone (by omega)
  have HE0 : Hid _ := heach
  have H7 : Hid _ := h7
  have hcl := heach.1
  clear h hrow heach hfl hone h7
  go_enter Tryz.func73, Tryz.ntmps73
  go_wp2_with (go_at_call 153; go_must (refine Calls.mono HC.out ?_; rintro e w1 ⟨⟨v1, rfl, hown1⟩, hx1⟩; obtain ⟨a1, cap1, rfl, -⟩ := Row.of_owns hown1 (by omega)))
  go_loopw [8] (fun i wr => ∃ (k : Nat) (css : List (List Value)), k ≤ L.length ∧ i = .int .i64 k ∧ css.length = L.length ∧ (∀ c ∈ css, c.length = 7) ∧ wr.ownsRow w.heap.size 53 7 (.slice a1 L.length cap1) L.length css.flatten ∧
      (∀ (j : Nat) c e, css[j]? = some c → L[j]? = some e → (j < k → IsEvR (fun k => w.heap.size ≤ k ∧ k < wr.heap.size) wr c e) ∧ (k ≤ j → IsEvB w c e)) ∧ Ext w wr) (fun i _ => L.length - (intOf i).toNat)
  case atStart => exact ⟨0, css0, Nat.zero_le _, rfl, hcl, H7.out, hown1, fun j c e hc he => ⟨fun h => absurd h (Nat.not_lt_zero _), fun _ => HE0.out.2 j c e hc he⟩, hx1⟩
  case round =>
    obtain ⟨k, css, hk, rfl, hcl, h7, hown, hall, hx⟩ := hrel
    have HALL : Hid _ := hall
    have H7' : Hid _ := h7
    have HOW : Hid _ := hown
    clear hall h7 hown
    by_cases hlt : k < L.length
    · obtain ⟨e, hke⟩ : ∃ e, L[k]? = some e := ⟨_, List.getElem?_eq_getElem hlt⟩
      obtain ⟨c, hkc⟩ : ∃ c, css[k]? = some c := ⟨_, List.getElem?_eq_getElem (by omega)⟩
      have hev := (HALL.out k c e hkc hke).2 (Nat.le_refl _)
      obtain ⟨vd, rfl, hd, hpl⟩ := hev
      obtain ⟨d1, d2, rfl, -⟩ := id hd
      obtain ⟨g, cap', hge⟩ := owns_some HOW.out (by omega)
      simp only [Value.slice.injEq, true_and] at hge
      obtain ⟨rfl, rfl⟩ := hge
      have hcell : wr.cell? ⟨g, k * 7 + 6, none⟩ = some (.slice d1 e.data.length d2) := by
        rw [World.ownsRow.cellAt HOW.out (k * 7 + 6) (by omega), Nat.mul_comm k 7]
        exact flat_get 7 css k 6 _ _ H7'.out hkc rfl
      have HD : Hid _ := hd
      have HKE : Hid _ := hke
      have HKC : Hid _ := hkc
      have HPL : Hid _ := hpl
      have hdl := hd.len
      clear hd hke hkc hpl
      go_wp2_with fail
      go_at_call 57
      refine (clone_any _ e.data _ (IsBytes.ext HD.out hx) (by omega)).mono ?_
      rintro x w2 ⟨⟨v2, rfl, hd2⟩, hx2⟩
      obtain ⟨c1, c2, rfl, -⟩ := id hd2.bytes
      have HD2 : Hid _ := hd2
      have hown2 := owns_ext HOW.out hx2
      have hfz := World.ownsRow.frozenAt hown2 (k * 7 + 6)
      have hcell2 := hx2.cell hcell
      have HOW2 : Hid _ := hown2
      clear hd2 hown2 hcell
      go_wp2
      go_roundw
      case rel =>
        obtain ⟨ho3, hg3⟩ := World.ownsRow.stored HOW2.out (k * 7 + 6) (.slice c1 e.data.length c2)
        rw [show k * 7 + 6 = 7 * k + 6 by omega, flat_set 7 css k 6 _ _ H7'.out HKC.out (by omega)] at ho3
        obtain ⟨g2, cap2, cur2, he2, hb2, hgb, -⟩ : ∃ (g2 : Nat) (cap2 : Nat) (cur : Array Value), (Value.slice (some ⟨g, 0, none⟩) L.length cap1) = .slice (some ⟨g2, 0, none⟩) L.length cap2 ∧ w.heap.size ≤ g2 ∧ w2.heap[g2]? = some (.cells cur 53 (0, 0)) ∧ True := by
          rcases HOW2.out.2 with ⟨h9, _⟩ | ⟨g2, cap2, cur, h9, hb, hg, _⟩
          · cases h9
          · exact ⟨g2, cap2, cur, h9, hb, hg, trivial⟩
        simp only [Value.slice.injEq, Option.some.injEq, Addr.mk.injEq, and_true, true_and] at he2
        obtain ⟨rfl, rfl⟩ := he2
        have k23 := KeepB.of_grown hg3 hgb (by kernel_rfl)
        have kr3 := (KeepB.of_ext hx2).trans k23
        have hx3 : Ext w _ := Ext.but (hx.trans hx2) hg3 hb2
        rw [show k * 7 + 6 = 7 * k + 6 by omega] at k23 kr3 hx3
        refine ⟨k + 1, css.set k [.int .i64 e.t, .int .i64 e.kind, .int .i64 e.mode, .int .i64 e.keep, .int .i64 e.torn, S8 e.path, .slice c1 e.data.length c2], by omega, by go_num, by rw [List.length_set]; exact hcl, fun c hc => ?_, ?_, ?_, ?_⟩
        · rcases List.mem_or_eq_of_mem_set hc with h | h
          · exact H7'.out c h
          · rw [h]; rfl
        · rw [show k * 7 + 6 = 7 * k + 6 by omega]; exact ho3
        · rw [show k * 7 + 6 = 7 * k + 6 by omega]
          intro j c f hc hf
          by_cases hj : j = k
          · subst hj
            rw [List.getElem?_set_self (by omega)] at hc
            cases hc
            rw [HKE.out] at hf
            cases hf
            refine ⟨fun _ => ⟨_, rfl, ?_, HPL.out⟩, fun h => by omega⟩
            exact (HD2.out.keep k23).mono (fun k hk => ⟨Nat.le_trans hx.size hk.1, Nat.lt_of_lt_of_le hk.2 k23.1⟩)
          · rw [List.getElem?_set_ne (fun h => hj h.symm)] at hc
            have := HALL.out j c f hc hf
            exact ⟨fun h => ((this.1 (by omega)).keepR (KeepR.of_keep kr3)).mono (fun k hk => ⟨hk.1, Nat.lt_of_lt_of_le hk.2 kr3.1⟩), fun h => this.2 (by omega)⟩
        · rw [show k * 7 + 6 = 7 * k + 6 by omega]; exact hx3
      case measure => simp [intOf]; omega
    · have hkk : k = L.length := by omega
      subst hkk
      go_wp2
      go_ret
      exact ⟨⟨_, rfl, css, HOW.out, hcl, fun i c x hc hx' => (HALL.out i c x hc hx').1 (List.getElem?_eq_some_iff.1 hx').1⟩, hx⟩

theorem OwnE.readL {base : Nat} {w : World} {v : Value} {L : List Ev} (h : OwnE base w v L) (hl : L.length ≤ 1000000) : ReadL w 53 (IsEvR (fun k => base ≤ k ∧ k < w.heap.size) w) v L := by
  obtain ⟨css, h1, h2⟩ := h
  exact ⟨css, Row.of_owns h1 (by omega), Typed.of_owns h1, h2⟩

set_option maxRecDepth 100000 in
set_option maxHeartbeats 2000000 in
theorem plan_any {S O R : Nat → Prop} {w : World} {p v : Value} {m : Fs} {L : List Ev} (h : IsFs S O R w p m) (hlow : ∀ k, O k → k < w.heap.size) (hv : ReadB w v L) (hl : L.length ≤ 1000) :
    Calls Tryz.prog 25 #[p, v] w fun e w' => e = .returned (.tuple #[]) ∧ IsFs (Nu w w') O (Nw R w w') w' p (planM m L) ∧ Fr O w w' := by
  have HC : Hid _ := copiedEvents_any hv (by omega)
  obtain ⟨g, gm, gd, vp, vl, vu, L0, c0, rfl, hg, hO, hP, hpl, hc0⟩ := h
  have HP : Hid _ := hP
  have HG : Hid _ := hg
  clear hv hP hg hpl
  go_enter Tryz.func25, Tryz.ntmps25
  go_wp2_with (first
    | (go_at_call 73; go_must (refine Calls.mono HC.out ?_; rintro e w2 ⟨⟨v2, rfl, ho2⟩, hx2⟩; obtain ⟨a2, c2, rfl, -⟩ := Row.of_owns ho2.choose_spec.1 (by omega); have hg2 := Ext.row hx2 HG.out; have HO2 : Hid _ := ho2; clear ho2))
    | (refine store_field rfl 32 (.tmp 8) (.tmp 6) rfl g 4 rfl (.slice a2 L.length c2) rfl rfl _ _ hg2 (Nat.le_of_ble_eq_true rfl) size_evs (fsCells m.room gm gd vp (.slice a2 L.length c2) m.calls vu m.time m.down) (by simp) ?_; intro w3 hg3 hgr3))
  go_end0
  have hP2 := HP.out.ext hx2
  have hs2 := hx2.size
  have hrl := OwnE.readL HO2.out (by omega)
  have hu : ¬ IsU8 w2 g := cells_u8 hg2 (by kernel_rfl)
  have hP2' : Parts (Nu w w3) O (Nw R w w3) w2 gm gd vp (.slice a2 L.length c2) vu m.now m.sure m.pend L m.users := by
    have h9 : w2.heap.size ≤ w3.heap.size := hgr3.size
    have hm := hP2.mono (O' := O) (R' := Nw R w w3) (fun k hk => hk) (fun k hk => .inl hk)
    refine ⟨hm.ne, hm.om, hm.od, hm.now, hm.sure, hm.pend, hm.op, hrl.mono (fun c x hx => IsEvR.mono hx (fun k hk => .inr ⟨hk.1, by omega⟩)), fun k hk => ?_, hm.users, hm.ou, fun k hk hk2 => ?_⟩
    · obtain ⟨css, h1, _⟩ := HO2.out
      have := h1.lt k hk
      exact ⟨this.1, by omega⟩
    · obtain ⟨css, h1, _⟩ := HO2.out
      have h2 := h1.lt k hk2
      have h3 := hlow k (HP.out.ou k hk)
      omega
  refine ⟨rfl, ⟨g, gm, gd, vp, _, vu, L, m.calls, rfl, hg3, hO, hP2'.own hg2 hgr3, rfl, Nat.le_refl _, hl⟩, ?_⟩
  exact ((Fr.refl O w).ext hx2).step hgr3 (fun k hk => by cases hk; exact .inl hO) (by rintro k hk; cases hk; exact hu)

end Go.Proofs.YtfimfbdlegookaaGreatDoor
