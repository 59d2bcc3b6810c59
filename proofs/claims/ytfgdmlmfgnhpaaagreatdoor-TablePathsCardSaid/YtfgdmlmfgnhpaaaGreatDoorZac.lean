/- fsim.FS: happens: an event. Conditions: at most 9000000 ticks; a short path. -/
import Derived.Test.YtfgdmlmfgnhpaaaGreatDoorZab
import Derived.Maps.AppendAt
import Derived.Laws.LoneSync
import Derived.Deep.DeepCutAuto

set_option linter.unusedVariables false
set_option linter.unusedSimpArgs false

/-! fsim.FS: does: a change is done. Conditions: at most 10000000 files, changes, ticks. -/
namespace Go.Proofs.YtfgdmlmfgnhpaaaGreatDoor
open Go Go.RowKit

theorem size_int : (Tryz.prog.info? 3).map (·.size) = some 1 := by kernel_rfl
theorem size_bytes : (Tryz.prog.info? 45).map (·.size) = some 1 := by kernel_rfl
section
variable {ops : Array Oper} {rest : List Oper} {o : Oper} {a : Act} {Q : Exit → Act → World → Prop} {w : World}
end

end Go.Proofs.YtfgdmlmfgnhpaaaGreatDoor

/-! fsim.FS: puts, fits, removes. Conditions: at most 9000000 ticks; short paths and data. -/
namespace Go.Proofs.YtfgdmlmfgnhpaaaGreatDoor
open Go Go.RowKit

/-- What a call leaves of a file system. -/
structure FsPost (S O R : Nat → Prop) (w : World) (p : Value) (m : Fs) (w' : World) : Prop where
  fs : IsFs S (Nw O w w') (Nw R w w') w' p m
  fr : Fr O w w'
theorem FsPost.of_ext {S O R : Nat → Prop} {w wx w' : World} {p : Value} {m : Fs} (hx : Ext w wx) (h : FsPost S O (Nw R w wx) wx p m w') : FsPost S O R w p m w' := by
  refine ⟨h.fs.mono (fun k hk => ?_) (fun k hk => hk.nw hx.size h.fr.size), (Fr.of_ext hx).trans (h.fr.mono fun k hk => .inl hk)⟩
  rcases hk with hk | hk
  · exact .inl hk
  · exact .inr ⟨Nat.le_trans hx.size hk.1, hk.2⟩
theorem FsPost.trans {S O R : Nat → Prop} {w w1 w' : World} {p : Value} {m1 m : Fs} (h1 : FsPost S O R w p m1 w1) (h : FsPost S (Nw O w w1) (Nw R w w1) w1 p m w') : FsPost S O R w p m w' :=
  ⟨h.fs.mono (fun k hk => hk.nw h1.fr.size h.fr.size) (fun k hk => hk.nw h1.fr.size h.fr.size), h1.fr.trans h.fr⟩
theorem FsPost.same {S O R : Nat → Prop} {w w' : World} {p : Value} {m : Fs} (h : IsFs S O R w p m) (hx : Ext w w') : FsPost S O R w p m w' :=
  ⟨(h.ext hx).mono (fun k hk => .inl hk) (fun k hk => .inl hk), Fr.of_ext hx⟩
theorem FsPost.ext {S O R : Nat → Prop} {w w1 w' : World} {p : Value} {m : Fs} (h : FsPost S O R w p m w1) (hx : Ext w1 w') : FsPost S O R w p m w' :=
  h.trans (FsPost.same h.fs hx)

theorem FsPost.pre {S O R : Nat → Prop} {w wx w' : World} {p : Value} {m : Fs} (hx : Ext w wx) (h : FsPost S O R wx p m w') : FsPost S O R w p m w' := FsPost.of_ext hx ⟨h.fs.mono (fun k hk => hk) (fun k hk => hk.imp .inl id), h.fr⟩

/-- What holds of a file system at all times. -/
def ChOk : Ch → Prop
  | .put p f => pathB p = true ∧ f.data.length ≤ 20000
  | .mv s d => pathB s = true ∧ pathB d = true ∧ s ≠ d
  | .del p => pathB p = true
structure OkM (m : Fs) : Prop where
  lnow : m.now.length ≤ m.time
  lsure : m.sure.length ≤ m.time
  lpend : m.pend.length ≤ m.time
  lsp : m.sure.length + m.pend.length ≤ m.time
  lusers : m.users.length ≤ m.time
  dnow : ∀ e ∈ m.now, pathB e.1 = true ∧ e.2.data.length ≤ 20000
  dsure : ∀ e ∈ m.sure, pathB e.1 = true ∧ e.2.data.length ≤ 20000
  dpend : ∀ c ∈ m.pend, ChOk c
  fold : m.pend.foldl ap m.sure = m.now
  mvs : ∀ k s d, m.pend[k]? = some (.mv s d) → (look ((m.pend.take k).foldl ap m.sure) s).isSome = true

theorem path_ne {p : B8} (h : pathB p = true) : p ≠ [] := by
  rintro rfl
  revert h; decide

def ptr (g : Nat) : Value := .pointer (some ⟨g, 0, none⟩)

end Go.Proofs.YtfgdmlmfgnhpaaaGreatDoor

/-! fsim.FS: Up, Reboot, Now, Pending, Calls, settle, removes, fits. Conditions: at most 9000000 ticks; short paths. -/
namespace Go.Proofs.YtfgdmlmfgnhpaaaGreatDoor
open Go Go.RowKit

end Go.Proofs.YtfgdmlmfgnhpaaaGreatDoor

/-! fsim.FS: UserWrite, UserRemove. Conditions: at most 9000000 ticks; short paths and data. -/
namespace Go.Proofs.YtfgdmlmfgnhpaaaGreatDoor
open Go Go.RowKit

section
variable {ops : Array Oper} {rest : List Oper} {o : Oper} {a : Act} {Q : Exit → Act → World → Prop} {w : World}
end

/-- A slice that no call on a file system writes. -/
def Out (O : Nat → Prop) (w : World) (v : Value) : Prop := ∀ a n c, v = .slice (some a) n c → n ≠ 0 → ¬ O a.block ∨ IsU8 w a.block
theorem IsBytes.fr {O : Nat → Prop} {w w' : World} {v : Value} {l : B8} (h : IsBytes w v l) (ho : Out O w v) (hf : Fr O w w') : IsBytes w' v l := by
  obtain ⟨a, cap, rfl, h1, h2, h3, h4⟩ := h
  refine ⟨a, cap, rfl, h1, h2, h3, fun hn => ?_⟩
  have hl : l.length ≠ 0 := fun h0 => hn (by rw [List.eq_nil_of_length_eq_zero h0]; rfl)
  obtain ⟨b, o, rfl, hc⟩ := h4 hn
  refine ⟨b, o, rfl, fun i u hu => ?_⟩
  have hcu := hc i u hu
  rw [World.cell?_of_block (w := w) (w' := w') (a := ⟨b, o + i, none⟩) (hf.block b (World.block_lt_of_cell? _ _ hcu) (ho _ _ _ rfl hl))]
  exact hcu
theorem IsData.out {O R : Nat → Prop} {w : World} {v : Value} {l : B8} (h : IsData R w v l) : Out O w v := fun a n c he _ => .inr (h.typed a n c he)
theorem Env.fr {O : Nat → Prop} {w w' : World} (h : Env w) (hf : Fr O w w') (ho : ∀ k, O k → k ≠ 2) : Env w' := by
  obtain ⟨m, hm⟩ := h
  exact ⟨m, by rw [World.cell?_of_block (w := w) (w' := w') (hf.block _ (World.block_lt_of_cell? _ _ hm) (.inl (fun hh => ho _ hh rfl)))]; exact hm⟩

end Go.Proofs.YtfgdmlmfgnhpaaaGreatDoor

/-! fsim.FS: Crash. Conditions: at most 9000000 ticks. -/
namespace Go.Proofs.YtfgdmlmfgnhpaaaGreatDoor
open Go Go.RowKit

theorem fold_length (l : Files) : ∀ cs : List Ch, (cs.foldl ap l).length ≤ l.length + cs.length := by
  intro cs
  induction cs generalizing l with
  | nil => simp
  | cons c cs ih =>
    have h1 := ih (ap l c)
    have h2 := ap_length l c
    simp only [List.foldl_cons, List.length_cons]
    omega
end Go.Proofs.YtfgdmlmfgnhpaaaGreatDoor

/-! What holds of a file system at all times, kept by all that is done: in plain Lean. Conditions: as each theorem states. -/
namespace Go.Proofs.YtfgdmlmfgnhpaaaGreatDoor
open Go Go.RowKit

/-! ### Paths above a path -/
theorem cut_append (c : UInt8) : ∀ (l r : B8), cut c (l ++ c :: r) = cut c l ++ cut c r
  | [], r => by simp [cut]
  | x :: l, r => by
    have ih := cut_append c l r
    show cut c (x :: (l ++ c :: r)) = cut c (x :: l) ++ cut c r
    by_cases hx : (x == c) = true
    · rw [cut, cut, if_pos hx, if_pos hx, ih]
      rfl
    · rw [cut, cut, if_neg hx, if_neg hx, ih]
      cases hq : cut c l with
      | nil => exact (cut_ne c l hq).elim
      | cons a t => rfl
theorem join_one (x : B8) (c : UInt8) : Lib.join [x] [c] = x := by simp [Lib.join, List.intercalate, List.intersperse]
theorem join_two (x y : B8) (L : List B8) (c : UInt8) : Lib.join (x :: y :: L) [c] = x ++ c :: Lib.join (y :: L) [c] := by
  simp [Lib.join, List.intercalate, List.intersperse]
theorem join_cut (c : UInt8) : ∀ l : B8, Lib.join (cut c l) [c] = l
  | [] => by simp [cut, join_one]
  | x :: l => by
    have ih := join_cut c l
    rw [cut]
    by_cases hx : (x == c) = true
    · rw [if_pos hx]
      have e : x = c := by simpa using hx
      subst e
      cases hq : cut x l with
      | nil => exact (cut_ne x l hq).elim
      | cons a t => rw [hq] at ih; rw [join_two, ih]; rfl
    · rw [if_neg hx]
      cases hq : cut c l with
      | nil => exact (cut_ne c l hq).elim
      | cons a t =>
        rw [hq] at ih
        cases t with
        | nil => rw [join_one] at ih ⊢; rw [ih]
        | cons b t => rw [join_two] at ih ⊢; simp [ih]
theorem join_append (c : UInt8) : ∀ (A B : List B8), A ≠ [] → B ≠ [] → Lib.join (A ++ B) [c] = Lib.join A [c] ++ c :: Lib.join B [c]
  | [], _, h, _ => (h rfl).elim
  | [x], [], _, h => (h rfl).elim
  | [x], y :: B, _, _ => by rw [join_one]; exact join_two x y B c
  | x :: y :: A, B, _, hB => by
    have ih := join_append c (y :: A) B (by simp) hB
    show Lib.join (x :: y :: (A ++ B)) [c] = _
    rw [join_two, join_two, show y :: (A ++ B) = (y :: A) ++ B from rfl, ih]
    simp
theorem under_iff (d s : B8) : isUnder d s = true ↔ ∃ r, s = d ++ 47 :: r := by
  unfold isUnder
  rw [List.isPrefixOf_iff_prefix]
  constructor
  · rintro ⟨r, hr⟩; exact ⟨r, by rw [← hr]; simp⟩
  · rintro ⟨r, hr⟩; exact ⟨r, by rw [hr]; simp⟩
theorem mem_parents {path p : B8} (hp : pathB path = true) : p ∈ parentsL path ↔ isUnder p path = true := by
  unfold parentsL parentsN splitL
  rw [if_pos hp, under_iff]
  constructor
  · intro h
    obtain ⟨i, hi, rfl⟩ := List.mem_map.1 h
    have hi' := List.mem_range.1 hi
    refine ⟨Lib.join ((cut 47 path).drop (i + 1)) [47], ?_⟩
    rw [← join_append 47 _ _ (by intro h0; have := congrArg List.length h0; simp at this; rw [this] at hi'; simp at hi') (by intro h0; have := congrArg List.length h0; simp at this; omega), List.take_append_drop, join_cut]
  · rintro ⟨r, rfl⟩
    refine List.mem_map.2 ⟨(cut 47 p).length - 1, List.mem_range.2 ?_, ?_⟩
    · have h1 : 0 < (cut 47 p).length := List.length_pos_iff.2 (cut_ne 47 p)
      have h2 : 0 < (cut 47 r).length := List.length_pos_iff.2 (cut_ne 47 r)
      rw [cut_append, List.length_append]
      omega
    · have h1 : 0 < (cut 47 p).length := List.length_pos_iff.2 (cut_ne 47 p)
      rw [cut_append, show (cut 47 p).length - 1 + 1 = (cut 47 p).length by omega, List.take_left, join_cut]
/-! ### What holds at all times -/
theorem files_ap {l : Files} {c : Ch} (h : ∀ e ∈ l, pathB e.1 = true ∧ e.2.data.length ≤ 20000) (hc : ChOk c) : ∀ e ∈ ap l c, pathB e.1 = true ∧ e.2.data.length ≤ 20000 := by
  intro e he
  cases c with
  | put p f =>
    rcases mem_putF he with rfl | ⟨h1, _⟩
    · exact hc
    · exact h e h1
  | mv s d =>
    unfold ap at he
    simp only at he
    split at he
    · rename_i x hx
      rcases mem_putF he with rfl | ⟨h1, _⟩
      · exact ⟨hc.2.1, (h _ (look_mem hx)).2⟩
      · exact h e (List.mem_filter.1 h1).1
    · exact h e he
  | del p => exact h e (List.mem_filter.1 he).1
theorem files_fold {cs : List Ch} : ∀ {l : Files}, (∀ e ∈ l, pathB e.1 = true ∧ e.2.data.length ≤ 20000) → (∀ c ∈ cs, ChOk c) → ∀ e ∈ cs.foldl ap l, pathB e.1 = true ∧ e.2.data.length ≤ 20000 := by
  induction cs with
  | nil => exact fun h _ => h
  | cons c cs ih => exact fun h hc => ih (files_ap h (hc c (by simp))) (fun d hd => hc d (by simp [hd]))
theorem ok_at {c : Ch} (t : Nat) (h : ChOk c) : ChOk (c.at t) := by
  cases c with
  | put p f => exact h
  | mv s d => exact h
  | del p => exact h
theorem ok_does {m : Fs} {c : Ch} (h : OkM m) (hc : ChOk c) (hmv : ∀ s d, c = .mv s d → (look m.now s).isSome = true) : OkM (does m c) := by
  have hl := ap_length m.now (c.at (m.time + 1))
  have h1 := h.lnow
  have h2 := h.lsure
  have h3 := h.lpend
  have h4 := h.lusers
  have h5 := h.lsp
  refine ⟨by simp only [does]; omega, by simp only [does]; omega, by simp only [does, List.length_append, List.length_cons, List.length_nil]; omega, by simp only [does, List.length_append, List.length_cons, List.length_nil]; omega, by simp only [does]; omega, files_ap h.dnow (ok_at _ hc), h.dsure, ?_, ?_, ?_⟩
  · intro d hd
    rcases List.mem_append.1 hd with hd | hd
    · exact h.dpend d hd
    · rw [List.mem_singleton.1 hd]; exact ok_at _ hc
  · show (m.pend ++ [c.at (m.time + 1)]).foldl ap m.sure = ap m.now (c.at (m.time + 1))
    rw [List.foldl_append, h.fold]
    rfl
  · intro k s d hk
    show (look (((m.pend ++ [c.at (m.time + 1)]).take k).foldl ap m.sure) s).isSome = true
    have hk' : (m.pend ++ [c.at (m.time + 1)])[k]? = some (.mv s d) := hk
    rw [List.getElem?_append] at hk'
    split at hk'
    · rename_i hlt
      rw [List.take_append_of_le_length (by omega)]
      exact h.mvs k s d hk'
    · rename_i hge
      have h9 := (List.getElem?_eq_some_iff.1 hk').1
      have hz : k - m.pend.length = 0 := by simp at h9; omega
      rw [hz] at hk'
      have e : c.at (m.time + 1) = .mv s d := by simpa using hk'
      have hke : k = m.pend.length := by omega
      subst hke
      rw [List.take_left, h.fold]
      cases c with
      | put p f => cases e
      | mv s' d' => exact hmv s d e
      | del p => cases e
theorem ok_puts {m : Fs} {path : B8} {mode : Int} {data : B8} {fits : Bool} (h : OkM m) (hp : pathB path = true) (hd : data.length ≤ 20000) : OkM (putsM m path mode data fits).1 := by
  unfold putsM
  split
  · exact h
  · split
    · exact h
    · exact ok_does h ⟨hp, hd⟩ (fun s d e => by cases e)
theorem ok_removes {m : Fs} {path : B8} (h : OkM m) : OkM (removesM m path).1 := by
  unfold removesM
  split
  · exact h
  · split
    · exact h
    · rename_i h1 _
      exact ok_does h (show pathB path = true by simpa using h1) (fun s d e => by cases e)
theorem ok_settle {m : Fs} (h : OkM m) : OkM (settle m) :=
  ⟨h.lnow, h.lnow, Nat.zero_le _, h.lnow, h.lusers, h.dnow, h.dnow, fun c hc => (by cases hc), rfl, fun k s d hk => by simp [settle] at hk⟩
theorem OkM.same {m m' : Fs} (h : OkM m) (h1 : m'.now = m.now) (h2 : m'.sure = m.sure) (h3 : m'.pend = m.pend) (h4 : m'.users.length ≤ m'.time) (h5 : m.time ≤ m'.time) : OkM m' := by
  refine ⟨by rw [h1]; exact Nat.le_trans h.lnow h5, by rw [h2]; exact Nat.le_trans h.lsure h5, by rw [h3]; exact Nat.le_trans h.lpend h5, by rw [h2, h3]; exact Nat.le_trans h.lsp h5, h4, by rw [h1]; exact h.dnow, by rw [h2]; exact h.dsure, by rw [h3]; exact h.dpend, by rw [h1, h2, h3]; exact h.fold, by rw [h2, h3]; exact h.mvs⟩
theorem wrong_zero {path : B8} {mode : Int} {data : B8} (h : wrongE path mode data = 0) : pathB path = true ∧ 1 ≤ mode ∧ mode ≤ 3 ∧ data.length ≤ 20000 := by
  unfold wrongE at h
  split at h
  · cases h
  · split at h
    · cases h
    · split at h
      · cases h
      · rename_i h1 h2 h3
        refine ⟨by simpa using h1, by omega, by omega, by omega⟩
theorem puts_zero {m : Fs} {path : B8} {mode : Int} {data : B8} {fits : Bool} (h : (putsM m path mode data fits).2 = 0) : putsM m path mode data fits = (does m (.put path ⟨mode, data, 0⟩), 0) := by
  unfold putsM at h ⊢
  by_cases h1 : (look m.now path).isNone = true ∧ mayF m.now path [] = false
  · rw [if_pos h1] at h; cases h
  · rw [if_neg h1] at h ⊢
    by_cases h2 : fits = false
    · rw [if_pos h2] at h; cases h
    · rw [if_neg h2]
theorem removes_zero {m : Fs} {path : B8} (h : (removesM m path).2 = 0) : removesM m path = (does m (.del path), 0) := by
  unfold removesM at h ⊢
  by_cases h1 : pathB path = false
  · rw [if_pos h1] at h; cases h
  · rw [if_neg h1] at h ⊢
    by_cases h2 : (look m.now path).isNone = true
    · rw [if_pos h2] at h; cases h
    · rw [if_neg h2]
theorem puts_time {m : Fs} {path : B8} {mode : Int} {data : B8} {fits : Bool} : m.time ≤ (putsM m path mode data fits).1.time ∧ (putsM m path mode data fits).1.time ≤ m.time + 1 := by
  unfold putsM
  split
  · exact ⟨Nat.le_refl _, Nat.le_succ _⟩
  · split
    · exact ⟨Nat.le_refl _, Nat.le_succ _⟩
    · exact ⟨Nat.le_succ _, Nat.le_refl _⟩
theorem removes_time {m : Fs} {path : B8} : m.time ≤ (removesM m path).1.time ∧ (removesM m path).1.time ≤ m.time + 1 := by
  unfold removesM
  split
  · exact ⟨Nat.le_refl _, Nat.le_succ _⟩
  · split
    · exact ⟨Nat.le_refl _, Nat.le_succ _⟩
    · exact ⟨Nat.le_succ _, Nat.le_refl _⟩
theorem ok_userWrite {m : Fs} {path : B8} {mode : Int} {data : B8} (h : OkM m) : OkM (userWrite m path mode data).1 := by
  unfold userWrite
  split
  · exact h
  · split
    · exact h
    · rename_i hw
      have hw0 := wrong_zero (by simpa using hw)
      split
      · exact ok_puts h hw0.1 hw0.2.2.2
      · rename_i hp
        have hp0 := puts_zero (by simpa using hp)
        have ho := ok_settle (ok_puts (mode := mode) (fits := true) h hw0.1 hw0.2.2.2)
        refine ho.same rfl rfl rfl ?_ (Nat.le_refl _)
        have := h.lusers
        rw [hp0]
        simp only [settle, does, List.length_append, List.length_cons, List.length_nil]
        omega
theorem ok_userRemove {m : Fs} {path : B8} (h : OkM m) : OkM (userRemove m path).1 := by
  unfold userRemove
  split
  · exact h
  · split
    · exact ok_removes h
    · rename_i hp
      have hp0 := removes_zero (by simpa using hp)
      have ho := ok_settle (ok_removes (path := path) h)
      refine ho.same rfl rfl rfl ?_ (Nat.le_refl _)
      have := h.lusers
      rw [hp0]
      simp only [settle, does, List.length_append, List.length_cons, List.length_nil]
      omega
theorem userWrite_time {m : Fs} {path : B8} {mode : Int} {data : B8} : m.time ≤ (userWrite m path mode data).1.time ∧ (userWrite m path mode data).1.time ≤ m.time + 1 := by
  unfold userWrite
  split
  · exact ⟨Nat.le_refl _, Nat.le_succ _⟩
  · split
    · exact ⟨Nat.le_refl _, Nat.le_succ _⟩
    · split
      · exact puts_time
      · exact puts_time (m := m) (path := path) (mode := mode) (data := data) (fits := true)
theorem userRemove_time {m : Fs} {path : B8} : m.time ≤ (userRemove m path).1.time ∧ (userRemove m path).1.time ≤ m.time + 1 := by
  unfold userRemove
  split
  · exact ⟨Nat.le_refl _, Nat.le_succ _⟩
  · split
    · exact removes_time
    · exact removes_time (m := m) (path := path)
theorem torn_length (l : Files) (t : Int) (c : Option Ch) : (torn1 l t c).length ≤ l.length + 1 ∧ (c = none → torn1 l t c = l) := by
  unfold torn1
  refine ⟨?_, fun h => by subst h; rfl⟩
  split
  · split
    · exact ap_length _ _
    · omega
  · omega
theorem fallen_length {m : Fs} (keep torn : Int) (h : OkM m) : (fallen m keep torn).length ≤ m.time := by
  unfold fallen
  have h1 := torn_length ((m.pend.take (keepN m keep)).foldl ap m.sure) torn m.pend[keepN m keep]?
  have h2 := fold_length m.sure (m.pend.take (keepN m keep))
  have h3 := h.lsp
  have h4 : (m.pend.take (keepN m keep)).length ≤ keepN m keep := List.length_take_le _ _
  by_cases hk : keepN m keep < m.pend.length
  · omega
  · have h5 := h1.2 (List.getElem?_eq_none (by omega))
    rw [h5]
    have : keepN m keep ≤ m.pend.length := by unfold keepN; omega
    omega
theorem fallen_files {m : Fs} (keep torn : Int) (h : OkM m) : ∀ e ∈ fallen m keep torn, pathB e.1 = true ∧ e.2.data.length ≤ 20000 := by
  have hf := files_fold (cs := m.pend.take (keepN m keep)) h.dsure (fun c hc => h.dpend c (List.mem_of_mem_take hc))
  unfold fallen torn1
  split
  · rename_i p f hk
    split
    · refine files_ap hf ?_
      have := h.dpend _ (List.mem_of_getElem? hk)
      refine ⟨this.1, ?_⟩
      simp only [List.length_take]
      have := this.2
      omega
    · exact hf
  · exact hf
theorem ok_crash {m : Fs} (keep torn : Int) (h : OkM m) : OkM (crash m keep torn) := by
  unfold crash
  split
  · exact h
  · have hl := fallen_length keep torn h
    have hf := fallen_files keep torn h
    exact ⟨hl, hl, Nat.zero_le _, hl, h.lusers, hf, hf, fun c hc => (by cases hc), rfl, fun k s d hk => by simp at hk⟩
theorem crash_time (m : Fs) (keep torn : Int) : (crash m keep torn).time = m.time := by
  unfold crash
  split <;> rfl

/-- An event that happens: to the files. -/
def hapM (m : Fs) (e : Ev) : Fs :=
  if e.kind = 1 then crash m e.keep e.torn else if e.kind = 4 then (userWrite m e.path e.mode e.data).1 else if e.kind = 5 then (userRemove m e.path).1 else m
def hapE (e : Ev) : Int := if e.kind = 2 then 10 else if e.kind = 3 then 11 else 0
theorem ok_hap {m : Fs} (h : OkM m) (e : Ev) : OkM (hapM m e) := by
  unfold hapM
  split
  · exact ok_crash _ _ h
  · split
    · exact ok_userWrite h
    · split
      · exact ok_userRemove h
      · exact h
theorem hap_time (m : Fs) (e : Ev) : m.time ≤ (hapM m e).time ∧ (hapM m e).time ≤ m.time + 1 := by
  unfold hapM
  split
  · rw [crash_time]; exact ⟨Nat.le_refl _, Nat.le_succ _⟩
  · split
    · exact userWrite_time
    · split
      · exact userRemove_time
      · exact ⟨Nat.le_refl _, Nat.le_succ _⟩
theorem happen_eq (n : Nat) (x : Fs × Bool × Bool) (e : Ev) : happen n x e = if e.t ≠ n then x else (hapM x.1 e, x.2.1 || hapE e == 10, x.2.2 || hapE e == 11) := by
  obtain ⟨m, f, b⟩ := x
  unfold happen hapM hapE
  simp only
  by_cases h0 : e.t ≠ n
  · rw [if_pos h0, if_pos h0]
  · rw [if_neg h0, if_neg h0]
    by_cases h1 : e.kind = 1
    · simp [h1]
    · by_cases h2 : e.kind = 2
      · simp [h2]
      · by_cases h3 : e.kind = 3
        · simp [h3]
        · by_cases h4 : e.kind = 4
          · simp [h4]
          · by_cases h5 : e.kind = 5
            · simp [h5]
            · simp [h1, h2, h3, h4, h5]

end Go.Proofs.YtfgdmlmfgnhpaaaGreatDoor

/-! fsim.FS: happens: an event. Conditions: at most 9000000 ticks; a short path. -/
namespace Go.Proofs.YtfgdmlmfgnhpaaaGreatDoor
open Go Go.RowKit

end Go.Proofs.YtfgdmlmfgnhpaaaGreatDoor
