/- A store of objects over a file system: what Put does; whatever fails and falls, each place has bytes of its hash: in plain Lean. Conditions: as each theorem states. -/
import Derived.Test.YtfimfbdlegookaaGreatDoorZag
import Derived.Test.YtfimfbdlegookaaGreatDoorZab

set_option linter.unusedVariables false
set_option linter.unusedSimpArgs false
set_option linter.unusedSectionVars false

/-! marlaw8.RefsExpect. Conditions: as each theorem states. -/
namespace Go.Proofs.YtfimfbdlegookaaGreatDoor
open Go Go.RowKit
set_option linter.unusedVariables false
set_option linter.unusedSimpArgs false
set_option linter.unusedSectionVars false
variable [Inhabited BaseW]

end Go.Proofs.YtfimfbdlegookaaGreatDoor

/-! refs.Unlock. Conditions: as each theorem states. -/
namespace Go.Proofs.YtfimfbdlegookaaGreatDoor
open Go Go.RowKit

/-- What a call asks of a file system's numbers. -/
structure Fit (m : Fs) : Prop where
  ok : OkM m
  plan : PlanOk m
  time : m.time ≤ 500000
  calls : m.calls ≤ 900000
  room0 : 0 ≤ m.room
  room1 : m.room ≤ 1073741824
theorem Good.fit {n : Nat} {m : Fs} (h : Good n m) (hn : n ≤ 1000) : Fit m := ⟨h.ok, h.plan, by have := h.time; omega, by have := h.calls; omega, h.room0, h.room1⟩
/-- .. behind each of some removals. -/
def FitAll : Fs → List B8 → Prop
  | m, [] => Fit m
  | m, n :: l => Fit m ∧ FitAll (removeM m (lockP n)).1 l
theorem FitAll.head {m : Fs} {l : List B8} (h : FitAll m l) : Fit m := by
  cases l with
  | nil => exact h
  | cons x l => exact h.1
/-- A file system behind some steps of a walk: which blocks are its own is kept apart. -/
structure Thru (S O R : Nat → Prop) (w : World) (p : Value) (m : Fs) (O1 R1 : Nat → Prop) (w1 : World) : Prop where
  fin : FsIn S O1 R1 w1 p m
  fr : Fr O w w1
  sub : ∀ k, O1 k → Nw O w w1 k
  subR : ∀ k, R1 k → Nw R w w1 k
section
variable {S O R O1 R1 : Nat → Prop} {w w1 w2 : World} {p : Value} {m m' : Fs}
theorem Thru.start (h : FsIn S O R w p m) : Thru S O R w p m O R w := ⟨h, Fr.refl _ _, fun _ hk => .inl hk, fun _ hk => .inl hk⟩
theorem Thru.more (h : Thru S O R w p m O1 R1 w1) (hx : Ext w1 w2) : Thru S O R w p m O1 R1 w2 := by
  have hs := hx.size
  have hf := h.fin
  exact ⟨⟨hf.env.ext hx, hf.fs.ext hx, hf.ok, hf.plan, hf.time, hf.calls, hf.noG, fun k hk => ⟨(hf.apart k hk).1, by have := (hf.apart k hk).2; omega⟩, fun k hk => by have := hf.low k hk; omega, hf.room0, hf.room1⟩,
    h.fr.trans (Fr.of_ext hx), fun k hk => (h.sub k hk).fst hs, fun k hk => (h.subR k hk).fst hs⟩
theorem Thru.post (h : Thru S O R w p m O1 R1 w1) (hp : FsPost S O1 R1 w1 p m' w2) (hf : Fit m') : Thru S O R w p m' (Nw O1 w1 w2) (Nw R1 w1 w2) w2 := by
  have hs := hp.fr.size
  have hs0 := h.fr.size
  have hi := h.fin
  refine ⟨⟨hi.env.fr hp.fr hi.noG, hp.fs, hf.ok, hf.plan, (by have := hf.time; omega), hf.calls, ?_, ?_, ?_, hf.room0, hf.room1⟩, h.fr.trans (hp.fr.mono h.sub), ?_, ?_⟩
  · intro k hk e
    rcases hk with hk | hk
    · exact hi.noG k hk e
    · have := env_lt' hi.env; omega
  · intro k hk
    refine ⟨fun ho => ?_, by have := (hi.apart k hk).2; omega⟩
    rcases ho with ho | ho
    · exact (hi.apart k hk).1 ho
    · have := (hi.apart k hk).2; omega
  · intro k hk
    rcases hk with hk | hk
    · have := hi.low k hk; omega
    · exact hk.2
  · intro k hk
    exact Nw.nw hs0 hs (hk.imp (h.sub k) id)
  · intro k hk
    exact Nw.nw hs0 hs (hk.imp (h.subR k) id)
theorem Thru.out (h : Thru S O R w p m O1 R1 w1) : FsPost S O R w p m w1 := ⟨h.fin.fs.mono h.sub h.subR, h.fr⟩
/-- Texts of the call's own, apart from a file system's blocks. -/
structure RowOut (O : Nat → Prop) (w : World) (v : Value) (ss : List B8) : Prop where
  row : IsStrs w v ss
  out : ∀ k, v.ownBlock = some k → ¬ O k ∧ k < w.heap.size
theorem RowOut.post {v : Value} {ss : List B8} (h : RowOut O1 w1 v ss) (hf : Fr O1 w1 w2) : RowOut (Nw O1 w1 w2) w2 v ss := by
  have hs := hf.size
  refine ⟨Row.stay h.row (fun k hk => hf.block k (h.out k hk).2 (.inl (h.out k hk).1)), fun k hk => ⟨fun ho => ?_, by have := (h.out k hk).2; omega⟩⟩
  rcases ho with ho | ho
  · exact (h.out k hk).1 ho
  · have := (h.out k hk).2; omega
end

end Go.Proofs.YtfimfbdlegookaaGreatDoor

/-! Refs of unlike names, in plain Lean: each stands for itself; a lock that stands keeps its own name alone. Conditions: as each theorem states. -/
namespace Go.Proofs.YtfimfbdlegookaaGreatDoor
open Go Go.RowKit

/-! ### Names and places -/
theorem name_no47 {k : B8} (h : nameB k = true) : (47 : UInt8) ∉ k := by
  intro hm
  unfold nameB at h
  simp only [Bool.and_eq_true, Bool.not_eq_true', List.any_eq_false] at h
  exact absurd (show badC 47 = true by decide) (by simpa using h.1 _ hm)
theorem under_name {d k : B8} {pre : B8} (hk : nameB k = true) (h : isUnder (pre ++ d) (pre ++ k) = true) : False := by
  obtain ⟨r, hr⟩ := (under_iff _ _).1 h
  rw [List.append_assoc] at hr
  have h9 := List.append_cancel_left hr
  exact name_no47 hk (by rw [h9]; simp)
theorem under_lp {a b : B8} : isUnder (lockP a) (placeP b) = false := by
  unfold isUnder lockP placeP
  simp [List.isPrefixOf]
theorem under_pl {a b : B8} : isUnder (placeP a) (lockP b) = false := by
  unfold isUnder lockP placeP
  simp [List.isPrefixOf]
theorem under_pp {a b : B8} (hb : nameB b = true) : isUnder (placeP a) (placeP b) = false := by
  cases h : isUnder (placeP a) (placeP b) with
  | false => rfl
  | true => exact (under_name hb h).elim
theorem under_ll {a b : B8} (hb : nameB b = true) : isUnder (lockP a) (lockP b) = false := by
  cases h : isUnder (lockP a) (lockP b) with
  | false => rfl
  | true => exact (under_name hb h).elim
/-! ### Finds -/
/-! ### Refs, and a lock -/
def updH (hv : B8 → Option B8) (k v : B8) : B8 → Option B8 := fun x => if x = k then some v else hv x
/-- .. in the files. -/
structure ApF (F : Files) (lk : Option B8) (hv : B8 → Option B8) (n : Nat) : Prop where
  used : usedF F ≤ 100 * n
  name : ∀ k v, hv k = some v → nameB k = true ∧ validB v = true
  lock : ∀ l, lk = some l → pathB (lockP l) = true ∧ (look F (lockP l)).isSome = true
  refs : ∀ k v, hv k = some v → ∃ t, look F (placeP k) = some ⟨1, lineM v, t⟩
  all : ∀ e ∈ F, (∃ k v, hv k = some v ∧ e.1 = placeP k) ∨ ∃ l, lk = some l ∧ e.1 = lockP l
  locks : (pathsL F).filter (isUnder lockD) = lk.toList.map lockP
structure Ap (m : Fs) (lk : Option B8) (hv : B8 → Option B8) (n : Nat) : Prop where
  plan : m.plan = []
  down : m.down = false
  room : 100000 ≤ m.room
  f : ApF m.now lk hv n
variable {m : Fs} {F : Files} {lk : Option B8} {hv : B8 → Option B8} {n : Nat}
theorem Ap.calls (h : Ap m lk hv n) (c : Nat) : Ap { m with calls := c } lk hv n := ⟨h.plan, h.down, h.room, h.f⟩
theorem ApF.may (h : ApF F lk hv n) {k : B8} (hk : nameB k = true) (hf : ∀ l, lk = some l → isUnder (lockP k) (lockP l) = false) (but : B8) : mayF F (lockP k) but = true := by
  unfold mayF
  rw [Bool.not_eq_true', List.any_eq_false]
  intro e he
  have : isUnder e.1 (lockP k) = false ∧ isUnder (lockP k) e.1 = false := by
    rcases h.all e he with ⟨k', v, h1, h2⟩ | ⟨l, h1, h2⟩
    · rw [h2]; exact ⟨under_pl, under_lp⟩
    · rw [h2]; exact ⟨under_ll hk, hf l h1⟩
  simp [this.1, this.2]
theorem ApF.mayP (h : ApF F lk hv n) {k : B8} (hk : nameB k = true) (but : B8) : mayF F (placeP k) but = true := by
  unfold mayF
  rw [Bool.not_eq_true', List.any_eq_false]
  intro e he
  have : isUnder e.1 (placeP k) = false ∧ isUnder (placeP k) e.1 = false := by
    rcases h.all e he with ⟨k', v, h1, h2⟩ | ⟨l, h1, h2⟩
    · rw [h2]; exact ⟨under_pp hk, under_pp (h.name _ _ h1).1⟩
    · rw [h2]; exact ⟨under_lp, under_pl⟩
  simp [this.1, this.2]
theorem ApF.mono (h : ApF F lk hv n) {k : Nat} (hk : n ≤ k) : ApF F lk hv k := ⟨by have := h.used; omega, h.name, h.lock, h.refs, h.all, h.locks⟩
/-- All locks are taken away. -/
def cntL : Option B8 → Int
  | some l => if nameB l = true then 1 else 0
  | none => 0
def restL : Option B8 → Option B8
  | some l => if nameB l = true then none else some l
  | none => none
end Go.Proofs.YtfimfbdlegookaaGreatDoor

/-! A map of names and hashes: looked up, set. Conditions: names of at most 1000000 signs. -/
namespace Go.Proofs.YtfimfbdlegookaaGreatDoor
open Go Go.RowKit

def enH (e : B8 × Fi) : Lit × DataW Value := (.string e.1, .held (S8 e.2.data))
def datH (l : Files) : DataW Value := .map (l.map enH)
def lookD (l : Files) (p : B8) : B8 := match look l p with
  | some f => f.data
  | none => []
theorem zero_str (w : World) : (zeroValue 9).run Tryz.prog w = .ok (S8 []) w := by kernel_rfl
theorem find_enH (p : B8) : ∀ l : Files, (l.map enH).find? (fun q => q.1.sameKey (.string p)) = (l.find? fun e => e.1 == p).map enH
  | [] => rfl
  | e :: l => by
    have hk : (enH e).1.sameKey (.string p) = (e.1 == p) := rfl
    rw [List.map_cons, List.find?_cons, List.find?_cons, hk]
    cases e.1 == p
    · exact find_enH p l
    · rfl
theorem datH_at (l : Files) (p : B8) (z : DataW Value) : (datH l).atKey (.string p) z = match look l p with | some f => .held (S8 f.data) | none => z := by
  unfold datH DataW.atKey look
  simp only
  rw [find_enH]
  cases h : l.find? fun e => e.1 == p with
  | none => rfl
  | some e => rfl
theorem datH_has (l : Files) (p : B8) : Maps.has (datH l) (.string p) = (look l p).isSome := by
  unfold datH
  rw [Maps.has_eq, Bool.eq_iff_iff, List.any_eq_true]
  unfold look
  constructor
  · rintro ⟨q, hq, hk⟩
    obtain ⟨e, he, rfl⟩ := List.mem_map.1 hq
    have : e.1 == p := hk
    rw [Option.isSome_map, List.find?_isSome]
    exact ⟨e, he, this⟩
  · intro h
    rw [Option.isSome_map, List.find?_isSome] at h
    obtain ⟨e, he, hk⟩ := h
    exact ⟨enH e, List.mem_map.2 ⟨e, he, rfl⟩, hk⟩
structure IsHave (w : World) (b : Nat) (l : Files) : Prop where
  map : w.ownsMap Tryz.prog 9 elemV b l.length (datH l)
theorem IsHave.stay {w w' : World} {b : Nat} {l : Files} (h : IsHave w b l) (hb : w'.heap[b]? = w.heap[b]?) : IsHave w' b l := by
  obtain ⟨es, clock, he, F, hs, hD⟩ := h.map
  exact ⟨es, clock, hb.trans he, F, hs, hD⟩
theorem IsHave.lt {w : World} {b : Nat} {l : Files} (h : IsHave w b l) : b < w.heap.size := h.map.lt
theorem IsHave.notU8 {w : World} {b : Nat} {l : Files} (h : IsHave w b l) : ¬ IsU8 w b := by
  obtain ⟨es, clock, he, _⟩ := h.map
  rintro ⟨cs, t, fr, hc, -⟩
  rw [he] at hc
  cases hc
/-- m[p]. -/
theorem IsHave.look_run {w : World} {b : Nat} {l : Files} (h : IsHave w b l) (p : B8) (hp : p.length ≤ 1000000) :
    (Instr.lookup 30 (.map (some b)) (S8 p) true).run Tryz.prog w = .ok (.tuple #[S8 (lookD l p), .bool (look l p).isSome]) w ∧ (Instr.lookup 30 (.map (some b)) (S8 p) false).run Tryz.prog w = .ok (S8 (lookD l p)) w := by
  have h2 := h.map
  obtain ⟨v, ps, h4, h5⟩ := h2.look_ok K_str Tryz.underlying30 (zero_str w) rfl (key_str p hp)
  obtain ⟨v', ps', h6, h7⟩ := h2.lookup K_str Tryz.underlying30 (zero_str w) rfl (key_str p hp)
  rw [datH_at] at h5 h7
  rw [datH_has] at h4
  have hz : (match look l p with | some f => DataW.held (S8 f.data) | none => DataW.held (S8 [])) = (DataW.held (S8 (lookD l p)) : DataW Value) := by
    unfold lookD
    cases look l p <;> rfl
  rw [hz] at h5 h7
  have e1 : v = S8 (lookD l p) := DataW.held.inj (congrArg Prod.fst (Option.some.inj h5))
  have e2 : v' = S8 (lookD l p) := DataW.held.inj (congrArg Prod.fst (Option.some.inj h7))
  subst e1
  subst e2
  exact ⟨h4, h6⟩
section
variable {ops : Array Oper} {rest : List Oper} {o : Oper} {a : Act} {Q : Exit → Act → World → Prop} {w : World}
end

end Go.Proofs.YtfimfbdlegookaaGreatDoor

/-! marlaw8.RefsApart. Conditions: as each theorem states. -/
namespace Go.Proofs.YtfimfbdlegookaaGreatDoor
open Go Go.RowKit
set_option linter.unusedVariables false
set_option linter.unusedSimpArgs false
set_option linter.unusedSectionVars false

def underB (d s : B8) : Bool := pathB d && (pathB s && isUnder d s)
variable [Inhabited BaseW]
/-- A block of the call's own that lies apart is written. -/
theorem One.grown {w0 w w' : World} {S O : Nat → Prop} {f : Value} {m : Fs} {b : Nat} (h : One w0 S O w f m) (hg : w.grownBy w' (some b)) (hb : w0.heap.size ≤ b) (hO : ¬ O b) (hS : ¬ S b) (hu : ¬ IsU8 w b) : One w0 S O w' f m := by
  have hs := hg.size
  have hne : ∀ k, k ≠ b → k < w.heap.size → w'.heap[k]? = w.heap[k]? := fun k hk hlt => hg.block k hlt (fun e => hk (Option.some.inj e))
  refine ⟨Ext.of_fr h.ext (Fr.of_grown (O := fun k => k = b) hg rfl hu) (fun k hk => by omega), (h.fs.stay (fun k hk hlt => hne k (fun e => hO (e ▸ hk)) hlt) (fun k hk hlt => hne k (fun e => hS (e ▸ hk)) hlt) (grown_keepR hg hu)).mono (fun _ h => h) (fun k hk => by omega), fun k hk => by have := h.lo k hk; omega, fun k hk => by have := h.loS k hk; omega, h.disS⟩
def hvOf (hl : Files) (k : B8) : Option B8 := (look hl k).map (·.data)
def lkO (lk : B8) : Option B8 := if pathB (lockP lk) = true then some lk else none
/-- What the law asks of a name beside the lock. -/
def hitB (lk n : B8) : Bool := n == lk || (underB (lockP lk) (lockP n) || underB (lockP n) (lockP lk))
end Go.Proofs.YtfimfbdlegookaaGreatDoor

/-! A ref that is set while all may fail and fall: it is what it was, or new; the others stay: in plain Lean. Conditions: as each theorem states. -/
namespace Go.Proofs.YtfimfbdlegookaaGreatDoor
open Go Go.RowKit

/-- No user does a thing. -/
def NoUser (l : List Ev) : Prop := ∀ e ∈ l, e.kind ≠ 4 ∧ e.kind ≠ 5
/-- What stands there, and whatever may stand there behind a crash. -/
structure Sf (X : Files → Prop) (m : Fs) : Prop where
  user : NoUser m.plan
  room : 100000 ≤ m.room
  now : X m.now
  dn : m.down = true → m.sure = m.now ∧ m.pend = []
  up : m.down = false → ∀ keep torn, X (fallen m keep torn)
variable {X Y : Files → Prop} {m : Fs}
theorem Sf.mono (h : Sf X m) (hxy : ∀ F, X F → Y F) : Sf Y m := ⟨h.user, h.room, hxy _ h.now, h.dn, fun hu k t => hxy _ (h.up hu k t)⟩
theorem crash_down (k t : Int) : (crash m k t).down = true := by
  unfold crash
  split
  · rename_i h; exact h
  · rfl
/-! ### What a call that answers well has done -/
theorem put_ok {r : Fs × Bool × Int} {path : B8} {mode : Int} {data : B8} {only : Bool} (h : (putM r path mode data only).2 = 0) : r.2.2 = 0 ∧ (putM r path mode data only).1 = does r.1 (.put path ⟨mode, data, 0⟩) := by
  unfold putM at h ⊢
  by_cases h1 : r.2.2 ≠ 0
  · rw [if_pos h1] at h; exact (h1 h).elim
  · rw [if_neg h1] at h ⊢
    by_cases h2 : wrongE path mode data ≠ 0
    · rw [if_pos h2] at h; exact (h2 h).elim
    · rw [if_neg h2] at h ⊢
      by_cases h3 : only = true ∧ (look r.1.now path).isSome = true
      · rw [if_pos h3] at h; cases h
      · rw [if_neg h3] at h ⊢
        exact ⟨by simpa using h1, by rw [puts_zero h]⟩
theorem puts_no {m : Fs} {path : B8} {mode : Int} {data : B8} {fits : Bool} (h : (putsM m path mode data fits).2 ≠ 0) : (putsM m path mode data fits).1 = m := by
  unfold putsM at h ⊢
  split
  · rfl
  · split
    · rfl
    · rename_i h1 h2
      rw [if_neg h1, if_neg h2] at h
      exact (h rfl).elim
theorem put_no {r : Fs × Bool × Int} {path : B8} {mode : Int} {data : B8} {only : Bool} (h : (putM r path mode data only).2 ≠ 0) : (putM r path mode data only).1 = r.1 := by
  unfold putM at h ⊢
  by_cases h1 : r.2.2 ≠ 0
  · rw [if_pos h1]
  · rw [if_neg h1] at h ⊢
    by_cases h2 : wrongE path mode data ≠ 0
    · rw [if_pos h2]
    · rw [if_neg h2] at h ⊢
      by_cases h3 : only = true ∧ (look r.1.now path).isSome = true
      · rw [if_pos h3]
      · rw [if_neg h3] at h ⊢
        exact puts_no h
theorem mv_no {r : Fs × Bool × Int} {s d : B8} {fresh : Bool} (h : (mvM r s d fresh).2 ≠ 0) : (mvM r s d fresh).1 = r.1 := by
  unfold mvM at h ⊢
  split
  · rfl
  · split
    · rfl
    · split
      · rfl
      · split
        · rfl
        · split
          · rfl
          · split
            · rfl
            · rename_i h1 h2 h3 h4 h5 h6
              rw [if_neg h1, if_neg h2, if_neg h3, if_neg h4, if_neg h5, if_neg h6] at h
              exact (h rfl).elim
theorem mv_ok {r : Fs × Bool × Int} {s d : B8} {fresh : Bool} (hne : s ≠ d) (h : (mvM r s d fresh).2 = 0) : r.2.2 = 0 ∧ (mvM r s d fresh).1 = does r.1 (.mv s d) := by
  unfold mvM at h ⊢
  by_cases h1 : r.2.2 ≠ 0
  · rw [if_pos h1] at h; exact (h1 h).elim
  · rw [if_neg h1] at h ⊢
    by_cases h2 : pathB s = false ∨ pathB d = false
    · rw [if_pos h2] at h; cases h
    · rw [if_neg h2] at h ⊢
      by_cases h3 : (look r.1.now s).isNone = true
      · rw [if_pos h3] at h; cases h
      · rw [if_neg h3] at h ⊢
        by_cases h4 : (look r.1.now d).isSome = true ∧ fresh = true
        · rw [if_pos h4] at h; cases h
        · rw [if_neg h4, if_neg hne] at h ⊢
          by_cases h5 : (look r.1.now d).isNone = true ∧ mayF r.1.now d s = false
          · rw [if_pos h5] at h; cases h
          · rw [if_neg h5]
            exact ⟨by simpa using h1, rfl⟩
/-! ### Files with a lock more -/
variable {F : Files} {hv : B8 → Option B8} {n : Nat}
def XA (hv : B8 → Option B8) (k : B8) (n : Nat) (F : Files) : Prop := ApF F none hv n ∨ ApF F (some k) hv n
def XB (hv : B8 → Option B8) (k b : B8) (n : Nat) (F : Files) : Prop := ApF F none (updH hv k b) n
def XAB (hv : B8 → Option B8) (k b : B8) (n : Nat) (F : Files) : Prop := XA hv k n F ∨ XB hv k b n F
/-- The lock stands, not durable. -/
structure Mid1 (F : Files) (k b : B8) (t : Int) (m : Fs) : Prop where
  now : m.now = putF F (lockP k) ⟨1, lineM b, t⟩
  sure : m.sure = F
  pend : m.pend = [.put (lockP k) ⟨1, lineM b, t⟩]
theorem Mid1.calls {k b : B8} {t : Int} (h : Mid1 F k b t m) (c : Nat) : Mid1 F k b t { m with calls := c } := ⟨h.now, h.sure, h.pend⟩
/-! ### What is told -/
def isF (F : Files) (k id : B8) : Bool := if id = [] then (look F (placeP k)).isNone else match look F (placeP k) with | some x => x.data == lineM id | none => false
end Go.Proofs.YtfimfbdlegookaaGreatDoor

/-! A store of objects over a file system: what Put does; whatever fails and falls, each place has bytes of its hash: in plain Lean. Conditions: as each theorem states. -/
namespace Go.Proofs.YtfimfbdlegookaaGreatDoor
open Go Go.RowKit

def tempP : B8 := [115, 47, 116]
def placeO (id : B8) : B8 := [115, 47, 111, 47] ++ id
def putEnd (x : Fs × Int) (id : B8) : Fs × B8 × Int :=
  if x.2 ≠ 0 then (x.1, [], x.2) else if (moveM x.1 tempP (placeO id) false).2 ≠ 0 then ((moveM x.1 tempP (placeO id) false).1, [], (moveM x.1 tempP (placeO id) false).2)
  else ((moveM x.1 tempP (placeO id) false).1, id, 0)
def putO (m : Fs) (b : B8) : Fs × B8 × Int :=
  if 20000 < b.length then (m, [], 3)
  else if (readM m (placeO (shaM b))).2.2 = 0 ∧ (readM m (placeO (shaM b))).2.1.data = b then ((readM m (placeO (shaM b))).1, shaM b, 0)
  else if (readM m (placeO (shaM b))).2.2 = 0 ∧ shaM (readM m (placeO (shaM b))).2.1.data = shaM b then ((readM m (placeO (shaM b))).1, [], 5)
  else if (readM m (placeO (shaM b))).2.2 ≠ 0 ∧ (readM m (placeO (shaM b))).2.2 ≠ 7 then ((readM m (placeO (shaM b))).1, [], (readM m (placeO (shaM b))).2.2)
  else putEnd (writeM (readM m (placeO (shaM b))).1 tempP 1 b) (shaM b)

theorem temp_place {a : B8} : tempP ≠ placeO a := fun h => by
  unfold tempP placeO at h
  simp at h
/-- Each file is what was begun, or lies where its hash says. -/
def XO (F : Files) : Prop := ∀ e ∈ F, e.1 = tempP ∨ e.1 = placeO (shaM e.2.data)
theorem xo_temp {F : Files} (h : XO F) (f : Fi) : XO (putF F tempP f) := fun e he => by
  rcases mem_put.1 he with rfl | ⟨he, -⟩
  · exact .inl rfl
  · exact h e he
theorem xo_place {F : Files} (h : XO F) {f : Fi} : XO (putF (delF F tempP) (placeO (shaM f.data)) f) := fun e he => by
  rcases mem_put.1 he with rfl | ⟨he, -⟩
  · exact .inr rfl
  · exact h e (mem_del.1 he).1
/-- What is pending writes what is begun, or moves it. -/
def ChO : Ch → Prop
  | .put p _ => p = tempP
  | .mv s _ => s = tempP
  | .del _ => False
structure Wh (m : Fs) (told : List B8) : Prop where
  user : NoUser m.plan
  now : XO m.now
  dn : m.down = true → m.sure = m.now ∧ m.pend = []
  up : m.down = false → (∀ k, XO ((m.pend.take k).foldl ap m.sure)) ∧ (∀ c ∈ m.pend, ChO c) ∧ ∀ id ∈ told, (look m.now (placeO id)).isSome = true
theorem wh_fallen {m : Fs} {told : List B8} (h : Wh m told) (hd : m.down = false) (keep torn : Int) : XO (fallen m keep torn) := by
  obtain ⟨h1, h2, -⟩ := h.up hd
  unfold fallen torn1
  split
  · rename_i p f hk
    have hp : p = tempP := h2 _ (List.mem_of_getElem? hk)
    subst hp
    split
    · exact xo_temp (h1 _) _
    · exact h1 _
  · exact h1 _
theorem wh_crash {m : Fs} {told : List B8} (h : Wh m told) (keep torn : Int) : Wh (crash m keep torn) told := by
  unfold crash
  split
  · exact h
  · rename_i hd
    exact ⟨h.user, wh_fallen h (by simpa using hd) keep torn, fun _ => ⟨rfl, rfl⟩, fun e => by cases e⟩
theorem happen_wh {n : Nat} {x : Fs × Bool × Bool} {e : Ev} {told : List B8} (hu : e.kind ≠ 4 ∧ e.kind ≠ 5) (h : Wh x.1 told) : Wh (happen n x e).1 told ∧ ((happen n x e).1.down = false → (happen n x e).1 = x.1) := by
  unfold happen
  split
  · exact ⟨h, fun _ => rfl⟩
  · split
    · exact ⟨wh_crash h _ _, fun hd => by rw [crash_down] at hd; cases hd⟩
    · split
      · exact ⟨h, fun _ => rfl⟩
      · split
        · exact ⟨h, fun _ => rfl⟩
        · rw [if_neg hu.1, if_neg hu.2]
          exact ⟨h, fun _ => rfl⟩
theorem fold_wh {n : Nat} {told : List B8} : ∀ (l : List Ev) (x : Fs × Bool × Bool), NoUser l → Wh x.1 told → Wh (l.foldl (happen n) x).1 told ∧ ((l.foldl (happen n) x).1.down = false → (l.foldl (happen n) x).1 = x.1)
  | [], x, _, h => ⟨h, fun _ => rfl⟩
  | e :: l, x, hu, h => by
    obtain ⟨h1, h2⟩ := happen_wh (n := n) (hu e (by simp)) h
    obtain ⟨h3, h4⟩ := fold_wh l (happen n x e) (fun d hd => hu d (by simp [hd])) h1
    exact ⟨h3, fun hd => by
      have h5 := h4 hd
      have hd' : (l.foldl (happen n) (happen n x e)).1.down = false := hd
      rw [h5] at hd'
      exact h5.trans (h2 hd')⟩
theorem call_wh {m : Fs} {told : List B8} (h : Wh m told) : Wh (callM m).1 told ∧ ((callM m).1.down = false → (callM m).1 = { m with calls := m.calls + 1 }) ∧ ((callM m).2.2 = 0 → (callM m).1.down = false) := by
  obtain ⟨h1, h2⟩ := fold_wh (n := m.calls + 1) m.plan ({ m with calls := m.calls + 1 }, false, false) h.user ⟨h.user, h.now, h.dn, h.up⟩
  refine ⟨h1, h2, fun h0 => ?_⟩
  unfold callM at h0 ⊢
  simp only at h0 ⊢
  by_cases hd : (List.foldl (happen (m.calls + 1)) ({ m with calls := m.calls + 1 }, false, false) m.plan).1.down = true
  · rw [if_pos hd] at h0; cases h0
  · simpa using hd
theorem wh_does {m : Fs} {told told' : List B8} {c : Ch} (hok : OkM m) (h : Wh m told) (hd : m.down = false) (hc : ChO (c.at (m.time + 1))) (hx : XO (ap m.now (c.at (m.time + 1)))) (ht : ∀ id ∈ told', (look (ap m.now (c.at (m.time + 1))) (placeO id)).isSome = true) : Wh (does m c) told' := by
  obtain ⟨h1, h2, h3⟩ := h.up hd
  refine ⟨h.user, hx, fun e => ?_, fun _ => ⟨fun k => ?_, fun d hdm => ?_, ht⟩⟩
  · have e : m.down = true := e
    rw [hd] at e; cases e
  · show XO (((m.pend ++ [c.at (m.time + 1)]).take k).foldl ap m.sure)
    by_cases hk : k ≤ m.pend.length
    · rw [List.take_append_of_le_length hk]; exact h1 k
    · rw [List.take_of_length_le (by simp; omega), List.foldl_append, hok.fold]
      exact hx
  · rcases List.mem_append.1 hdm with hdm | hdm
    · exact h2 d hdm
    · rw [List.mem_singleton.1 hdm]; exact hc
theorem look_put_some {l : Files} {p q : B8} {f : Fi} (h : (look l q).isSome = true) : (look (putF l p f) q).isSome = true := by
  by_cases hp : p = q
  · rw [hp, look_putF_same]; rfl
  · rw [look_putF_ne hp]; exact h
/-- An object is put, while all may fail and fall. -/
theorem put_wh {m : Fs} {told : List B8} (hok : OkM m) (hpl : PlanOk m) (h : Wh m told) (b : B8) :
    ((putO m b).2.2 ≠ 0 → (putO m b).2.1 = [] ∧ Wh (putO m b).1 told) ∧ ((putO m b).2.2 = 0 → (putO m b).2.1 = shaM b ∧ Wh (putO m b).1 (told ++ [shaM b])) := by
  obtain ⟨c1, c2, c3⟩ := call_wh h
  have hr1 : (readM m (placeO (shaM b))).1 = (callM m).1 := read_fst _ _
  have hokc : OkM (callM m).1 := (call_left hok hpl).1.ok
  have hplc : PlanOk (callM m).1 := ⟨by rw [(call_left hok hpl).1.plan]; exact hpl.len, by rw [(call_left hok hpl).1.plan]; exact hpl.ev⟩
  unfold putO
  by_cases hl : 20000 < b.length
  · rw [if_pos hl]
    exact ⟨fun _ => ⟨rfl, h⟩, fun e => by cases e⟩
  rw [if_neg hl]
  by_cases h1 : (readM m (placeO (shaM b))).2.2 = 0 ∧ (readM m (placeO (shaM b))).2.1.data = b
  · rw [if_pos h1]
    refine ⟨fun e => (e rfl).elim, fun _ => ⟨rfl, ?_⟩⟩
    show Wh (readM m (placeO (shaM b))).1 _
    rw [hr1]
    have h0 : (callM m).2.2 = 0 ∧ (look (callM m).1.now (placeO (shaM b))).isSome = true := by
      have h9 := h1.1
      unfold readM at h9
      by_cases hc : (callM m).2.2 ≠ 0
      · rw [if_pos hc] at h9; exact (hc h9).elim
      · rw [if_neg hc] at h9
        refine ⟨by simpa using hc, ?_⟩
        by_cases hp : pathB (placeO (shaM b)) = false
        · rw [if_pos hp] at h9; cases h9
        · rw [if_neg hp] at h9
          cases hq : look (callM m).1.now (placeO (shaM b)) with
          | none => rw [hq] at h9; cases h9
          | some f => rfl
    have hd := c3 h0.1
    obtain ⟨u1, u2, u3⟩ := c1.up hd
    refine ⟨c1.user, c1.now, c1.dn, fun _ => ⟨u1, u2, fun id hid => ?_⟩⟩
    rcases List.mem_append.1 hid with hid | hid
    · exact u3 id hid
    · rw [List.mem_singleton.1 hid]; exact h0.2
  rw [if_neg h1]
  by_cases h2 : (readM m (placeO (shaM b))).2.2 = 0 ∧ shaM (readM m (placeO (shaM b))).2.1.data = shaM b
  · rw [if_pos h2]
    refine ⟨fun _ => ⟨rfl, ?_⟩, fun e => by cases e⟩
    show Wh (readM m (placeO (shaM b))).1 _
    rw [hr1]; exact c1
  rw [if_neg h2]
  by_cases h3 : (readM m (placeO (shaM b))).2.2 ≠ 0 ∧ (readM m (placeO (shaM b))).2.2 ≠ 7
  · rw [if_pos h3]
    refine ⟨fun _ => ⟨rfl, ?_⟩, fun e => (h3.1 e).elim⟩
    show Wh (readM m (placeO (shaM b))).1 _
    rw [hr1]; exact c1
  rw [if_neg h3, hr1]
  obtain ⟨m1, hm1⟩ : ∃ m1, (callM m).1 = m1 := ⟨_, rfl⟩
  rw [hm1] at c1 hokc hplc ⊢
  obtain ⟨d1, d2, d3⟩ := call_wh c1
  have hoc := (call_left hokc hplc).1.ok
  have hopl : PlanOk (callM m1).1 := ⟨by rw [(call_left hokc hplc).1.plan]; exact hplc.len, by rw [(call_left hokc hplc).1.plan]; exact hplc.ev⟩
  unfold putEnd
  by_cases h4 : (writeM m1 tempP 1 b).2 = 0
  case neg =>
    rw [if_pos h4]
    have hn : (writeM m1 tempP 1 b).1 = (callM m1).1 := put_no h4
    exact ⟨fun _ => ⟨rfl, by show Wh (writeM m1 tempP 1 b).1 _; rw [hn]; exact d1⟩, fun e => (h4 e).elim⟩
  rw [if_neg (by simpa using h4)]
  obtain ⟨e1, e2⟩ : (callM m1).2.2 = 0 ∧ (writeM m1 tempP 1 b).1 = does (callM m1).1 (.put tempP ⟨1, b, 0⟩) := put_ok h4
  have hd2 := d3 e1
  obtain ⟨m2, hm2⟩ : ∃ m2, (writeM m1 tempP 1 b).1 = m2 := ⟨_, rfl⟩
  have w2 : Wh m2 told := by
    rw [← hm2, e2]
    refine wh_does hoc d1 hd2 rfl (xo_temp d1.now _) (fun id hid => ?_)
    exact look_put_some ((d1.up hd2).2.2 id hid)
  have l2 : ∃ t, look m2.now tempP = some ⟨1, b, t⟩ := by
    rw [← hm2, e2]
    exact ⟨_, look_putF_same _ _ _⟩
  have ok2 : OkM m2 := by
    rw [← hm2, e2]
    exact ok_does hoc (show pathB tempP = true ∧ b.length ≤ 20000 from ⟨by decide, by omega⟩) (fun s d e => by cases e)
  have pl2 : PlanOk m2 := by
    rw [← hm2, e2]
    exact ⟨hopl.len, hopl.ev⟩
  rw [hm2]
  clear hm2 e1 e2
  obtain ⟨f1, f2, f3⟩ := call_wh w2
  have hoc2 := (call_left ok2 pl2).1.ok
  by_cases h5 : (moveM m2 tempP (placeO (shaM b)) false).2 = 0
  case neg =>
    rw [if_pos h5]
    have hn : (moveM m2 tempP (placeO (shaM b)) false).1 = (callM m2).1 := mv_no h5
    exact ⟨fun _ => ⟨rfl, by show Wh (moveM m2 tempP (placeO (shaM b)) false).1 _; rw [hn]; exact f1⟩, fun e => (h5 e).elim⟩
  rw [if_neg (by simpa using h5)]
  obtain ⟨e1, e2⟩ : (callM m2).2.2 = 0 ∧ (moveM m2 tempP (placeO (shaM b)) false).1 = does (callM m2).1 (.mv tempP (placeO (shaM b))) := mv_ok temp_place h5
  have hd3 := f3 e1
  have hcm := f2 hd3
  obtain ⟨t, ht⟩ := l2
  have hlk : look (callM m2).1.now tempP = some ⟨1, b, t⟩ := by rw [hcm]; exact ht
  have hap : ap (callM m2).1.now (.mv tempP (placeO (shaM b))) = putF (delF (callM m2).1.now tempP) (placeO (shaM b)) ⟨1, b, t⟩ := by
    show (match look (callM m2).1.now tempP with | some x => putF (delF (callM m2).1.now tempP) (placeO (shaM b)) x | none => (callM m2).1.now) = _
    rw [hlk]
  refine ⟨fun e => (e rfl).elim, fun _ => ⟨rfl, ?_⟩⟩
  show Wh (moveM m2 tempP (placeO (shaM b)) false).1 _
  rw [e2]
  refine wh_does hoc2 f1 hd3 rfl ?_ (fun id hid => ?_)
  · show XO (ap (callM m2).1.now (.mv tempP (placeO (shaM b))))
    rw [hap]
    exact xo_place f1.now (f := ⟨1, b, t⟩)
  · show (look (ap (callM m2).1.now (.mv tempP (placeO (shaM b)))) (placeO id)).isSome = true
    rw [hap]
    rcases List.mem_append.1 hid with hid | hid
    · refine look_put_some ?_
      rw [look_delF_ne temp_place]
      exact (f1.up hd3).2.2 id hid
    · rw [List.mem_singleton.1 hid, look_putF_same]; rfl

end Go.Proofs.YtfimfbdlegookaaGreatDoor
